/- VmArrays: an array has as many elements as it was made with, and each keeps what is put into it: for every input the law answers true: the row. Conditions: none but the row's own. -/
import Derived.Test.YtchlbfmjnhgpgaaGreatPack4
import Derived.Test.YtchlbfmjnhgpgaaGreatRows
import Derived.ChangeMaps5
import Derived.RowKitTokens
import Derived.ProofKit
import Derived.ChangeAt2
namespace Go.Proofs.YtchlbfmjnhgpgaaGreat.Idl
open Go
set_option maxHeartbeats 8000000
set_option maxRecDepth 100000
set_option linter.unusedSimpArgs false
theorem st_int : ST 28 3 1 8 := ⟨by simp, by simp, by simp, ⟨_, by simp; rfl, by simp [Value.cells]⟩, by decide, by decide⟩
theorem st_shape : ST 23 90 3 48 := ⟨by simp, by simp, by simp, ⟨_, by simp; rfl, by simp [Value.cells]⟩, by decide, by decide⟩
theorem st_instr : ST 54 30 9 120 := ⟨by simp, by simp, by simp, ⟨_, by simp; rfl, by simp [Value.cells]⟩, by decide, by decide⟩
theorem app_full {H : IH} {st e : TypeId} {k by_ : Nat} (hT : ST st e k by_) {xb o m c b len cap : Nat} {new cs : List Value} {pr : Bool} (h1 : icells H ⟨xb, o, none⟩ (m * k) = some new) (h2 : new.length = m * k) (hm : 0 < m) (hb : len + m ≤ 20000000)
    (hg : H.get b = some (.cells cs e pr)) (hl : len * k ≤ cs.length) (hp : new.all plain1 = true) (hc : cap < capU) (hf : cap < len + m) :
    iappend J #[st, st] (.slice (some ⟨b, 0, none⟩) len cap) (.slice (some ⟨xb, o, none⟩) m c) H = some (.slice (some ⟨H.next, 0, none⟩) (len + m) capU, H.push (.cells (cs.take (len * k) ++ new) e false)) := by
  obtain ⟨z, hz, hzk⟩ := hT.zero
  have e1 : (len + m) * (3 * by_) ≤ 2 ^ 47 := by
    have : (len + m) * (3 * by_) ≤ 20000000 * 3000 := Nat.mul_le_mul hb (by have := hT.big; omega)
    omega
  have e2 : by_ ≤ 2 ^ 30 := by have := hT.big; omega
  have e3 : m ≠ 0 := by omega
  have e5 : cap ≠ capU := by omega
  have e6 : ¬ len + m ≤ cap := by omega
  simp only [iappend, List.getElem?_toArray, List.getElem?_cons_zero, List.getElem?_cons_succ, hT.und, hT.size, hT.bytes, hz, ilenOf, ifirst, e3, if_false, e1, hT.pos, e2, hzk, true_and, and_self, if_true, h1, h2, hg, hp, Nat.zero_add, hl, List.drop_zero, e5, e6]
def intsC (l : List Int) : List Value := l.map intV
def WiAt (H : IH) (lo : Nat) (u : Value) (ws : List Int) : Prop :=
  (u = .slice none 0 0 ∧ ws = []) ∨ ∃ b, lo ≤ b ∧ b < H.next ∧ u = .slice (some ⟨b, 0, none⟩) ws.length capU ∧ H.get b = some (.cells (intsC ws) 3 false)
theorem app_int {H : IH} {lo : Nat} {u : Value} {ws : List Int} (h : WiAt H lo u ws) (hlo : lo ≤ H.next) (hl : ws.length ≤ 1000000) (w : Int) :
    ∃ u' H', iappend J #[28, 28] u (.slice (some ⟨H.next, 0, none⟩) 1 1) (H.push (.cells [.int .i64 w] 3 false)) = some (u', H') ∧ WiAt H' lo u' (ws ++ [w]) ∧ Fr lo H H' := by
  have h1 : icells (H.push (.cells [.int .i64 w] 3 false)) ⟨H.next, 0, none⟩ (1 * 1) = some [.int .i64 w] := by simp [IH.get_push]
  have hn : (H.push (.cells [.int .i64 w] 3 false)).next = H.next + 1 := by simp
  rcases h with ⟨rfl, rfl⟩ | ⟨b, b1, b2, rfl, b4⟩
  · have := app_nil st_int (c := 1) h1 (by simp) (by omega) (by omega)
    rw [hn] at this
    refine ⟨_, _, this, .inr ⟨H.next + 1, by omega, by simp, by simp, ?_⟩, ((Fr.refl _ _).push hlo _).push (by simp; omega) _⟩
    rw [show H.next + 1 = (H.push (.cells [.int .i64 w] 3 false)).next by simp, IH.get_push_same]; rfl
  · have hg : (H.push (.cells [.int .i64 w] 3 false)).get b = some (.cells (intsC ws) 3 false) := by rw [IH.get_push_other _ _ _ b2]; exact b4
    have hwl : (intsC ws).length = ws.length := by simp [intsC]
    have := app_some st_int (c := 1) (len := ws.length) h1 (by simp) (by omega) (by omega) hg (by rw [hwl]; omega) (by simp [plain1])
    rw [hn] at this
    refine ⟨_, _, this, .inr ⟨H.next + 1, by omega, by simp, by simp, ?_⟩, (((Fr.refl _ _).push hlo _).set b1 _).push (by simp; omega) _⟩
    rw [show H.next + 1 = ((H.push (.cells [.int .i64 w] 3 false)).set b .dead).next by simp, IH.get_push_same]
    rw [List.take_of_length_le (by rw [hwl]; omega)]; simp [intsC, intV]
theorem WiAt.mono {H H' : IH} {lo : Nat} {u : Value} {ws : List Int} (h : WiAt H lo u ws) (hn : H.next ≤ H'.next) (hx : ∀ x ∈ bOf u, H'.get x = H.get x) : WiAt H' lo u ws := by
  rcases h with h | ⟨b, b1, b2, b3, b4⟩
  · exact .inl h
  · exact .inr ⟨b, b1, by omega, b3, (hx b (by simp [b3, bOf])).trans b4⟩
theorem WiAt.ints {H : IH} {lo lo' : Nat} {u : Value} {ws : List Int} (h : WiAt H lo u ws) (hl : H.next ≤ lo') : IntsAt H lo' u ws := by
  rcases h with ⟨rfl, rfl⟩ | ⟨b, b1, b2, rfl, b4⟩
  · exact LAt.nil
  · exact LAt.mk rfl (by omega) fun i hi => CellAt.one b4 (by simp [intsC, hi])
section
variable {H : IH}
theorem loop29 (bb n : Nat) (vc : Value) (hn : n ≤ 1000) (hbb : bb < H.next) (K : Nat → Value) (hvc : ∃ a m c, vc = .slice a m c) : ∀ (d i : Nat) (T : Regs) (H' : IH) (vi : Value), i + d = n → H.next ≤ H'.next → (∀ x, x < H.next → x ≠ bb → H'.get x = H.get x) → H'.get bb = some (.cells [vi, vc] 56 false) → WiAt H' H.next vi (List.replicate i (-1)) →
    (∀ t, t < 28 → T.at t = K t) → K 8 = ptrV bb → K 27 = .int .i64 (n : Int) → T.at 28 = .int .i64 (i : Int) →
    ∃ T' H'' vi', run J okAll (.loop L29_0) T H' = some (.exit 0, T', H'') ∧ H.next ≤ H''.next ∧ (∀ x, x < H.next → x ≠ bb → H''.get x = H.get x) ∧ H''.get bb = some (.cells [vi', vc] 56 false) ∧ WiAt H'' H.next vi' (List.replicate n (-1)) ∧ (∀ t, t < 28 → T'.at t = K t) := by
  intro d
  induction d with
  | zero =>
    intro i T H' vi hd hnx hx hg hw hK k8 k27 t28
    have : i = n := by omega
    subst this
    have t27 := (hK 27 (by omega)).trans k27
    obtain ⟨T', key⟩ : ∃ T', run J okAll (.loop L29_0) T H' = some (.exit 0, T', H') ∧ (∀ t, t < 28 → T'.at t = K t) := by
      rw [r_loop]
      simp [L29_0, t27, t28]
      exact fun t ht => by simp (disch := omega) only [at_set_om]; exact hK t ht
    exact ⟨T', H', vi, key.1, hnx, hx, hg, hw, key.2⟩
  | succ d ih =>
    intro i T H' vi hd hnx hx hg hw hK k8 k27 t28
    have hlt : i < n := by omega
    have t27 := (hK 27 (by omega)).trans k27
    have t8 := (hK 8 (by omega)).trans k8
    have hw1 : IntKind.i64.wrap ((i : Int) + 1) = ((i + 1 : Nat) : Int) := by rw [wrap64 _ (by omega) (by omega)]; simp
    obtain ⟨u', H2, a1, a2, a3⟩ := app_int hw hnx (by simp; omega) (-1)
    have hg2 := (a3.2 bb hbb).trans hg
    obtain ⟨ca, cm, cc, rfl⟩ := hvc
    obtain ⟨ua, um, uc, hu'⟩ : ∃ a m c, u' = .slice a m c := by
      rcases a2 with ⟨e, _⟩ | ⟨b, _, _, e, _⟩
      · exact ⟨_, _, _, e⟩
      · exact ⟨_, _, _, e⟩
    obtain ⟨T1, s1, s2, s3⟩ : ∃ T1, run J okAll (.loop L29_0) T H' = run J okAll (.loop L29_0) T1 (H2.set bb (.cells [u', .slice ca cm cc] 56 false)) ∧ (∀ t, t < 28 → T1.at t = K t) ∧ T1.at 28 = .int .i64 ((i + 1 : Nat) : Int) := by
      subst hu'
      simp only [ptrV] at t8
      rw [r_loop]
      simp [L29_0, t8, t27, t28, hlt, hg, iparts, bsi1, a1, hg2, istore, Value.cells, plain1, overlay, hw1]
      exact ⟨_, rfl, fun t ht => by simp (disch := omega) only [at_set_om]; exact hK t ht, by simp⟩
    rw [s1]
    have hnb : ∀ x ∈ bOf u', x ≠ bb := fun x hm => by
      rcases a2 with ⟨e, _⟩ | ⟨b, e1, _, e, _⟩
      · rw [e] at hm; simp [bOf] at hm
      · rw [e] at hm; simp [bOf] at hm; omega
    refine ih (i + 1) T1 _ u' (by omega) (by have := a3.1; simp; omega) (fun x hx1 hx2 => by rw [IH.get_set, if_neg hx2, a3.2 x hx1]; exact hx x hx1 hx2) (by rw [IH.get_set, if_pos rfl]) ?_ s2 k8 k27 s3
    rw [List.replicate_succ']
    exact a2.mono (by simp) fun x hm => by rw [IH.get_set, if_neg (hnb x hm)]
end
end Go.Proofs.YtchlbfmjnhgpgaaGreat.Idl
namespace Go.Proofs.YtchlbfmjnhgpgaaGreat.Idl
open Go
set_option maxHeartbeats 8000000
set_option maxRecDepth 100000
set_option linter.unusedSimpArgs false
def nMatch : ByteArray := ⟨#[77, 97, 116, 99, 104]⟩
def nDiv : ByteArray := ⟨#[68, 105, 118]⟩
def nSub : ByteArray := ⟨#[83, 117, 98, 115, 99, 114, 105, 112, 116]⟩
def nSize : ByteArray := ⟨#[83, 105, 122, 101]⟩
def mainIm (slots : Nat) (texts : List ByteArray) (code : List Ins) : Img :=
  ⟨[⟨true, []⟩, ⟨false, [0]⟩], [⟨3, [], ⟨#[]⟩⟩, ⟨2, [0], ⟨#[]⟩⟩], texts, [nMatch, nDiv, nSub, nSize], [⟨[], 0, slots, [⟨List.replicate slots (-1), code ++ [ins 1 0 0 0 0 0, ins 22 0 0 0 0 0]⟩]⟩], 0, 0⟩
theorem bsh2 (k : Int) (a : Option Addr) (n c : Nat) : ibuild J 90 [(0, .int .i64 k), (1, .slice a n c)] = some (.agg #[.int .i64 k, .slice a n c, .string ⟨#[]⟩]) := by kernel_rfl
theorem bnames (H : IH) : ibuildSlice J 24 4 [(0, .string ⟨#[77, 97, 116, 99, 104]⟩), (1, .string ⟨#[68, 105, 118]⟩), (2, .string ⟨#[83, 117, 98, 115, 99, 114, 105, 112, 116]⟩), (3, .string ⟨#[83, 105, 122, 101]⟩)] H = some (.slice (some ⟨H.next, 0, none⟩) 4 4, H.push (.cells [.string nMatch, .string nDiv, .string nSub, .string nSize] 9 false)) := by kernel_rfl
theorem bbl1 (b : Option Addr) (m d : Nat) : ibuild J 56 [(1, .slice b m d)] = some (.agg #[.slice none 0 0, .slice b m d]) := by kernel_rfl
section
variable {H : IH}
theorem code2_at {code : List Ins} {cs : List Value} {b lo lo' : Nat} {pr : Bool} (_hcl : code.length ≤ 1000) (hfl : cs.length = code.length * 9) (hg : H.get b = some (.cells (cs ++ (insC (ins 1 0 0 0 0 0) ++ insC (ins 22 0 0 0 0 0))) 30 pr))
    (h : ∀ i (h : i < code.length), InsAt H lo b (i * 9) code[i]) (hl : lo ≤ lo') (hb : b < lo') : LAt lo' 9 (InsAt H lo') (.slice (some ⟨b, 0, none⟩) (code.length + 2) capU) (code ++ [ins 1 0 0 0 0 0, ins 22 0 0 0 0 0]) := by
  refine LAt.mk (by simp) hb fun i hi => ?_
  rw [Nat.zero_add]
  by_cases h1 : i < code.length
  · rw [List.getElem_append_left h1]; exact (h i h1).up hl
  · rw [List.getElem_append_right (by omega)]
    simp only [List.length_append, List.length_cons, List.length_nil] at hi
    have h2 : i = code.length ∨ i = code.length + 1 := by omega
    have q : ∀ j, (cs ++ (insC (ins 1 0 0 0 0 0) ++ insC (ins 22 0 0 0 0 0)))[code.length * 9 + j]? = (insC (ins 1 0 0 0 0 0) ++ insC (ins 22 0 0 0 0 0))[j]? := fun j => by
      rw [List.getElem?_append_right (by omega)]; congr 1; omega
    rcases h2 with rfl | rfl
    · simp only [Nat.sub_self, List.getElem_cons_zero]
      refine InsAt.plain hg (fun j hj => ?_) rfl rfl rfl
      rw [q, List.getElem?_append_left (by simpa [insC] using hj)]
    · simp only [Nat.add_sub_cancel_left, List.getElem_cons_succ, List.getElem_cons_zero]
      refine InsAt.plain hg (fun j hj => ?_) rfl rfl rfl
      rw [show (code.length + 1) * 9 + j = code.length * 9 + (9 + j) by omega, q, List.getElem?_append_right (by simp [insC])]
      congr 1
      simp [insC]
theorem c_main1g {slots : Nat} {texts : List ByteArray} {code : List Ins} {cs : List Value} {ta : Option Addr} {tc cb cc : Nat} (hsl : slots ≤ 200) (ht : LAt H.next 1 (CellAt H 9 Value.string) (.slice ta texts.length tc) texts)
    (hcb : cb < H.next) (hcode : H.get cb = some (.cells cs 30 false)) (hfl : cs.length = code.length * 9) (hins : ∀ (F : IH) (b : Nat) (cs' : List Value), SameB H.next H F → F.get b = some (.cells (cs ++ cs') 30 false) → ∀ i (h : i < code.length), InsAt F H.next b (i * 9) code[i]) (hcl : code.length ≤ 1000) (hcc : cc = code.length) :
    ∃ H' u, cal J okAll 29 #[.int .i64 slots, .slice ta texts.length tc, .slice (some ⟨cb, 0, none⟩) code.length cc] H = some (.ret (ImV.val u (mainIm slots texts code)), H') ∧ Fr H.next H H' ∧ ImvAt H' H'.next u (mainIm slots texts code) := by
  rw [cal29 _ _ (by simp)]
  obtain ⟨n, hn⟩ : ∃ n, n = H.next := ⟨_, rfl⟩
  -- the result's cell, the least image
  obtain ⟨B0, hB0⟩ : ∃ B0, B0 = H.push (.cells [.slice none 0 0, .slice none 0 0, .slice none 0 0, .slice none 0 0, .slice none 0 0, .int .i64 0, .int .i64 0] 27 false) := ⟨_, rfl⟩
  have nB0 : B0.next = n + 1 := by rw [hB0]; simp [hn]
  obtain ⟨H1, c1, f1, n1, l1⟩ := c_Least (H := B0)
  rw [nB0] at c1 f1 l1 n1
  have fB0 : Fr n H B0 := by rw [hB0, hn]; exact (Fr.refl _ _).push (Nat.le_refl _) _
  -- the shapes
  obtain ⟨G1, hG1⟩ : ∃ G1, G1 = ((((H1.push (.cells [.slice none 0 0, .slice none 0 0, .slice none 0 0, .slice none 0 0, .slice none 0 0, .int .i64 0, .int .i64 0] 27 false)).set (n + 1 + 8) (.cells ((leastU (n + 1)).cells (leastIm [])) 27 false)).push (.cells [.int .i64 0] 3 false)).push (.cells [.int .i64 2, .slice (some ⟨n + 1 + 8 + 1, 0, none⟩) 1 1, .string ⟨#[]⟩] 90 false)) := ⟨_, rfl⟩
  have nG1 : G1.next = n + 12 := by rw [hG1]; simp [n1]
  have oG1 : ∀ x, x < n + 1 + 8 → G1.get x = H1.get x := fun x hx => by
    rw [hG1, IH.get_push_other _ _ _ (by simp [n1]; omega), IH.get_push_other _ _ _ (by simp [n1]; omega), IH.get_set, if_neg (by omega), IH.get_push_other _ _ _ (by omega)]
  have gsh : G1.get (n + 1 + 8 + 1 + 1) = some (.cells [.int .i64 2, .slice (some ⟨n + 1 + 8 + 1, 0, none⟩) 1 1, .string ⟨#[]⟩] 90 false) := by rw [hG1]; simp [IH.get_push, n1]
  have ash := app_full st_shape (H := G1) (xb := n + 1 + 8 + 1 + 1) (o := 0) (m := 1) (c := 1) (b := n + 1 + 3) (len := 1) (cap := 1) (new := [.int .i64 2, .slice (some ⟨n + 1 + 8 + 1, 0, none⟩) 1 1, .string ⟨#[]⟩]) (by simp [gsh]) (by simp) (by omega) (by omega) ((oG1 _ (by omega)).trans l1.g3) (by simp) (by simp [plain1]) (by decide) (by omega)
  rw [nG1] at ash
  -- texts, names
  obtain ⟨G2, hG2⟩ : ∃ G2, G2 = ((((G1.push (.cells [.int .i64 3, .slice none 0 0, .string ⟨#[]⟩, .int .i64 2, .slice (some ⟨n + 1 + 8 + 1, 0, none⟩) 1 1, .string ⟨#[]⟩] 90 false)).set (n + 1 + 8) (.cells [.slice (some ⟨n + 1 + 2, 0, none⟩) 2 2, .slice (some ⟨n + 12, 0, none⟩) 2 capU, .slice ta texts.length tc, .slice none 0 0, .slice (some ⟨n + 1 + 7, 0, none⟩) 1 1, .int .i64 0, .int .i64 0] 27 false)).push (.cells [.string nMatch, .string nDiv, .string nSub, .string nSize] 9 false)).set (n + 1 + 8) (.cells [.slice (some ⟨n + 1 + 2, 0, none⟩) 2 2, .slice (some ⟨n + 12, 0, none⟩) 2 capU, .slice ta texts.length tc, .slice (some ⟨n + 12 + 1, 0, none⟩) 4 4, .slice (some ⟨n + 1 + 7, 0, none⟩) 1 1, .int .i64 0, .int .i64 0] 27 false)) := ⟨_, rfl⟩
  have nG2 : G2.next = n + 14 := by rw [hG2]; simp [nG1]
  have oG2 : ∀ x, x < n + 12 → x ≠ n + 1 + 8 → G2.get x = G1.get x := fun x hx hne => by
    rw [hG2, IH.get_set, if_neg hne, IH.get_push_other _ _ _ (by simp [nG1]; omega), IH.get_set, if_neg hne, IH.get_push_other _ _ _ (by omega)]
  -- the code
  obtain ⟨G3, hG3⟩ : ∃ G3, G3 = G2.push (.cells (insC (ins 1 0 0 0 0 0) ++ insC (ins 22 0 0 0 0 0)) 30 false) := ⟨_, rfl⟩
  have nG3 : G3.next = n + 15 := by rw [hG3]; simp [nG2]
  have oG3 : ∀ x, x < n + 14 → G3.get x = G2.get x := fun x hx => by rw [hG3, IH.get_push_other _ _ _ (by omega)]
  have hcb3 : G3.get cb = some (.cells cs 30 false) := by
    rw [oG3 _ (by omega), oG2 _ (by omega) (by omega), oG1 _ (by omega), f1.2 _ (by omega), fB0.2 _ (by omega)]; exact hcode
  have g14 : G3.get (n + 14) = some (.cells (insC (ins 1 0 0 0 0 0) ++ insC (ins 22 0 0 0 0 0)) 30 false) := by rw [hG3, ← nG2, IH.get_push_same]
  have acd := app_full st_instr (H := G3) (xb := n + 14) (o := 0) (m := 2) (c := 2) (b := cb) (len := code.length) (cap := cc) (new := insC (ins 1 0 0 0 0 0) ++ insC (ins 22 0 0 0 0 0)) (by simp [g14, insC]) (by simp [insC]) (by omega) (by omega) hcb3 (by omega) (by simp [insC, plain1, ins]) (by rw [hcc]; exact Nat.lt_of_le_of_lt hcl (by decide)) (by omega)
  rw [nG3, List.take_of_length_le (by omega)] at acd
  obtain ⟨G4, hG4⟩ : ∃ G4, G4 = ((G3.push (.cells (cs ++ (insC (ins 1 0 0 0 0 0) ++ insC (ins 22 0 0 0 0 0))) 30 false)).push (.cells [.slice none 0 0, .slice none 0 0] 56 false)).set (n + 15 + 1) (.cells [.slice none 0 0, .slice (some ⟨n + 15, 0, none⟩) (code.length + 2) capU] 56 false) := ⟨_, rfl⟩
  have nG4 : G4.next = n + 17 := by rw [hG4]; simp [nG3]
  have gi1 : G1.get (n + 1 + 8) = some (.cells ((leastU (n + 1)).cells (leastIm [])) 27 false) := by
    rw [hG1, IH.get_push_other _ _ _ (by simp [n1]), IH.get_push_other _ _ _ (by simp [n1]), IH.get_set, if_pos rfl]
  simp only [ImV.val, ImV.cells, leastU, leastIm] at c1 hG1 gi1
  simp [C29, regsOf, inew, Value.cells, ← hB0, c1, n1, ← hn, IH.get_push, IH.get_set, istore, plain1, overlay, iparts, bsi1, bsh2, bss1, loadT_agg, ← hG1, gi1, ash, nG1, bnames, ← hG2, bi0, bsc2, nG2, ← hG3, acd, bbl1, nG3, ← hG4]
  generalize hX : run J okAll (.loop L29_0) _ _ = X
  obtain ⟨T1, hT, a6, a7, a8, a0, a27, a28⟩ : ∃ T1, run J okAll (.loop L29_0) T1 G4 = X ∧ T1.at 6 = ptrV n ∧ T1.at 7 = ptrV (n + 1 + 8) ∧ T1.at 8 = ptrV (n + 15 + 1) ∧ T1.at 0 = .int .i64 (slots : Int) ∧ T1.at 27 = .int .i64 (slots : Int) ∧ T1.at 28 = .int .i64 ((0 : Nat) : Int) := ⟨_, hX, by simp [ptrV], by simp [ptrV], by simp [ptrV], by simp, by simp, by simp⟩
  have oG4 : ∀ x, x < n + 15 → G4.get x = G3.get x := fun x hx => by
    rw [hG4, IH.get_set, if_neg (by omega), IH.get_push_other _ _ _ (by simp [nG3]; omega), IH.get_push_other _ _ _ (by omega)]
  have gbl : G4.get (n + 15 + 1) = some (.cells [.slice none 0 0, .slice (some ⟨n + 15, 0, none⟩) (code.length + 2) capU] 56 false) := by rw [hG4, IH.get_set, if_pos rfl]
  obtain ⟨T2, H5, vi, e1, e2, e3, e4, e5, e6⟩ := loop29 (H := G4) (n + 15 + 1) slots _ (by omega) (by omega) (fun t => T1.at t) ⟨_, _, _, rfl⟩ slots 0 T1 G4 (.slice none 0 0) (by omega) (Nat.le_refl _) (fun _ _ _ => rfl) gbl (.inl ⟨rfl, rfl⟩) (fun t ht => rfl) a8 a27 a28
  have e1 := hT.symm.trans e1
  subst e1
  have b0 := (e6 0 (by omega)).trans a0
  have b6 := (e6 6 (by omega)).trans a6
  have b7 := (e6 7 (by omega)).trans a7
  have b8 := (e6 8 (by omega)).trans a8
  have o5 : ∀ x, x < n + 15 → H5.get x = G3.get x := fun x hx => by rw [e3 x (by omega) (by omega)]; exact oG4 x hx
  have gim : H5.get (n + 1 + 8) = some (.cells [.slice (some ⟨n + 1 + 2, 0, none⟩) 2 2, .slice (some ⟨n + 12, 0, none⟩) 2 capU, .slice ta texts.length tc, .slice (some ⟨n + 12 + 1, 0, none⟩) 4 4, .slice (some ⟨n + 1 + 7, 0, none⟩) 1 1, .int .i64 0, .int .i64 0] 27 false) := by
    rw [o5 _ (by omega), oG3 _ (by omega), hG2, IH.get_set, if_pos rfl]
  have gl : ∀ x, x < n + 9 → H5.get x = H1.get x := fun x hx => by
    rw [o5 _ (by omega), oG3 _ (by omega), oG2 _ (by omega) (by omega)]; exact oG1 x hx
  have gfn : H5.get (n + 1 + 7) = _ := (gl _ (by omega)).trans l1.g7
  have gn : H5.get n = some (.cells [.slice none 0 0, .slice none 0 0, .slice none 0 0, .slice none 0 0, .slice none 0 0, .int .i64 0, .int .i64 0] 27 false) := by
    rw [gl _ (by omega), f1.2 _ (by omega), hB0, hn, IH.get_push_same]
  have n5 : n + 17 ≤ H5.next := by omega
  obtain ⟨via, vin, vic, rfl⟩ : ∃ a m c, vi = .slice a m c := by
    rcases e5 with ⟨e, _⟩ | ⟨b, _, _, e, _⟩
    · exact ⟨_, _, _, e⟩
    · exact ⟨_, _, _, e⟩
  simp only [ptrV] at b6 b7 b8
  obtain ⟨F, hF⟩ : ∃ F, F = ((H5.push (.cells [.slice via vin vic, .slice (some ⟨n + 15, 0, none⟩) (code.length + 2) capU] 56 false)).set (n + 1 + 7) (.cells [.slice none 0 0, .int .i64 0, .int .i64 (slots : Int), .slice (some ⟨H5.next, 0, none⟩) 1 1] 59 false)).set n (.cells [.slice (some ⟨n + 1 + 2, 0, none⟩) 2 2, .slice (some ⟨n + 12, 0, none⟩) 2 capU, .slice ta texts.length tc, .slice (some ⟨n + 12 + 1, 0, none⟩) 4 4, .slice (some ⟨n + 1 + 7, 0, none⟩) 1 1, .int .i64 0, .int .i64 0] 27 false) := ⟨_, rfl⟩
  have nF : F.next = H5.next + 1 := by rw [hF]; simp
  have oF : ∀ x, x < H5.next → x ≠ n → x ≠ n + 1 + 7 → F.get x = H5.get x := fun x hx h1 h2 => by
    rw [hF, IH.get_set, if_neg h1, IH.get_set, if_neg h2, IH.get_push_other _ _ _ hx]
  have gF : F.get n = some (.cells [.slice (some ⟨n + 1 + 2, 0, none⟩) 2 2, .slice (some ⟨n + 12, 0, none⟩) 2 capU, .slice ta texts.length tc, .slice (some ⟨n + 12 + 1, 0, none⟩) 4 4, .slice (some ⟨n + 1 + 7, 0, none⟩) 1 1, .int .i64 0, .int .i64 0] 27 false) := by rw [hF, IH.get_set, if_pos rfl]
  have gF7 : F.get (n + 1 + 7) = some (.cells [.slice none 0 0, .int .i64 0, .int .i64 (slots : Int), .slice (some ⟨H5.next, 0, none⟩) 1 1] 59 false) := by rw [hF, IH.get_set, if_neg (by omega), IH.get_set, if_pos rfl]
  have gFb : F.get H5.next = some (.cells [.slice via vin vic, .slice (some ⟨n + 15, 0, none⟩) (code.length + 2) capU] 56 false) := by rw [hF, IH.get_set, if_neg (by omega), IH.get_set, if_neg (by omega), IH.get_push_same]
  have m1 : ¬ n + 1 + 8 = H5.next := by omega
  have m2 : ¬ n + 1 + 7 = H5.next := by omega
  have m3 : ¬ n = H5.next := by omega
  have m4 : ¬ n = n + 1 + 7 := by omega
  refine ⟨F, ⟨.slice (some ⟨n + 1 + 2, 0, none⟩) 2 2, .slice (some ⟨n + 12, 0, none⟩) 2 capU, .slice ta texts.length tc, .slice (some ⟨n + 12 + 1, 0, none⟩) 4 4, .slice (some ⟨n + 1 + 7, 0, none⟩) 1 1⟩, ?_, ⟨by omega, fun x hx => ?_⟩, ?_⟩
  · simp only [ImV.val, ImV.cells, mainIm]
    simp [b0, b6, b7, b8, gim, gfn, gn, e4, loadT_agg, iparts, bsb1, bfn, iindexAddr, istore, Value.cells, plain1, overlay, IH.get_push, IH.get_set, m1, m2, m3, m4, ← hF, gF, fin, iresult1]
  · rw [oF x (by omega) (by omega) (by omega), gl x (by omega), f1.2 x (by omega), fB0.2 x hx]
  · have q : ∀ x, x < n + 9 → x ≠ n → x ≠ n + 1 + 7 → F.get x = H1.get x := fun x hx h1 h2 => (oF x (by omega) h1 h2).trans (gl x hx)
    have q2 : ∀ x, x < n + 15 → x ≠ n → x ≠ n + 1 + 7 → F.get x = G3.get x := fun x hx h1 h2 => (oF x (by omega) h1 h2).trans (o5 x hx)
    have s1 : F.get (n + 12) = some (.cells [.int .i64 3, .slice none 0 0, .string ⟨#[]⟩, .int .i64 2, .slice (some ⟨n + 1 + 8 + 1, 0, none⟩) 1 1, .string ⟨#[]⟩] 90 false) := by
      rw [q2 _ (by omega) (by omega) (by omega), oG3 _ (by omega), hG2, IH.get_set, if_neg (by omega), IH.get_push_other _ _ _ (by simp [nG1]), IH.get_set, if_neg (by omega), ← nG1, IH.get_push_same]
    have s2 : F.get (n + 1 + 8 + 1) = some (.cells [.int .i64 0] 3 false) := by
      rw [q2 _ (by omega) (by omega) (by omega), oG3 _ (by omega), oG2 _ (by omega) (by omega), hG1, IH.get_push_other _ _ _ (by simp [n1])]
      rw [show n + 1 + 8 + 1 = ((H1.push (.cells [.slice none 0 0, .slice none 0 0, .slice none 0 0, .slice none 0 0, .slice none 0 0, .int .i64 0, .int .i64 0] 27 false)).set (n + 1 + 8) (.cells [.slice (some ⟨n + 1 + 2, 0, none⟩) 2 2, .slice (some ⟨n + 1 + 3, 0, none⟩) 1 1, .slice none 0 0, .slice none 0 0, .slice (some ⟨n + 1 + 7, 0, none⟩) 1 1, .int .i64 0, .int .i64 0] 27 false)).next by simp [n1], IH.get_push_same]
    have s3 : F.get (n + 12 + 1) = some (.cells [.string nMatch, .string nDiv, .string nSub, .string nSize] 9 false) := by
      rw [q2 _ (by omega) (by omega) (by omega), oG3 _ (by omega), hG2, IH.get_set, if_neg (by omega)]
      rw [show n + 12 + 1 = ((G1.push (.cells [.int .i64 3, .slice none 0 0, .string ⟨#[]⟩, .int .i64 2, .slice (some ⟨n + 1 + 8 + 1, 0, none⟩) 1 1, .string ⟨#[]⟩] 90 false)).set (n + 1 + 8) (.cells [.slice (some ⟨n + 1 + 2, 0, none⟩) 2 2, .slice (some ⟨n + 12, 0, none⟩) 2 capU, .slice ta texts.length tc, .slice none 0 0, .slice (some ⟨n + 1 + 7, 0, none⟩) 1 1, .int .i64 0, .int .i64 0] 27 false)).next by simp [nG1], IH.get_push_same]
    have s4 : F.get (n + 15) = some (.cells (cs ++ (insC (ins 1 0 0 0 0 0) ++ insC (ins 22 0 0 0 0 0))) 30 false) := by
      rw [oF _ (by omega) (by omega) (by omega), e3 _ (by omega) (by omega), hG4, IH.get_set, if_neg (by omega), IH.get_push_other _ _ _ (show n + 15 < G3.next + 1 by omega), ← nG3, IH.get_push_same]
    have hle : ∀ x, x < H.next → F.get x = H.get x := fun x hx => by
      rw [oF x (by omega) (by omega) (by omega), gl x (by omega), f1.2 x (by omega), fB0.2 x (by omega)]
    refine ⟨LAt.mk rfl (by omega) fun i hi => ?_, LAt.mk rfl (by omega) fun i hi => ?_, ht.up (by omega) fun b o x hb hx => CellAt.same (lo := H.next) hx hle hb, LAt.mk rfl (by omega) fun i hi => ?_, LAt.mk rfl (by omega) fun i hi => ?_⟩
    · match i, hi with
      | 0, _ => exact ⟨_, _, _, (q _ (by omega) (by omega) (by omega)).trans l1.g2, rfl, rfl, LAt.nil⟩
      | 1, _ => exact ⟨_, _, _, (q _ (by omega) (by omega) (by omega)).trans l1.g2, rfl, rfl, LAt.mk rfl (by omega) fun i hi => by
          match i, hi with
          | 0, _ => exact CellAt.one ((q _ (by omega) (by omega) (by omega)).trans l1.g1) rfl⟩
    · match i, hi with
      | 0, _ => exact ⟨_, _, _, s1, rfl, rfl, rfl, LAt.nil⟩
      | 1, _ => exact ⟨_, _, _, s1, rfl, rfl, rfl, LAt.mk rfl (by omega) fun i hi => by
          match i, hi with
          | 0, _ => exact CellAt.one s2 rfl⟩
    · match i, hi with
      | 0, _ => exact CellAt.one s3 rfl
      | 1, _ => exact CellAt.one s3 rfl
      | 2, _ => exact CellAt.one s3 rfl
      | 3, _ => exact CellAt.one s3 rfl
    · match i, hi with
      | 0, _ => exact ⟨_, _, _, _, gF7, rfl, rfl, rfl, rfl, LAt.nil, LAt.mk rfl (by omega) fun i hi => by
          match i, hi with
          | 0, _ => exact ⟨_, _, _, _, gFb, rfl, rfl, (e5.mono (by omega) fun x hm => by
              have hx : G4.next ≤ x ∧ x < H5.next := by
                rcases e5 with ⟨e, _⟩ | ⟨b, b1, b2, e, _⟩
                · rw [e] at hm; simp [bOf] at hm
                · rw [e] at hm; simp [bOf] at hm; omega
              exact oF x hx.2 (by omega) (by omega)).ints (Nat.le_refl _), code2_at hcl hfl s4 (hins F (n + 15) _ (fun x hx => hle x hx) s4) (by omega) (by omega)⟩⟩
end
end Go.Proofs.YtchlbfmjnhgpgaaGreat.Idl
namespace Go.Proofs.YtchlbfmjnhgpgaaGreat.Idl
open Go
set_option maxHeartbeats 8000000
set_option maxRecDepth 100000
set_option linter.unusedSimpArgs false
section
variable {H : IH}
theorem run_im {R : Rest} {im : Img} (hR : ∀ lo, RestOk lo im R) {u : ImV} (hv : ImvAt H H.next u im) (hsm : ImSm im) {G : IH} (fG : Fr H.next H G) {cv : Option Addr × Nat × Nat} {cl : List Bool} (hcl : LAt G.next 1 (CellAt G 4 Value.bool) (slV cv) cl)
    {f h st : Nat} (hf : f ≤ 16777216) (hh : h ≤ 65536) (hst : st ≤ 65536) {k : Int} {σ : Mst} (hr : runOut R im ⟨[], f, h, st, cl⟩ = some (k, σ)) :
    ∃ (E : IH) (oa : Option Addr) (on oc : Nat), cal J okAll 19 #[u.val im, scrV (none, 0, 0) (f : Int) (h : Int) (st : Int) cv] G = some (.ret (.agg #[.int .i64 k, .slice oa on oc, .string σ.exn, .int .i64 (σ.steps : Int), .int .i64 (σ.swept : Int)]), E) ∧ Fr G.next G E ∧
      on = σ.out.length ∧ ∀ Q : IH, Fr E.next E Q → iconvert J 34 9 (.slice oa on oc) Q = some (.string (outB σ.out), Q) := by
  have vG := (hv.same (H' := G) (fun x hx => fG.2 x hx)).up (lo' := G.next) fG.1
  have s1 : f = clampN (f : Int) 16777216 := by simp [clampN]; omega
  have s2 : h = clampN (h : Int) 65536 := by simp [clampN]; omega
  have s3 : st = clampN (st : Int) 65536 := by simp [clampN]; omega
  obtain ⟨E, ov, r1, fr, o1, b1⟩ := c_Run hR vG (Nat.le_refl _) hsm (iv := (none, 0, 0)) (cv := cv) (f := (f : Int)) (h := (h : Int)) (st := (st : Int)) (s := ⟨[], f, h, st, cl⟩) LAt.nil hcl ⟨by simp, by simp⟩ s1 s2 s3 hr
  obtain ⟨oa, on, oc, hov, hon⟩ : ∃ oa on oc, ov = .slice oa on oc ∧ on = σ.out.length := by
    rcases o1 with ⟨e, e2⟩ | ⟨b, e, _⟩
    · exact ⟨_, _, _, e, by rw [e2]; rfl⟩
    · exact ⟨_, _, _, e, rfl⟩
  subst hov
  refine ⟨E, oa, on, oc, r1, fr, hon, fun Q fQ => ?_⟩
  exact conv_out (o1.same (H' := Q) fun z hm => fQ.2 z (b1 z hm).2) fun z hm => Nat.lt_of_lt_of_le (b1 z hm).2 fQ.1
end
end Go.Proofs.YtchlbfmjnhgpgaaGreat.Idl
namespace Go.Proofs.YtchlbfmjnhgpgaaGreat.Idl
open Go
set_option linter.unusedSimpArgs false
def Hp.good (σ : Hp) : Bool := (List.range σ.top).all fun n => !σ.is n || (decide (wShape (σ.w n) < σ.ly.length) && decide (n + 1 + (if σ.kind (wShape (σ.w n)) = 3 then (wLen (σ.w n) + 7) / 8 else wLen (σ.w n)) ≤ σ.top))
theorem Hp.good_iff (σ : Hp) : σ.good = true ↔ σ.Shapes ∧ σ.Fit := by
  have key : σ.good = true ↔ ∀ n, σ.is n = true → wShape (σ.w n) < σ.ly.length ∧ n + 1 + (if σ.kind (wShape (σ.w n)) = 3 then (wLen (σ.w n) + 7) / 8 else wLen (σ.w n)) ≤ σ.top := by
    unfold Hp.good
    rw [List.all_eq_true]
    constructor
    · intro h n hn
      have hlt : n < σ.top := by unfold Hp.is at hn; simp only [Bool.and_eq_true, decide_eq_true_eq] at hn; exact hn.1
      have := h n (List.mem_range.2 hlt)
      rw [hn] at this
      simpa only [Bool.not_true, Bool.false_or, Bool.and_eq_true, decide_eq_true_eq] using this
    · intro h n _
      cases hn : σ.is n with
      | false => rfl
      | true => simpa only [Bool.not_true, Bool.false_or, Bool.and_eq_true, decide_eq_true_eq] using h n hn
  rw [key]
  exact ⟨fun h => ⟨fun n hn => (h n hn).1, fun n hn => (h n hn).2⟩, fun h n hn => ⟨h.1 n hn, h.2 n hn⟩⟩
def vGood : VM Unit := fun σ => if σ.hp.good then some (.ok (), σ) else none
def Hp.shapeOf (σ : Hp) (a : Nat) : Nat := if σ.is a then wShape (σ.w a) else 0
def Hp.lenOf (σ : Hp) (a : Nat) : Nat := if σ.is a then wLen (σ.w a) else 0
def vObject (i kind other : Int) : VM (Nat × Nat) := do
  let w ← vGet i
  vMust (!wIsImm w)
  let k ← VM.get fun σ => σ.hp.kindI (σ.hp.shapeOf (wAt w) : Nat)
  vMust (decide (k = kind) || decide (k = other))
  let n ← VM.get fun σ => σ.hp.lenOf (wAt w)
  VM.ret (wAt w, n)
abbrev Swp := List Nat → VM (List Nat)
def Hp.room (σ : Hp) : Int := (σ.ws.length : Int) - (σ.top : Int)
def vMake (Sw : Swp) (shape n : Int) (live : List Int) (held : List Nat) : VM (Nat × List Nat) := do
  let p ← VM.get fun σ => σ.hp.need shape n
  vMust (decide (p.2 = 0))
  vKeep live
  let sw ← VM.get fun σ => (σ.collect[σ.made]?).getD false
  VM.upd fun σ => { σ with made := σ.made + 1 }
  let held ← (if sw then Sw held else VM.ret held)
  let full ← VM.get fun σ => decide (σ.hp.room < p.1)
  let held ← (if full then (do
      let held ← (if sw then VM.ret held else Sw held)
      let full ← VM.get fun σ => decide (σ.hp.room < p.1)
      if full then vEnd 4 else VM.ret held) else VM.ret held)
  let a ← VM.get fun σ => σ.hp.top
  VM.upd fun σ => { σ with hp := σ.hp.put shape.toNat n.toNat }
  VM.ret (a, held)
def Hp.set (σ : Hp) (s i : Int) (w : Nat) : Hp := if σ.has s i false && σ.fits w then σ.setW (s.toNat + 1 + i.toNat) w else σ
def Hp.setE (σ : Hp) (s i : Int) (w : Nat) : Bool := σ.has s i false && σ.fits w
def Hp.setAll (σ : Hp) (s : Nat) : Nat → List Nat → Hp
  | _, [] => σ
  | i, w :: l => (σ.set s i w).setAll s (i + 1) l
def vHp (f : Hp → Hp) : VM Unit := VM.upd fun σ => { σ with hp := f σ.hp }
def Hp.goodAll (σ : Hp) (s : Nat) : Nat → List Nat → Bool
  | _, [] => true
  | i, w :: l => σ.good && (σ.set s i w).goodAll s (i + 1) l
def vSetAll (s : Nat) (l : List Nat) : VM Unit := fun σ => if σ.hp.goodAll s 0 l then some (.ok (), { σ with hp := σ.hp.setAll s 0 l }) else none
def vNew (Sw : Swp) (im : Img) (x : Ins) : VM Unit := do
  let k ← VM.get fun σ => σ.hp.kindI x.a
  if k = 1 then do
    let s ← VM.of fun _ => im.shapes[x.a.toNat]?
    vMust (decide (x.l.length = s.fields.length))
    let ws ← vRead x.l
    let r ← vMake Sw x.a x.l.length x.live ws
    vSetAll r.1 r.2
    vSet x.d (wPtr r.1)
  else vEnd 6
def vArr (Sw : Swp) (im : Img) (x : Ins) : VM Unit := do
  let n ← vNumber x.b
  let w ← vGet x.c
  let k ← VM.get fun σ => σ.hp.kindI x.a
  vMust (decide (k = 2))
  if n < 0 ∨ 65536 < n then vThrow im (wImm 3)
  else do
    let r ← vMake Sw x.a n x.live [w]
    let h ← VM.of fun _ => r.2[0]?
    vSetAll r.1 (List.replicate n.toNat h)
    vSet x.d (wPtr r.1)
def vField (x : Ins) : VM Unit := do
  let o ← vObject x.a 1 1
  vGood
  let r ← VM.get fun σ => σ.hp.get (o.1 : Nat) x.b
  vMust (decide (r.2 = 0))
  vSet x.d r.1
def vStore (x : Ins) : VM Unit := do
  let o ← vObject x.a 1 1
  let w ← vGet x.c
  vGood
  let ok ← VM.get fun σ => σ.hp.setE (o.1 : Nat) x.b w
  vHp fun h => h.set (o.1 : Nat) x.b w
  vMust ok
def vAtI (im : Img) (x : Ins) : VM Unit := do
  let o ← vObject x.a 2 2
  let n ← vNumber x.b
  vGood
  let r ← VM.get fun σ => σ.hp.get (o.1 : Nat) (vIndex n)
  if r.2 = 0 then vSet x.d r.1 else vThrow im (wImm 2)
def vPut (im : Img) (x : Ins) : VM Unit := do
  let o ← vObject x.a 2 2
  let n ← vNumber x.b
  let w ← vGet x.c
  vGood
  let ok ← VM.get fun σ => σ.hp.setE (o.1 : Nat) (vIndex n) w
  vHp fun h => h.set (o.1 : Nat) (vIndex n) w
  if ok then VM.ret () else vThrow im (wImm 2)
def vFields (Sw : Swp) (im : Img) (x : Ins) : VM Unit :=
  if x.op = 5 then vNew Sw im x
  else if x.op = 8 then vArr Sw im x
  else if x.op = 6 then vField x
  else if x.op = 7 then vStore x
  else if x.op = 9 then vAtI im x
  else if x.op = 10 then vPut im x
  else vEnd 6
def HeldAt (H : IH) (own : List Nat) (u : Value) (ws : List Nat) : Prop :=
  (u = .slice none 0 0 ∧ ws = []) ∨ ∃ b o c cs, u = .slice (some ⟨b, o, none⟩) ws.length c ∧ b < H.next ∧ b ∉ own ∧ H.get b = some (.cells cs 62 false) ∧ ∀ i (h : i < ws.length), cs[o + i]? = some (.int .u64 (ws[i] : Nat))
end Go.Proofs.YtchlbfmjnhgpgaaGreat.Idl
namespace Go.Proofs.YtchlbfmjnhgpgaaGreat.Idl
open Go
set_option maxHeartbeats 8000000
set_option maxRecDepth 100000
set_option linter.unusedSimpArgs false
theorem wIsImm_imm (n : Int) : wIsImm (wImm n) = true := by unfold wIsImm wImm; rw [decide_eq_true_eq]; omega
theorem wInt_imm (n : Int) (h : -4611686018427387904 ≤ n ∧ n ≤ 4611686018427387903) : wInt (wImm n) = n := by unfold wInt wImm; split <;> omega
theorem vbind {α β : Type} (x : VM α) (f : α → VM β) (σ : Mst) : (x >>= f) σ = VM.bind x f σ := rfl
end Go.Proofs.YtchlbfmjnhgpgaaGreat.Idl
namespace Go.Proofs.YtchlbfmjnhgpgaaGreat.Idl
open Go
set_option maxHeartbeats 8000000
set_option maxRecDepth 100000
set_option linter.unusedSimpArgs false
theorem fill_get (a : Nat) : ∀ (n : Nat) (ws : List Nat) (j : Nat), (fill ws a n)[j]? = if a + 1 ≤ j ∧ j < a + 1 + n ∧ j < ws.length then some 1 else ws[j]?
  | 0, ws, j => by rw [if_neg (by omega)]; rfl
  | n + 1, ws, j => by
    have ih := fill_get a n ws j
    unfold fill
    rw [List.getElem?_set]
    by_cases h : a + 1 + n = j
    · subst h
      rw [if_pos rfl, fill_len]
      by_cases h2 : a + 1 + n < ws.length
      · rw [if_pos h2, if_pos ⟨by omega, by omega, h2⟩]
      · rw [if_neg h2, if_neg (by omega), List.getElem?_eq_none (by omega)]
    · rw [if_neg h, ih]
      by_cases h2 : a + 1 ≤ j ∧ j < a + 1 + n ∧ j < ws.length
      · rw [if_pos h2, if_pos ⟨h2.1, by omega, h2.2.2⟩]
      · rw [if_neg h2, if_neg (by omega)]
structure ArrHp (h : Hp) (n : Nat) (l : List Nat) : Prop where
  ly : h.ly = [(3, 0), (2, 0)]
  top : h.top = 1 + n
  n60 : n ≤ 60
  len : l.length = n
  ws : h.ws.length = 100
  bit : ∀ a, a < 1 + n → h.bit a = decide (a = 0)
  w0 : h.w 0 = wHead 1 n
  wl : ∀ j (hj : j < l.length), h.w (1 + j) = l[j]
theorem wShape_head (s n : Nat) (hs : s < 1048576) (hn : n < 1048576) : wShape (wHead s n) = s := by unfold wShape wHead; omega
theorem wLen_head (s n : Nat) (hs : s < 1048576) (hn : n < 1048576) : wLen (wHead s n) = n := by unfold wLen wHead; omega
section
variable {h : Hp} {n : Nat} {l : List Nat}
theorem ArrHp.is (H : ArrHp h n l) (a : Nat) : h.is a = decide (a = 0) := by
  unfold Hp.is
  rw [H.top]
  by_cases ha : a < 1 + n
  · rw [H.bit a ha, decide_eq_true ha, Bool.true_and]
  · rw [decide_eq_false ha, Bool.false_and]; exact (decide_eq_false (by omega)).symm
theorem ArrHp.kind (H : ArrHp h n l) : h.kindI 1 = 2 := by
  unfold Hp.kindI Hp.kind
  rw [H.ly]; rfl
theorem ArrHp.good (H : ArrHp h n l) : h.good = true := by
  have hn := H.n60
  have hk : h.kind 1 = 2 := by unfold Hp.kind; rw [H.ly]; rfl
  rw [Hp.good_iff]
  refine ⟨fun a ha => ?_, fun a ha => ?_⟩
  all_goals
    rw [H.is, decide_eq_true_eq] at ha
    subst ha
    rw [H.w0, wShape_head _ _ (by omega) (by omega)]
  · rw [H.ly]; simp
  · rw [wLen_head _ _ (by omega) (by omega), hk, H.top]; simp
theorem ArrHp.shapeOf (H : ArrHp h n l) : h.shapeOf 0 = 1 := by
  have hn := H.n60
  unfold Hp.shapeOf
  rw [H.is, H.w0, wShape_head _ _ (by omega) (by omega)]; rfl
theorem ArrHp.lenOf (H : ArrHp h n l) : h.lenOf 0 = n := by
  have hn := H.n60
  unfold Hp.lenOf
  rw [H.is, H.w0, wLen_head _ _ (by omega) (by omega)]; rfl
theorem ArrHp.has (H : ArrHp h n l) (i : Int) : h.has (0 : Nat) i false = (decide (0 ≤ i) && decide (i < n)) := by
  have hn := H.n60
  have hk : h.kind 1 = 2 := by unfold Hp.kind; rw [H.ly]; rfl
  unfold Hp.has
  rw [Int.toNat_natCast, H.is, H.w0, wLen_head _ _ (by omega) (by omega), wShape_head _ _ (by omega) (by omega), hk]
  simp
theorem ArrHp.get (H : ArrHp h n l) (i : Nat) (hi : i < l.length) : h.get (0 : Nat) (i : Int) = (l[i], 0) := by
  have hl := H.len
  unfold Hp.get
  rw [H.has, if_pos (by simp only [Bool.and_eq_true, decide_eq_true_eq]; omega), Int.toNat_natCast, Int.toNat_natCast, Nat.zero_add, H.wl i hi]
theorem ArrHp.get_bad (H : ArrHp h n l) (i : Int) (hi : i < 0 ∨ (n : Int) ≤ i) : h.get (0 : Nat) i = (0, 1) := by
  unfold Hp.get
  rw [H.has, if_neg (by simp only [Bool.and_eq_true, decide_eq_true_eq]; omega)]
theorem ArrHp.setE (H : ArrHp h n l) (i : Nat) (hi : i < n) (w : Nat) (hw : wIsImm w = true) : h.setE (0 : Nat) (i : Int) w = true := by
  unfold Hp.setE Hp.fits
  rw [H.has, hw]; simp only [Bool.true_or, Bool.and_true, Bool.and_eq_true, decide_eq_true_eq]; omega
theorem ArrHp.set (H : ArrHp h n l) (i : Nat) (hi : i < n) (w : Nat) (hw : wIsImm w = true) : ArrHp (h.set (0 : Nat) (i : Int) w) n (l.set i w) := by
  have h1 := H.setE i hi w hw
  unfold Hp.setE at h1
  have e : h.set (0 : Nat) (i : Int) w = h.setW (1 + i) w := by
    unfold Hp.set
    rw [h1, if_pos rfl]
    congr 1
  rw [e]
  have hl := H.len
  have hws := H.ws
  have hn := H.n60
  refine ⟨H.ly, H.top, H.n60, by rw [List.length_set]; exact H.len, by unfold Hp.setW; rw [List.length_set]; exact H.ws, fun a ha => H.bit a ha, ?_, fun j hj => ?_⟩
  · have := H.w0
    unfold Hp.w Hp.setW at *
    rw [List.getElem?_set_ne (by omega)]; exact this
  · rw [List.length_set] at hj
    have := H.wl j hj
    unfold Hp.w Hp.setW at *
    rw [List.getElem_set]
    by_cases hij : i = j
    · subst hij; rw [List.getElem?_set_self (by omega), if_pos rfl]; rfl
    · rw [List.getElem?_set_ne (by omega), if_neg hij]; exact this
theorem ArrHp.all (w : Nat) (hw : wIsImm w = true) : ∀ (d i : Nat) {h : Hp} {l : List Nat}, ArrHp h n l → i + d = n → (∀ j (hj : j < l.length), j < i → l[j] = w) →
    h.goodAll 0 i (List.replicate d w) = true ∧ ∃ h', h.setAll 0 i (List.replicate d w) = h' ∧ ∃ l', ArrHp h' n l' ∧ ∀ j (hj : j < l'.length), l'[j] = w
  | 0, i, h, l, H, hd, hl => ⟨rfl, h, rfl, l, H, fun j hj => hl j hj (by have := H.len; omega)⟩
  | d + 1, i, h, l, H, hd, hl => by
    have H1 := H.set i (by omega) w hw
    obtain ⟨g1, h', g2, g3⟩ := ArrHp.all w hw d (i + 1) H1 (by omega) (fun j hj hji => by
      rw [List.length_set] at hj
      rw [List.getElem_set]
      by_cases hij : i = j
      · rw [if_pos hij]
      · rw [if_neg hij]; exact hl j hj (by omega))
    rw [List.replicate_succ]
    refine ⟨?_, h', ?_, g3⟩
    · unfold Hp.goodAll; rw [H.good, Bool.true_and]; exact g1
    · unfold Hp.setAll; exact g2
end
def arrHp0 : Hp := Hp.new 100 [(3, 0), (2, 0)]
theorem arr_put (n : Nat) (hn : n ≤ 60) : ArrHp (arrHp0.put 1 n) n (List.replicate n 1) := by
  have hk : arrHp0.kind 1 = 2 := rfl
  have hneed : arrHp0.need ((1 : Nat) : Int) (n : Int) = (1 + (n : Int), 0) := by
    unfold Hp.need
    rw [if_pos ⟨by omega, by decide, by omega⟩, Int.toNat_natCast, hk, if_neg (by simp), if_neg (by omega), if_neg (by simp)]
  have ht0 : arrHp0.top = 0 := rfl
  have hws : ∀ j, (arrHp0.put 1 n).ws[j]? = if 1 ≤ j ∧ j < 1 + n ∧ j < 100 then some 1 else ((List.replicate 100 0).set 0 (wHead 1 n))[j]? := fun j => by
    unfold Hp.put
    rw [hk, if_neg (by simp), fill_get, ht0]
    have e : (arrHp0.ws.set 0 (wHead 1 n)) = (List.replicate 100 0).set 0 (wHead 1 n) := rfl
    rw [e, List.length_set, List.length_replicate, Nat.zero_add]
  refine ⟨rfl, ?_, hn, by simp, ?_, fun a ha => ?_, ?_, fun j hj => ?_⟩
  · unfold Hp.put; simp only; rw [hneed, ht0]; simp only; omega
  · unfold Hp.put; rw [hk, if_neg (by simp), fill_len, List.length_set]; rfl
  · have e : (arrHp0.put 1 n).hd = [1, 0] := rfl
    unfold Hp.bit
    rw [e, Nat.div_eq_of_lt (show a < 64 by omega), Nat.mod_eq_of_lt (show a < 64 by omega)]
    have : ∀ a ∈ List.range 64, decide (1 / 2 ^ a % 2 = 1) = decide (a = 0) := by decide
    exact this a (by simp; omega)
  · unfold Hp.w; rw [hws, if_neg (by omega)]; rfl
  · rw [List.length_replicate] at hj
    unfold Hp.w; rw [hws, if_pos ⟨by omega, by omega, by omega⟩, List.getElem_replicate]; rfl
end Go.Proofs.YtchlbfmjnhgpgaaGreat.Idl
namespace Go.Proofs.YtchlbfmjnhgpgaaGreat.Idl
open Go
set_option maxHeartbeats 8000000
set_option maxRecDepth 100000
set_option linter.unusedSimpArgs false
section
variable {H H' : IH} {lo : Nat} {im : Img} {A A' : VA} {σ : Mst}
theorem VmAt.heap (h : VmAt H lo im A σ) {hp' : Hp} (hh : HpAt H' A.hp hp') (f : Fx [A.hp.p, A.hp.wb, A.hp.hb] H H') : VmAt H' lo im A { σ with hp := hp' } ∧ Nx H A H' A := by
  have hnd := h.nd
  have hown := h.own
  have hin : ∀ x ∈ [A.hp.p, A.hp.wb, A.hp.hb], x ∈ A.own := fun x hx => by
    simp only [List.mem_cons, List.not_mem_nil, or_false] at hx
    rcases hx with rfl | rfl | rfl <;> simp [VA.own]
  have hs : SameB lo H H' := fun x hx => f.2 x (Nat.lt_of_lt_of_le hx h.lo) fun hm => by have := (hown x (hin x hm)).1; omega
  simp only [VA.own, List.nodup_cons, List.mem_cons, not_or] at hnd
  obtain ⟨⟨p1, p2, p3, p4⟩, ⟨q1, q2, q3⟩, ⟨r1, r2⟩, s1, _⟩ := hnd
  have ho : ∀ x, x < H.next → x ≠ A.hp.p → x ≠ A.hp.wb → x ≠ A.hp.hb → H'.get x = H.get x := fun x hx h1 h2 h3 => f.2 x hx (by simp [h1, h2, h3])
  have hr : ∀ x ∈ bOf A.hp.lv ++ bOf A.fv ++ bOf A.ov ++ frOwn A.fr, H'.get x = H.get x := fun x hx => ho x (hown x (by simp only [VA.own, List.mem_cons]; exact .inr (.inr (.inr (.inr hx))))).2
    (fun e => q3 (e ▸ hx)) (fun e => r2 (e ▸ hx)) (fun e => s1 (e ▸ hx))
  refine ⟨⟨?_, h.img.same hs, hh, h.inp.mono fun _ _ _ hb hx => CellAt.same hx hs hb, h.col.mono fun _ _ _ hb hx => CellAt.same hx hs hb, h.frs.same hs fun x hm => hr x (by simp [hm]), h.fv.same fun x hm => hr x (by simp [hm]), h.ov.same fun x hm => hr x (by simp [hm]), h.nd,
    fun x hx => ⟨(hown x hx).1, Nat.lt_of_lt_of_le (hown x hx).2 f.1⟩, Nat.le_trans h.lo f.1, ⟨h.ok.words, h.ok.stack, h.ok.fits, h.ok.fuel, h.ok.steps, h.ok.made, h.ok.swept, h.ok.out, h.ok.inn⟩, h.imok⟩, ⟨rfl, f.mono fun x hx => .inl (hin x hx), fun x hx => .inl hx⟩⟩
  rw [ho A.p (hown A.p (by simp [VA.own])).2 p1 p2 p3]; exact h.obj
theorem HeldAt.nx {u : Value} {ws : List Nat} (h : HeldAt H A.own u ws) (n : Nx H A H' A') : HeldAt H' A'.own u ws := by
  rcases h with h | ⟨b, o, c, cs, h1, h2, h3, h4, h5⟩
  · exact .inl h
  · refine .inr ⟨b, o, c, cs, h1, Nat.lt_of_lt_of_le h2 n.fx.1, fun hm => ?_, (n.fx.2 b h2 h3).trans h4, h5⟩
    rcases n.own b hm with h | h
    · exact h3 h
    · omega
theorem HeldAt.fr {own : List Nat} {u : Value} {ws : List Nat} (h : HeldAt H own u ws) (f : Fr H.next H H') : HeldAt H' own u ws := by
  rcases h with h | ⟨b, o, c, cs, h1, h2, h3, h4, h5⟩
  · exact .inl h
  · exact .inr ⟨b, o, c, cs, h1, Nat.lt_of_lt_of_le h2 f.1, h3, (f.2 b h2).trans h4, h5⟩
def HeldV (n : Nat) : IH → VA → List Nat → Value → Prop := fun H A ws u => HeldAt H A.own u ws ∧ (∀ w ∈ ws, w < 18446744073709551616) ∧ ws.length = n
structure SweepOk (lo : Nat) (im : Img) (Sw : Swp) : Prop where
  run : ∀ (H : IH) (A : VA) (σ : Mst) (u : Value) (ws : List Nat), VmAt H lo im A σ → HeldAt H A.own u ws → (∀ w ∈ ws, w < 18446744073709551616) → ws.length ≤ 1000 → σ.swept < σ.steps → Out lo im H A (cal J okAll 206 #[ptrV A.p, u] H) (HeldV ws.length) (Sw ws σ)
  ly : ∀ (ws : List Nat) (σ σ' : Mst) (r : Except Int (List Nat)), Sw ws σ = some (r, σ') → σ'.hp.ly = σ.hp.ly
theorem SweepOk.none (lo : Nat) (im : Img) : SweepOk lo im (fun _ => VM.fail) :=
  ⟨fun _ _ _ _ _ _ _ _ _ _ _ _ h => by simp [VM.fail] at h, fun _ _ _ _ h => by simp [VM.fail] at h⟩
theorem Hp.need_ly {h h' : Hp} (e : h'.ly = h.ly) (s n : Int) : h'.need s n = h.need s n := by unfold Hp.need Hp.kind; rw [e]
theorem Hp.need_ok {h : Hp} {s n k : Int} (hk : h.need s n = (k, 0)) : 0 ≤ s ∧ s < h.ly.length ∧ 0 ≤ n ∧ n ≤ 65536 ∧ 1 ≤ k ∧ (h.kind s.toNat ≠ 3 → k = 1 + n) ∧ k ≤ 65537 := by
  unfold Hp.need at hk
  split at hk
  · rename_i h1
    obtain ⟨h1, h2, h3⟩ := h1
    split at hk
    · simp at hk
    · split at hk
      · simp at hk
      · split at hk
        · rename_i h4 h5 h6
          simp only [Prod.mk.injEq, and_true] at hk
          exact ⟨h1, h2, h3, by omega, by omega, fun h => absurd h6 h, by omega⟩
        · simp only [Prod.mk.injEq, and_true] at hk
          exact ⟨h1, h2, h3, by omega, by omega, fun _ => hk.symm, by omega⟩
  · simp at hk
theorem m_alloc (h : VmAt H lo im A σ) {s n k : Int} (hk : σ.hp.need s n = (k, 0)) (hr : ¬ σ.hp.room < k) :
    ∃ H', cal J okAll 209 #[A.hp.ptr, .int .i64 s, .int .i64 n] H = some (.ret (.tuple #[.int .i64 (σ.hp.top : Int), .int .i64 0]), H') ∧ VmAt H' lo im A { σ with hp := σ.hp.put s.toNat n.toNat } ∧ Nx H A H' A := by
  obtain ⟨h1, h2, h3, h4, h5, h6, _⟩ := Hp.need_ok hk
  have ht := h.hp.ok.top
  unfold Hp.room at hr
  obtain ⟨s', rfl⟩ : ∃ m : Nat, s = m := ⟨s.toNat, by omega⟩
  obtain ⟨n', rfl⟩ : ∃ m : Nat, n = m := ⟨n.toNat, by omega⟩
  obtain ⟨k', rfl⟩ : ∃ m : Nat, k = m := ⟨k.toNat, by omega⟩
  simp only [Int.toNat_natCast] at h6 ⊢
  obtain ⟨H', c1, c2, c3⟩ := c_Alloc h.hp s' n' k' (by omega) hk (by omega) (by omega) (by omega) (fun hh => by have := h6 hh; omega)
  obtain ⟨v1, v2⟩ := h.heap c2 c3
  exact ⟨H', c1, v1, v2⟩
end
theorem vKeepGo_same : ∀ {l : List Int} {nx : List Nat} {σ σ' : Mst} {r : Except Int (List Nat)}, vKeepGo l nx σ = some (r, σ') → σ' = σ
  | [], nx, σ, σ', r, h => by simp only [vKeepGo, VM.ret, Option.some.injEq, Prod.mk.injEq] at h; exact h.2.symm
  | i :: l, nx, σ, σ', r, h => by
    unfold vKeepGo at h
    rcases VM.bind_cases h with ⟨w, σ1, y1, h2⟩ | ⟨k, y1, _⟩
    · have := vKeepGo_same h2
      have := (vGet_same y1).1
      simp_all
    · exact (vGet_same y1).1
theorem vKeep_same {l : List Int} {σ σ' : Mst} {r : Except Int Unit} (h : vKeep l σ = some (r, σ')) : ∃ fs, σ' = { σ with frames := fs } ∧ (r = .ok () → (σ.frames ≠ [] → fs ≠ [])) := by
  unfold vKeep at h
  cases hf : σ.frames with
  | nil => rw [VM.bind_none (vTop_nil hf)] at h; simp at h
  | cons f fs =>
    rw [VM.bind_ok (vTop_eq hf)] at h
    rcases VM.bind_cases h with ⟨w, σ1, y1, h2⟩ | ⟨k, y1, h2⟩
    · have e := vKeepGo_same y1
      subst e
      simp only [VM.upd, hf, Option.some.injEq, Prod.mk.injEq] at h2
      exact ⟨_, h2.2.symm, fun _ _ => by simp⟩
    · have e := vKeepGo_same y1
      subst e
      exact ⟨f :: fs, by rw [← hf], fun _ _ => by simp⟩
end Go.Proofs.YtchlbfmjnhgpgaaGreat.Idl
namespace Go.Proofs.YtchlbfmjnhgpgaaGreat.Idl
open Go
set_option maxHeartbeats 8000000
set_option maxRecDepth 100000
set_option linter.unusedSimpArgs false
def MakeV (n : Nat) : IH → VA → (Nat × List Nat) → Value → Prop := fun H A r v => ∃ u, v = .tuple #[.int .i64 (r.1 : Int), u] ∧ HeldV n H A r.2 u ∧ r.1 ≤ 65536
section
variable {H : IH} {lo : Nat} {im : Img} {A : VA} {σ : Mst}
theorem vbnd {α β : Type} (x : VM α) (f : α → VM β) (σ : Mst) : (x >>= f) σ = VM.bind x f σ := rfl
theorem HeldAt.val {own : List Nat} {u : Value} {ws : List Nat} (h : HeldAt H own u ws) : ∃ a n c, u = .slice a n c := by
  rcases h with ⟨h, _⟩ | ⟨b, o, c, cs, h, _⟩
  · exact ⟨_, _, _, h⟩
  · exact ⟨_, _, _, h⟩
theorem m_make {Sw : Swp} (hS : SweepOk lo im Sw) (h : VmAt H lo im A σ) (s n : Int) (hn : n ≤ 9223372036854775000) {v : Value} {l : List Int} (hl : IntsAt H lo v l) (hlen : l.length ≤ 1000000) {u : Value} {ws : List Nat} (hu : HeldAt H A.own u ws) (hw : ∀ w ∈ ws, w < 18446744073709551616) (hwl : ws.length ≤ 1000) (hst : σ.made < σ.steps ∧ σ.swept < σ.steps) :
    Out lo im H A (cal J okAll 165 #[ptrV A.p, .int .i64 s, .int .i64 n, v, u] H) (MakeV ws.length) (vMake Sw s n l ws σ) := by
  intro r σ' hx
  rw [cal165 _ _ (by simp)]
  unfold vMake at hx
  obtain ⟨HN, fN, cN⟩ := c_Need h.hp s n hn
  have hN := h.fr fN
  have ho := h.obj
  have m1 := c_must (H := HN) (ptrV A.p) true
  have m2 := c_must (H := HN) (ptrV A.p) false
  have m3 := fun (H : IH) => c_end (H := H) (ptrV A.p) 4
  have lN : IntsAt HN lo v l := hl.same (fun x hx => fN.2 x (Nat.lt_of_lt_of_le hx h.lo))
  obtain ⟨va, vc, hv, _⟩ := id hl
  obtain ⟨ua, un, uc, hus⟩ := hu.val
  simp only [VA.cells, ptrV] at ho
  simp only [ptrV] at m1 m2 m3
  simp only [HpA.ptr] at cN
  rcases VM.bind_cases hx with ⟨p, σ1, y1, hx1⟩ | ⟨k, y1, _⟩
  rotate_left
  · obtain ⟨y2, _⟩ := VM.get_cases y1
    simp at y2
  obtain ⟨y2, hσ1⟩ := VM.get_cases y1
  rw [hσ1] at hx1
  simp only [Except.ok.injEq] at y2
  rw [← y2] at cN
  have hneed := y2.symm
  obtain ⟨pk, pe⟩ := p
  dsimp only at cN hx1
  clear y1 y2 hx hσ1 σ1
  rcases VM.bind_cases hx1 with ⟨_, σ2, z1, hx2⟩ | ⟨kk, z1, rfl⟩
  rotate_left
  · obtain ⟨rfl, z2⟩ := vMust_cases z1
    rcases z2 with ⟨_, z2⟩ | ⟨z2, z3⟩
    · simp at z2
    · simp only [Except.error.injEq] at z3
      subst z3
      exact ⟨HN, A, .pan (overV 6), by simp [C165, regsOf, fin, iresult1, ptrV, hv, hus, ho, cN, z2, m2], hN, ⟨rfl, Fx.of_fr fN, fun x hx => .inl hx⟩, rfl⟩
  obtain ⟨hσ2, z2⟩ := vMust_cases z1
  rw [hσ2] at hx2
  clear hσ2
  rcases z2 with ⟨z2, _⟩ | ⟨_, z2⟩
  rotate_left
  · simp at z2
  have hpe : pe = 0 := by simpa using z2
  subst hpe
  clear z1 z2 hx1 σ2
  rcases VM.bind_cases hx2 with ⟨_, σ2, k1, hx3⟩ | ⟨kk, k1, rfl⟩
  rotate_left
  · obtain ⟨H2, A2, e2, c2, h2, n2, rv2⟩ := m_keep hN lN hlen _ _ k1
    have rv2 : e2 = .pan (overV kk) := rv2
    subst rv2
    simp only [ptrV] at c2
    rw [hv] at c2
    exact ⟨H2, A2, .pan (overV kk), by simp [C165, regsOf, fin, iresult1, ptrV, hv, hus, ho, cN, m1, c2], h2, (Nx.trans ⟨rfl, Fx.of_fr fN, fun x hx => .inl hx⟩ n2), rfl⟩
  obtain ⟨H2, A2, e2, c2, h2, n2, rv2⟩ := m_keep hN lN hlen _ _ k1
  obtain ⟨u2, rfl, rfl⟩ := rv2
  have nx2 : Nx H A H2 A2 := Nx.trans ⟨rfl, Fx.of_fr fN, fun x hx => .inl hx⟩ n2
  obtain ⟨fs, hσ2, _⟩ := vKeep_same k1
  have p2 : A2.p = A.p := nx2.p
  -- the number of objects
  obtain ⟨u1, q1⟩ := h2.scal (σ' := { σ2 with made := σ2.made + 1 }) ⟨rfl, rfl, rfl⟩ rfl rfl ⟨h2.ok.words, h2.ok.stack, h2.ok.fits, h2.ok.fuel, h2.ok.steps, by rw [hσ2]; exact hst.1, h2.ok.swept, h2.ok.out, h2.ok.inn⟩
  have hmle : σ2.made ≤ 16777216 := by have := h2.ok.made; have := h2.ok.steps; have := h2.ok.fuel; omega
  have hsw3 : σ2.swept < σ2.steps := by rw [hσ2]; exact hst.2
  have nx3 := nx2.trans q1
  have o2 := h2.obj
  rw [p2] at o2 u1 q1 nx3
  obtain ⟨H3, hH3⟩ : ∃ H3, H3 = H2.set A.p (.cells (A2.cells { σ2 with made := σ2.made + 1 }) 84 false) := ⟨_, rfl⟩
  rw [← hH3] at u1 q1 nx3
  have o3 := u1.obj
  rw [p2] at o3
  have w1 : IntKind.i64.wrap ((σ2.made : Int) + 1) = (σ2.made : Int) + 1 := by rw [wrapI]; omega
  obtain ⟨ca, cc, hcv, _⟩ := id u1.col
  change A2.cv = .slice ca σ2.collect.length cc at hcv
  simp only [VA.cells, ptrV, Int.natCast_add, Int.natCast_one, Int.cast_ofNat_Int] at o2 o3 hH3
  rw [hcv] at o2 o3 hH3
  rcases VM.bind_cases hx3 with ⟨sw, σa, y1, hx4⟩ | ⟨k, y1, _⟩
  rotate_left
  · obtain ⟨y2, _⟩ := VM.get_cases y1
    simp at y2
  obtain ⟨y2, hσa⟩ := VM.get_cases y1
  rw [hσa] at hx4
  simp only [Except.ok.injEq] at y2
  clear y1 hx3 hσa
  rw [VM.bind_ok (show VM.upd (fun σ => { σ with made := σ.made + 1 }) σ2 = some (.ok (), { σ2 with made := σ2.made + 1 }) from rfl)] at hx4
  obtain ⟨σ3, hσ3⟩ : ∃ σ3, σ3 = { σ2 with made := σ2.made + 1 } := ⟨_, rfl⟩
  rw [← hσ3] at u1 hx4
  have hly3 : σ3.hp.ly = σ.hp.ly := by rw [hσ3, hσ2]
  have hsw3 : σ3.swept < σ3.steps := by rw [hσ3]; exact hsw3
  have hcl3 : σ3.collect = σ2.collect := by rw [hσ3]
  simp only [ptrV] at c2
  rw [hv] at c2
  -- the element of the list: is there to be a collection?
  have D : (¬ σ2.made < σ2.collect.length ∧ sw = false) ∨ (σ2.made < σ2.collect.length ∧ ∃ cb co ccs cpr, ca = some ⟨cb, co, none⟩ ∧ H3.get cb = some (.cells ccs 4 cpr) ∧ ccs[co + σ2.made]? = some (.bool sw)) := by
    by_cases hlt : σ2.made < σ2.collect.length
    · right
      rw [List.getElem?_eq_getElem hlt, Option.getD_some] at y2
      obtain ⟨b', o', c', e1, e2, e3, e4⟩ := u1.col.get (i := σ2.made) (x := sw) (by rw [hcl3, List.getElem?_eq_getElem hlt, y2])
      rw [hcv] at e1
      simp only [Value.slice.injEq] at e1
      obtain ⟨ccs, cpr, j1, j2⟩ := e4
      rw [Nat.mul_one] at j2
      exact ⟨hlt, b', o', ccs, cpr, e1.1, j1, j2⟩
    · left
      rw [List.getElem?_eq_none (by omega), Option.getD_none] at y2
      exact ⟨hlt, y2⟩
  have hu3 := hu.nx nx3
  obtain ⟨A3, hA3⟩ : ∃ A3, A3 = A2 := ⟨_, rfl⟩
  rw [← hA3] at u1 hu3 nx3
  have p3 : A3.p = A.p := by rw [hA3]; exact p2
  have hp3 : A2.hp.p = A3.hp.p := by rw [hA3]
  have p2' : A3.p = A.p := p3
  cases sw with
  | true =>
    rw [if_pos rfl] at hx4
    obtain ⟨hlt, cb, co, ccs, cpr, rfl, j1, j2⟩ : σ2.made < σ2.collect.length ∧ ∃ cb co ccs cpr, ca = some ⟨cb, co, none⟩ ∧ H3.get cb = some (.cells ccs 4 cpr) ∧ ccs[co + σ2.made]? = some (.bool true) := by
      rcases D with ⟨_, hf⟩ | D
      · simp at hf
      · exact D
    rcases VM.bind_cases hx4 with ⟨held, σ4, s1, hx5⟩ | ⟨k, s1, rfl⟩
    rotate_left
    · obtain ⟨H4, A4, e4, c4, h4, n4, rv4⟩ := hS.run H3 A3 σ3 u ws u1 hu3 hw hwl hsw3 _ _ s1
      have rv4 : e4 = .pan (overV k) := rv4
      subst rv4
      rw [p3] at c4
      simp only [ptrV, hus] at c4
      exact ⟨H4, A4, .pan (overV k), by simp [C165, regsOf, fin, iresult1, ptrV, hv, hus, ho, cN, m1, c2, o2, w1, istore, Value.cells, plain1, overlay, ← hH3, o3, iindexAddr, hlt, j1, j2, c4], h4, nx3.trans n4, rfl⟩
    obtain ⟨H4, A4, e4, c4, h4, n4, rv4⟩ := hS.run H3 A3 σ3 u ws u1 hu3 hw hwl hsw3 _ _ s1
    obtain ⟨uh, rfl, hh1, hh2, hh3⟩ := rv4
    have hly4 := (hS.ly _ _ _ _ s1).trans hly3
    rw [p3] at c4
    have p4 : A4.p = A.p := n4.p.trans p3
    have o4 := h4.obj
    rw [p4] at o4
    obtain ⟨ha, hn', hc', hue⟩ := hh1.val
    subst hue
    have z1 := c_Size h4.hp
    have z2 := c_Top h4.hp
    have ht4 := h4.hp.ok.top
    have hs4 := h4.hp.ok.ws
    have w2 : IntKind.i64.wrap ((σ4.hp.ws.length : Int) - (σ4.hp.top : Int)) = (σ4.hp.ws.length : Int) - (σ4.hp.top : Int) := by rw [wrapI]; omega
    simp only [VA.cells, ptrV] at o4
    simp only [ptrV, hus] at c4
    simp only [HpA.ptr] at z1 z2
    rcases VM.bind_cases hx5 with ⟨full, σ5, f1, hx6⟩ | ⟨k, f1, _⟩
    rotate_left
    · obtain ⟨f2, _⟩ := VM.get_cases f1
      simp at f2
    obtain ⟨f2, rfl⟩ := VM.get_cases f1
    simp only [Except.ok.injEq] at f2
    unfold Hp.room at f2
    cases full with
    | true =>
      rw [if_pos rfl] at hx6
      have f3 := of_decide_eq_true f2.symm
      have : r = .error 4 ∧ σ' = σ5 := by
        rcases VM.bind_cases hx6 with ⟨held2, σ6, g1, hx7⟩ | ⟨k, g1, rfl⟩
        · simp [vbnd, VM.bind, VM.ret, VM.get, vEnd, Hp.room, f3] at g1
        · simp [vbnd, VM.bind, VM.ret, VM.get, vEnd, Hp.room, f3] at g1
          exact ⟨by rw [g1.1], g1.2.symm⟩
      obtain ⟨rfl, rfl⟩ := this
      exact ⟨H4, A4, .pan (overV 4), by simp [C165, regsOf, fin, iresult1, ptrV, hv, hus, ho, cN, m1, c2, o2, w1, istore, Value.cells, plain1, overlay, ← hH3, o3, iindexAddr, hlt, j1, j2, c4, o4, z1, z2, w2, f3, m3], h4, nx3.trans n4, rfl⟩
    | false =>
      rw [if_neg (by simp), VM.bind_ok (show VM.ret held σ5 = some (.ok held, σ5) from rfl)] at hx6
      have f3 := of_decide_eq_false f2.symm
      simp only [vbnd, VM.bind, VM.ret, VM.get, VM.upd, Option.some.injEq, Prod.mk.injEq] at hx6
      obtain ⟨rfl, rfl⟩ := hx6
      obtain ⟨H5, c5, h5, n5⟩ := m_alloc h4 (s := s) (n := n) (k := pk) (by rw [Hp.need_ly hly4]; exact hneed) (by unfold Hp.room; exact f3)
      simp only [HpA.ptr] at c5
      exact ⟨H5, A4, .ret (.tuple #[.int .i64 (σ5.hp.top : Int), .slice ha hn' hc']), by simp [C165, regsOf, fin, iresult1, ptrV, hv, hus, ho, cN, m1, c2, o2, w1, istore, Value.cells, plain1, overlay, ← hH3, o3, iindexAddr, hlt, j1, j2, c4, o4, z1, z2, w2, f3, c5], h5, (nx3.trans n4).trans n5, _, rfl, _, rfl, ⟨hh1.nx n5, hh2, hh3⟩, by omega⟩
  | false =>
    rw [if_neg (by simp), VM.bind_ok (show VM.ret ws σ3 = some (.ok ws, σ3) from rfl)] at hx4
    have z1 := c_Size u1.hp
    have z2 := c_Top u1.hp
    have ht4 := u1.hp.ok.top
    have hs4 := u1.hp.ok.ws
    have w2 : IntKind.i64.wrap ((σ3.hp.ws.length : Int) - (σ3.hp.top : Int)) = (σ3.hp.ws.length : Int) - (σ3.hp.top : Int) := by rw [wrapI]; omega
    simp only [HpA.ptr] at z1 z2
    rw [← hp3] at z1 z2
    rcases VM.bind_cases hx4 with ⟨full, σ5, f1, hx6⟩ | ⟨k, f1, _⟩
    rotate_left
    · obtain ⟨f2, _⟩ := VM.get_cases f1
      simp at f2
    obtain ⟨f2, rfl⟩ := VM.get_cases f1
    simp only [Except.ok.injEq] at f2
    unfold Hp.room at f2
    cases full with
    | false =>
      rw [if_neg (by simp), VM.bind_ok (show VM.ret ws σ5 = some (.ok ws, σ5) from rfl)] at hx6
      have f3 := of_decide_eq_false f2.symm
      simp only [vbnd, VM.bind, VM.ret, VM.get, VM.upd, Option.some.injEq, Prod.mk.injEq] at hx6
      obtain ⟨rfl, rfl⟩ := hx6
      obtain ⟨H5, c5, h5, n5⟩ := m_alloc u1 (s := s) (n := n) (k := pk) (by rw [Hp.need_ly hly3]; exact hneed) (by unfold Hp.room; exact f3)
      simp only [HpA.ptr] at c5
      rw [← hp3] at c5
      refine ⟨H5, A3, .ret (.tuple #[.int .i64 (σ5.hp.top : Int), u]), ?_, h5, nx3.trans n5, _, rfl, _, rfl, ⟨hu3.nx n5, hw, rfl⟩, by omega⟩
      rcases D with ⟨hlt, _⟩ | ⟨hlt, cb, co, ccs, cpr, rfl, j1, j2⟩
      · simp [C165, regsOf, fin, iresult1, ptrV, hv, hus, ho, cN, m1, c2, o2, w1, istore, Value.cells, plain1, overlay, ← hH3, o3, iindexAddr, hlt, z1, z2, w2, f3, c5]
      · simp [C165, regsOf, fin, iresult1, ptrV, hv, hus, ho, cN, m1, c2, o2, w1, istore, Value.cells, plain1, overlay, ← hH3, o3, iindexAddr, hlt, j1, j2, z1, z2, w2, f3, c5]
    | true =>
      rw [if_pos rfl] at hx6
      have f3 := of_decide_eq_true f2.symm
      have key : (∃ k, Sw ws σ5 = some (.error k, σ') ∧ r = .error k) ∨ (∃ held σ4, Sw ws σ5 = some (.ok held, σ4) ∧ ((σ4.hp.room < pk ∧ r = .error 4 ∧ σ' = σ4) ∨ (¬ σ4.hp.room < pk ∧ r = .ok (σ4.hp.top, held) ∧ σ' = { σ4 with hp := σ4.hp.put s.toNat n.toNat }))) := by
        rcases VM.bind_cases hx6 with ⟨held2, σ6, g1, hx7⟩ | ⟨k, g1, rfl⟩
        · rcases VM.bind_cases g1 with ⟨held, σ4, s1, g2⟩ | ⟨k, s1, e⟩
          · rw [if_neg (by simp)] at s1
            right
            refine ⟨held, σ4, s1, .inr ?_⟩
            by_cases hr : σ4.hp.room < pk
            · simp [vbnd, VM.bind, VM.ret, VM.get, vEnd, hr] at g2
            · simp [vbnd, VM.bind, VM.ret, VM.get, vEnd, hr] at g2
              obtain ⟨rfl, rfl⟩ := g2
              simp only [vbnd, VM.bind, VM.ret, VM.get, VM.upd, Option.some.injEq, Prod.mk.injEq] at hx7
              exact ⟨hr, hx7.1.symm, hx7.2.symm⟩
          · simp at e
        · rcases VM.bind_cases g1 with ⟨held, σ4, s1, g2⟩ | ⟨k', s1, e⟩
          · rw [if_neg (by simp)] at s1
            right
            refine ⟨held, σ4, s1, .inl ?_⟩
            by_cases hr : σ4.hp.room < pk
            · simp [vbnd, VM.bind, VM.ret, VM.get, vEnd, hr] at g2
              exact ⟨hr, by rw [g2.1], g2.2.symm⟩
            · simp [vbnd, VM.bind, VM.ret, VM.get, vEnd, hr] at g2
          · rw [if_neg (by simp)] at s1
            simp only [Except.error.injEq] at e
            subst e
            exact .inl ⟨_, s1, rfl⟩
      rcases key with ⟨k, s1, rfl⟩ | ⟨held, σ4, s1, key⟩
      · obtain ⟨H4, A4, e4, c4, h4, n4, rv4⟩ := hS.run H3 A3 σ5 u ws u1 hu3 hw hwl hsw3 _ _ s1
        have rv4 : e4 = .pan (overV k) := rv4
        subst rv4
        rw [p3] at c4
        simp only [ptrV, hus] at c4
        refine ⟨H4, A4, .pan (overV k), ?_, h4, nx3.trans n4, rfl⟩
        rcases D with ⟨hlt, _⟩ | ⟨hlt, cb, co, ccs, cpr, rfl, j1, j2⟩
        · simp [C165, regsOf, fin, iresult1, ptrV, hv, hus, ho, cN, m1, c2, o2, w1, istore, Value.cells, plain1, overlay, ← hH3, o3, iindexAddr, hlt, z1, z2, w2, f3, c4]
        · simp [C165, regsOf, fin, iresult1, ptrV, hv, hus, ho, cN, m1, c2, o2, w1, istore, Value.cells, plain1, overlay, ← hH3, o3, iindexAddr, hlt, j1, j2, z1, z2, w2, f3, c4]
      · obtain ⟨H4, A4, e4, c4, h4, n4, rv4⟩ := hS.run H3 A3 σ5 u ws u1 hu3 hw hwl hsw3 _ _ s1
        obtain ⟨uh, rfl, hh1, hh2, hh3⟩ := rv4
        have hly4 := (hS.ly _ _ _ _ s1).trans hly3
        rw [p3] at c4
        have p4 : A4.p = A.p := n4.p.trans p3
        have o4 := h4.obj
        rw [p4] at o4
        obtain ⟨ha, hn', hc', hue⟩ := hh1.val
        subst hue
        have z3 := c_Size h4.hp
        have z4 := c_Top h4.hp
        have ht4 := h4.hp.ok.top
        have hs4 := h4.hp.ok.ws
        have w3 : IntKind.i64.wrap ((σ4.hp.ws.length : Int) - (σ4.hp.top : Int)) = (σ4.hp.ws.length : Int) - (σ4.hp.top : Int) := by rw [wrapI]; omega
        simp only [VA.cells, ptrV] at o4
        simp only [ptrV, hus] at c4
        simp only [HpA.ptr] at z3 z4
        unfold Hp.room at key
        rcases key with ⟨f4, rfl, rfl⟩ | ⟨f4, rfl, rfl⟩
        · refine ⟨H4, A4, .pan (overV 4), ?_, h4, nx3.trans n4, rfl⟩
          rcases D with ⟨hlt, _⟩ | ⟨hlt, cb, co, ccs, cpr, rfl, j1, j2⟩
          · simp [C165, regsOf, fin, iresult1, ptrV, hv, hus, ho, cN, m1, c2, o2, w1, istore, Value.cells, plain1, overlay, ← hH3, o3, iindexAddr, hlt, z1, z2, w2, f3, c4, o4, z3, z4, w3, f4, m3]
          · simp [C165, regsOf, fin, iresult1, ptrV, hv, hus, ho, cN, m1, c2, o2, w1, istore, Value.cells, plain1, overlay, ← hH3, o3, iindexAddr, hlt, j1, j2, z1, z2, w2, f3, c4, o4, z3, z4, w3, f4, m3]
        · obtain ⟨H5, c5, h5, n5⟩ := m_alloc h4 (s := s) (n := n) (k := pk) (by rw [Hp.need_ly hly4]; exact hneed) (by unfold Hp.room; exact f4)
          simp only [HpA.ptr] at c5
          refine ⟨H5, A4, .ret (.tuple #[.int .i64 (σ4.hp.top : Int), .slice ha hn' hc']), ?_, h5, (nx3.trans n4).trans n5, _, rfl, _, rfl, ⟨hh1.nx n5, hh2, hh3⟩, by omega⟩
          rcases D with ⟨hlt, _⟩ | ⟨hlt, cb, co, ccs, cpr, rfl, j1, j2⟩
          · simp [C165, regsOf, fin, iresult1, ptrV, hv, hus, ho, cN, m1, c2, o2, w1, istore, Value.cells, plain1, overlay, ← hH3, o3, iindexAddr, hlt, z1, z2, w2, f3, c4, o4, z3, z4, w3, f4, c5]
          · simp [C165, regsOf, fin, iresult1, ptrV, hv, hus, ho, cN, m1, c2, o2, w1, istore, Value.cells, plain1, overlay, ← hH3, o3, iindexAddr, hlt, j1, j2, z1, z2, w2, f3, c4, o4, z3, z4, w3, f4, c5]
end
end Go.Proofs.YtchlbfmjnhgpgaaGreat.Idl
namespace Go.Proofs.YtchlbfmjnhgpgaaGreat.Idl
open Go
set_option maxHeartbeats 8000000
set_option maxRecDepth 100000
set_option linter.unusedSimpArgs false
section
variable {H : IH} {lo : Nat} {im : Img} {A : VA} {σ σ' : Mst}
theorem m_object (h : VmAt H lo im A σ) (i k1 k2 : Int) {r : Except Int (Nat × Nat)} (hx : vObject i k1 k2 σ = some (r, σ')) :
    σ' = σ ∧ ((∃ p, r = .ok p ∧ p.1 < 9223372036854775808 ∧ p.2 < 1048576 ∧ cal J okAll 168 #[ptrV A.p, .int .i64 i, .int .i64 k1, .int .i64 k2] H = some (.ret (.tuple #[.int .i64 (p.1 : Int), .int .i64 (p.2 : Int)]), H)) ∨
      (r = .error 6 ∧ cal J okAll 168 #[ptrV A.p, .int .i64 i, .int .i64 k1, .int .i64 k2] H = some (.pan (overV 6), H))) := by
  rw [cal168 _ _ (by simp)]
  have ho := h.obj
  have hm1 := c_must (H := H) (ptrV A.p) true
  have hm2 := c_must (H := H) (ptrV A.p) false
  simp only [VA.cells, ptrV] at ho
  simp only [ptrV] at hm1 hm2
  unfold vObject at hx
  rcases VM.bind_cases hx with ⟨w, σ1, h1, h2⟩ | ⟨k, h1, h2⟩
  rotate_left
  · obtain ⟨rfl, h3⟩ := rd_slot h h1
    rcases h3 with ⟨_, _, _, e1, _⟩ | ⟨e1, e2⟩
    · simp at e1
    · simp only [Except.error.injEq] at e1
      subst e1
      simp only [ptrV] at e2
      exact ⟨rfl, .inr ⟨h2, by simp [C168, regsOf, fin, iresult1, ptrV, e2]⟩⟩
  obtain ⟨rfl, h3⟩ := rd_slot h h1
  rcases h3 with ⟨w', b, o, e1, e2, e3, e4⟩ | ⟨e1, _⟩
  rotate_left
  · simp at e1
  simp only [Except.ok.injEq] at e1
  subst e1
  have hi := c_IsImm H w e2
  have ha := c_At H w e2
  simp only [ptrV] at e3
  rcases VM.bind_cases h2 with ⟨u, σ2, h3, h4⟩ | ⟨k, h3, h4⟩
  rotate_left
  · obtain ⟨rfl, h5⟩ := vMust_cases h3
    rcases h5 with ⟨_, h5⟩ | ⟨h5, h6⟩
    · simp at h5
    · simp only [Except.error.injEq] at h6
      subst h6
      have h5 : wIsImm w = true := by simpa using h5
      rw [h5] at hi
      exact ⟨rfl, .inr ⟨h4, by simp [C168, regsOf, fin, iresult1, ptrV, e3, e4, hi, hm2]⟩⟩
  obtain ⟨rfl, h5⟩ := vMust_cases h3
  rcases h5 with ⟨h5, _⟩ | ⟨_, h5⟩
  rotate_left
  · simp at h5
  have h5 : wIsImm w = false := by simpa using h5
  rw [h5] at hi
  have hat : wAt w < 9223372036854775808 := by unfold wAt; omega
  have hsh := c_HShape h.hp (wAt w : Nat)
  have hln := c_HLen h.hp (wAt w : Nat)
  have hc0 : (0 : Int) ≤ ((wAt w : Nat) : Int) := by omega
  simp only [HpA.ptr, Int.toNat_natCast, hc0, true_and] at hsh hln
  rcases VM.bind_cases h4 with ⟨kd, σ3, g1, g2⟩ | ⟨k, g1, _⟩
  rotate_left
  · obtain ⟨y2, _⟩ := VM.get_cases g1
    simp at y2
  obtain ⟨y2, rfl⟩ := VM.get_cases g1
  simp only [Except.ok.injEq] at y2
  have hkd := c_Kind h.hp ((σ3.hp.shapeOf (wAt w) : Nat) : Int)
  rw [← y2] at hkd
  simp only [HpA.ptr] at hkd
  have hsv : ∃ e, (if σ3.hp.is (wAt w) = true then Value.tuple #[.int .i64 (wShape (σ3.hp.w (wAt w)) : Nat), .int .i64 0] else .tuple #[.int .i64 0, .int .i64 1]) = .tuple #[.int .i64 ((σ3.hp.shapeOf (wAt w) : Nat) : Int), .int .i64 e] := by
    unfold Hp.shapeOf
    split
    · exact ⟨0, rfl⟩
    · exact ⟨1, rfl⟩
  have hlv : ∃ e, (if σ3.hp.is (wAt w) = true then Value.tuple #[.int .i64 (wLen (σ3.hp.w (wAt w)) : Nat), .int .i64 0] else .tuple #[.int .i64 0, .int .i64 1]) = .tuple #[.int .i64 ((σ3.hp.lenOf (wAt w) : Nat) : Int), .int .i64 e] := by
    unfold Hp.lenOf
    split
    · exact ⟨0, rfl⟩
    · exact ⟨1, rfl⟩
  obtain ⟨e5, hsv⟩ := hsv
  obtain ⟨e6, hlv⟩ := hlv
  rw [hsv] at hsh
  rw [hlv] at hln
  rcases VM.bind_cases g2 with ⟨_, σ4, f1, f2⟩ | ⟨k, f1, f2⟩
  · obtain ⟨rfl, f3⟩ := vMust_cases f1
    rcases f3 with ⟨f3, _⟩ | ⟨_, f3⟩
    rotate_left
    · simp at f3
    simp only [vbnd, VM.bind, VM.get, VM.ret, Option.some.injEq, Prod.mk.injEq] at f2
    obtain ⟨rfl, rfl⟩ := f2
    have hl20 : σ4.hp.lenOf (wAt w) < 1048576 := by unfold Hp.lenOf wLen; split <;> omega
    refine ⟨rfl, .inl ⟨_, rfl, hat, hl20, ?_⟩⟩
    cases d1 : decide (kd = k1) with
    | true => simp [C168, regsOf, fin, iresult1, ptrV, e3, e4, hi, hm1, ha, ho, hsh, hkd, d1, hln]
    | false =>
      have d2 : decide (kd = k2) = true := by simpa [d1] using f3
      simp [C168, regsOf, fin, iresult1, ptrV, e3, e4, hi, hm1, ha, ho, hsh, hkd, d1, d2, hln]
  · obtain ⟨rfl, f3⟩ := vMust_cases f1
    rcases f3 with ⟨_, f3⟩ | ⟨f3, f4⟩
    · simp at f3
    simp only [Except.error.injEq] at f4
    subst f4
    simp only [Bool.or_eq_false_iff] at f3
    refine ⟨rfl, .inr ⟨f2, ?_⟩⟩
    simp [C168, regsOf, fin, iresult1, ptrV, e3, e4, hi, hm1, hm2, ha, ho, hsh, hkd, f3.1, f3.2]
end
end Go.Proofs.YtchlbfmjnhgpgaaGreat.Idl
namespace Go.Proofs.YtchlbfmjnhgpgaaGreat.Idl
open Go
set_option maxHeartbeats 8000000
set_option maxRecDepth 100000
set_option linter.unusedSimpArgs false
section
variable {H : IH} {lo : Nat} {im : Img} {A : VA} {σ : Mst}
theorem m_hset (h : VmAt H lo im A σ) (hg : σ.hp.good = true) (s i : Int) (w : Nat) (hw : w < 18446744073709551616) :
    ∃ H', cal J okAll 173 #[A.hp.ptr, .int .i64 s, .int .i64 i, .int .u64 w] H = some (.ret (.int .i64 (if σ.hp.setE s i w = true then 0 else 1)), H') ∧ VmAt H' lo im A { σ with hp := σ.hp.set s i w } ∧ Nx H A H' A := by
  obtain ⟨hs, hf⟩ := (Hp.good_iff _).1 hg
  have hc := c_Set h.hp hs hf s i w hw
  unfold Hp.setE Hp.set
  cases hb : (σ.hp.has s i false && σ.hp.fits w) with
  | true =>
    rw [hb, if_pos rfl] at hc
    obtain ⟨v1, v2⟩ := h.heap (h.hp.setW (i := s.toNat + 1 + i.toNat) hw) ((Fx.refl _ _).set (.inl (by simp)) _)
    exact ⟨_, by rw [if_pos rfl]; exact hc, by rw [if_pos rfl]; exact v1, v2⟩
  | false =>
    rw [hb, if_neg (by simp)] at hc
    exact ⟨H, by rw [if_neg (by simp)]; exact hc, by rw [if_neg (by simp)]; exact h, .refl _ _⟩
theorem HeldAt.get {own : List Nat} {u : Value} {ws : List Nat} (h : HeldAt H own u ws) {i : Nat} (hi : i < ws.length) : ∃ b o c cs, u = .slice (some ⟨b, o, none⟩) ws.length c ∧ H.get b = some (.cells cs 62 false) ∧ cs[o + i]? = some (.int .u64 (ws[i] : Nat)) := by
  rcases h with ⟨_, rfl⟩ | ⟨b, o, c, cs, h1, _, _, h4, h5⟩
  · simp at hi
  · exact ⟨b, o, c, cs, h1, h4, h5 i hi⟩
theorem loop112b (a n : Nat) (u : Value) (ws : List Nat) (w : Nat) (hw : w < 18446744073709551616) (hn : n ≤ 65536) (h0 : ws[0]? = some w) (K : Nat → Value) (k0 : K 0 = ptrV A.p) (k10 : K 10 = .int .i64 (a : Int)) (k11 : K 11 = u) : ∀ (d i : Nat) (T : Regs) (H : IH) (σ : Mst), i + d = n →
    VmAt H lo im A σ → HeldAt H A.own u ws → σ.hp.goodAll a i (List.replicate d w) = true → (∀ t, t < 12 → T.at t = K t) → T.at 170 = .int .i64 (n : Int) → T.at 171 = .int .i64 (i : Int) →
    ∃ T' H', run J okAll (.loop L112_1) T H = some (.exit 3, T', H') ∧ VmAt H' lo im A { σ with hp := σ.hp.setAll a i (List.replicate d w) } ∧ Nx H A H' A ∧ (∀ t, t < 12 → T'.at t = K t) := by
  intro d
  induction d with
  | zero =>
    intro i T H σ hd h hu hg hK t170 t171
    have : i = n := by omega
    subst this
    rw [r_loop]
    simp [L112_1, t170, t171]
    exact ⟨_, _, ⟨rfl, rfl⟩, h, .refl _ _, fun t ht => by simp (disch := omega) only [at_set_gt]; exact hK t ht⟩
  | succ d ih =>
    intro i T H σ hd h hu hg hK t170 t171
    rw [List.replicate_succ] at hg ⊢
    unfold Hp.goodAll at hg
    simp only [Bool.and_eq_true] at hg
    obtain ⟨hg1, hg2⟩ := hg
    obtain ⟨H1, c1, h1, n1⟩ := m_hset h hg1 (a : Int) (i : Int) w hw
    have t0 := (hK 0 (by omega)).trans k0
    have t10 := (hK 10 (by omega)).trans k10
    have t11 := (hK 11 (by omega)).trans k11
    have hlen : 0 < ws.length := by
      rcases ws with _ | ⟨x, l⟩
      · simp at h0
      · simp
    obtain ⟨b, o, c, cs, e1, e2, e3⟩ := hu.get hlen
    have hww : ws[0] = w := by rw [List.getElem?_eq_getElem hlen] at h0; simpa using h0
    rw [hww, Nat.add_zero] at e3
    rw [e1] at t11
    have ho := h.obj
    have hlt : i < n := by omega
    have hw1 : IntKind.i64.wrap ((i : Int) + 1) = ((i + 1 : Nat) : Int) := by rw [wrap64 _ (by omega) (by omega)]; simp
    simp only [VA.cells, ptrV] at ho t0
    simp only [HpA.ptr] at c1
    obtain ⟨T1, s1, s2, s3, s4⟩ : ∃ T1, run J okAll (.loop L112_1) T H = run J okAll (.loop L112_1) T1 H1 ∧ (∀ t, t < 12 → T1.at t = K t) ∧ T1.at 170 = .int .i64 (n : Int) ∧ T1.at 171 = .int .i64 ((i + 1 : Nat) : Int) := by
      rw [r_loop]
      simp [L112_1, t0, t10, t11, t170, t171, hlt, ho, iindexAddr, hlen, e2, e3, c1, hw1]
      exact ⟨_, rfl, fun t ht => by simp (disch := omega) only [at_set_gt]; exact hK t ht, by simp [t170], by simp⟩
    obtain ⟨T2, H2, r1, r2, r3, r4⟩ := ih (i + 1) T1 H1 _ (by omega) h1 (hu.nx n1) hg2 s2 s3 s4
    refine ⟨T2, H2, s1.trans r1, ?_, n1.trans r3, r4⟩
    unfold Hp.setAll
    exact r2
theorem loop112a (a : Nat) (u : Value) (ws : List Nat) (hws : ∀ w ∈ ws, w < 18446744073709551616) (hn : ws.length ≤ 65536) (K : Nat → Value) (k0 : K 0 = ptrV A.p) (k4 : K 4 = .int .i64 (a : Int)) : ∀ (rest : List Nat) (i : Nat) (T : Regs) (H : IH) (σ : Mst), ws.drop i = rest → i ≤ ws.length →
    VmAt H lo im A σ → HeldAt H A.own u ws → σ.hp.goodAll a i rest = true → (∀ t, t < 6 → T.at t = K t) → T.at 93 = u → T.at 94 = .int .i64 (ws.length : Int) → T.at 95 = .int .i64 (i : Int) →
    ∃ T' H', run J okAll (.loop L112_0) T H = some (.exit 1, T', H') ∧ VmAt H' lo im A { σ with hp := σ.hp.setAll a i rest } ∧ Nx H A H' A ∧ (∀ t, t < 6 → T'.at t = K t) := by
  intro rest
  induction rest with
  | nil =>
    intro i T H σ hd hi h hu hg hK t93 t94 t95
    have : i = ws.length := by
      have := congrArg List.length hd
      simp at this
      omega
    subst this
    rw [r_loop]
    simp [L112_0, t94, t95]
    exact ⟨_, _, ⟨rfl, rfl⟩, h, .refl _ _, fun t ht => by simp (disch := omega) only [at_set_gt]; exact hK t ht⟩
  | cons w rest ih =>
    intro i T H σ hd hi h hu hg hK t93 t94 t95
    have hlt : i < ws.length := by
      have := congrArg List.length hd
      simp at this
      omega
    rw [List.drop_eq_getElem_cons hlt] at hd
    simp only [List.cons.injEq] at hd
    obtain ⟨hd1, hd2⟩ := hd
    have hw : w < 18446744073709551616 := hws w (hd1 ▸ List.getElem_mem hlt)
    unfold Hp.goodAll at hg
    simp only [Bool.and_eq_true] at hg
    obtain ⟨hg1, hg2⟩ := hg
    obtain ⟨H1, c1, h1, n1⟩ := m_hset h hg1 (a : Int) (i : Int) w hw
    have t0 := (hK 0 (by omega)).trans k0
    have t4 := (hK 4 (by omega)).trans k4
    obtain ⟨b, o, c, cs, e1, e2, e3⟩ := hu.get hlt
    rw [hd1] at e3
    rw [e1] at t93
    have ho := h.obj
    have hw1 : IntKind.i64.wrap ((i : Int) + 1) = ((i + 1 : Nat) : Int) := by rw [wrap64 _ (by omega) (by omega)]; simp
    simp only [VA.cells, ptrV] at ho t0
    simp only [HpA.ptr] at c1
    obtain ⟨T1, s1, s2, s3, s4, s5⟩ : ∃ T1, run J okAll (.loop L112_0) T H = run J okAll (.loop L112_0) T1 H1 ∧ (∀ t, t < 6 → T1.at t = K t) ∧ T1.at 93 = u ∧ T1.at 94 = .int .i64 (ws.length : Int) ∧ T1.at 95 = .int .i64 ((i + 1 : Nat) : Int) := by
      rw [r_loop]
      simp [L112_0, t0, t4, t93, t94, t95, hlt, ho, iindexAddr, e2, e3, c1, hw1]
      exact ⟨_, rfl, fun t ht => by simp (disch := omega) only [at_set_gt]; exact hK t ht, by simp [t93, e1], by simp [t94], by simp⟩
    obtain ⟨T2, H2, r1, r2, r3, r4⟩ := ih (i + 1) T1 H1 _ hd2 (by omega) h1 (hu.nx n1) hg2 s2 s3 s4 s5
    refine ⟨T2, H2, s1.trans r1, ?_, n1.trans r3, r4⟩
    unfold Hp.setAll
    exact r2
end
end Go.Proofs.YtchlbfmjnhgpgaaGreat.Idl
namespace Go.Proofs.YtchlbfmjnhgpgaaGreat.Idl
open Go
set_option maxHeartbeats 8000000
set_option maxRecDepth 100000
set_option linter.unusedSimpArgs false
theorem RV.unit {H' : IH} {A' : VA} {r : Except Int Unit} {e : IE} (h : RV UnitV H' A' r e) : e = .ret (.tuple #[]) ∨ ∃ k, e = .pan (overV k) := by
  cases r with
  | ok a => obtain ⟨u, rfl, rfl⟩ := h; exact .inl rfl
  | error k => exact .inr ⟨k, h⟩
theorem vGood_cases {σ σ' : Mst} {r : Except Int Unit} (h : vGood σ = some (r, σ')) : σ' = σ ∧ r = .ok () ∧ σ.hp.good = true := by
  unfold vGood at h
  split at h
  · rename_i hg
    simp only [Option.some.injEq, Prod.mk.injEq] at h
    exact ⟨h.2.symm, h.1.symm, hg⟩
  · simp at h
section
variable {lo : Nat} {im : Img}
theorem m_field (x : Ins) (hop : x.op = 6) : InsOut lo im 112 x (vField x) := by
  intro H A σ b o h hblo hx hxl hne hst r σ' hr
  obtain ⟨cs, pr, vl, vm, vv, g0, g1, g2, g3, g4, g5, g6, g7, g8, g9, g10, g11, g12⟩ := hx.ex
  rw [cal112 _ _ (by simp)]
  rw [hop] at g1
  have ho := h.obj
  have hm1 := c_must (H := H) (ptrV A.p) true
  have hm2 := c_must (H := H) (ptrV A.p) false
  simp only [VA.cells, ptrV] at ho
  simp only [ptrV] at hm1 hm2
  unfold vField at hr
  rcases VM.bind_cases hr with ⟨p, σ1, y1, hr2⟩ | ⟨k, y1, rfl⟩
  rotate_left
  · obtain ⟨rfl, y2⟩ := m_object h _ _ _ y1
    rcases y2 with ⟨_, y2, _⟩ | ⟨y2, y3⟩
    · simp at y2
    · simp only [Except.error.injEq] at y2
      subst y2
      simp only [ptrV] at y3
      exact ⟨H, A, .pan (overV 6), by simp [C112, regsOf, fin, iresult1, ptrV, g0, g1, g3, y3], h, .refl _ _, rfl⟩
  obtain ⟨rfl, y2⟩ := m_object h _ _ _ y1
  rcases y2 with ⟨p', y2, y3, _, y4⟩ | ⟨y2, _⟩
  rotate_left
  · simp at y2
  simp only [Except.ok.injEq] at y2
  subst y2
  obtain ⟨at_, ln⟩ := p
  simp only [ptrV] at y4 y3 hr2
  rcases VM.bind_cases hr2 with ⟨_, σ2, z1, hr3⟩ | ⟨k, z1, _⟩
  rotate_left
  · obtain ⟨_, z2, _⟩ := vGood_cases z1
    simp at z2
  obtain ⟨rfl, _, hg⟩ := vGood_cases z1
  obtain ⟨hs, hf⟩ := (Hp.good_iff _).1 hg
  have hc := c_Get h.hp hs hf (at_ : Nat) x.b
  rcases VM.bind_cases hr3 with ⟨w, σ3, w1, hr4⟩ | ⟨k, w1, _⟩
  rotate_left
  · obtain ⟨w2, _⟩ := VM.get_cases w1
    simp at w2
  obtain ⟨w2, rfl⟩ := VM.get_cases w1
  simp only [Except.ok.injEq] at w2
  rw [← w2] at hc
  have hwl : w.1 < 18446744073709551616 := by
    rw [w2]; unfold Hp.get; split
    · exact h.hp.wlt _
    · simp
  obtain ⟨wv, we⟩ := w
  simp only [HpA.ptr] at hc hr4
  rcases VM.bind_cases hr4 with ⟨_, σ4, f1, hr5⟩ | ⟨k, f1, rfl⟩
  · obtain ⟨rfl, f2⟩ := vMust_cases f1
    rcases f2 with ⟨f2, _⟩ | ⟨_, f2⟩
    rotate_left
    · simp at f2
    obtain ⟨H1, A1, e, c1, h1, n1, rv1⟩ := m_set h x.d wv hwl _ _ hr5
    refine ⟨H1, A1, e, ?_, h1, n1, rv1⟩
    simp only [ptrV] at c1
    rcases rv1.unit with rfl | ⟨k, rfl⟩ <;> simp [C112, regsOf, fin, iresult1, ptrV, g0, g1, g2, g3, g4, y4, ho, hc, f2, hm1, c1]
  · obtain ⟨rfl, f2⟩ := vMust_cases f1
    rcases f2 with ⟨_, f2⟩ | ⟨f2, f3⟩
    · simp at f2
    simp only [Except.error.injEq] at f3
    subst f3
    exact ⟨H, A, .pan (overV 6), by simp [C112, regsOf, fin, iresult1, ptrV, g0, g1, g2, g3, g4, y4, ho, hc, f2, hm2], h, .refl _ _, rfl⟩
theorem m_at (x : Ins) (hop : x.op = 9) : InsOut lo im 112 x (vAtI im x) := by
  intro H A σ b o h hblo hx hxl hne hst r σ' hr
  obtain ⟨cs, pr, vl, vm, vv, g0, g1, g2, g3, g4, g5, g6, g7, g8, g9, g10, g11, g12⟩ := hx.ex
  rw [cal112 _ _ (by simp)]
  rw [hop] at g1
  have ho := h.obj
  simp only [VA.cells, ptrV] at ho
  unfold vAtI at hr
  rcases VM.bind_cases hr with ⟨p, σ1, y1, hr2⟩ | ⟨k, y1, rfl⟩
  rotate_left
  · obtain ⟨rfl, y2⟩ := m_object h _ _ _ y1
    rcases y2 with ⟨_, y2, _⟩ | ⟨y2, y3⟩
    · simp at y2
    · simp only [Except.error.injEq] at y2
      subst y2
      simp only [ptrV] at y3
      exact ⟨H, A, .pan (overV 6), by simp [C112, regsOf, fin, iresult1, ptrV, g0, g1, g3, y3], h, .refl _ _, rfl⟩
  obtain ⟨rfl, y2⟩ := m_object h _ _ _ y1
  rcases y2 with ⟨p', y2, y3, _, y4⟩ | ⟨y2, _⟩
  rotate_left
  · simp at y2
  simp only [Except.ok.injEq] at y2
  subst y2
  obtain ⟨at_, ln⟩ := p
  simp only [ptrV] at y4 y3 hr2
  rcases VM.bind_cases hr2 with ⟨n, σ2, x1, hr3⟩ | ⟨k, x1, rfl⟩
  rotate_left
  · obtain ⟨rfl, x2⟩ := m_number h _ x1
    rcases x2 with ⟨_, x2, _⟩ | ⟨x2, x3⟩
    · simp at x2
    · simp only [Except.error.injEq] at x2
      subst x2
      simp only [ptrV] at x3
      exact ⟨H, A, .pan (overV 6), by simp [C112, regsOf, fin, iresult1, ptrV, g0, g1, g3, g4, y4, ho, x3], h, .refl _ _, rfl⟩
  obtain ⟨rfl, x2⟩ := m_number h _ x1
  rcases x2 with ⟨n', x2, _, _, x3⟩ | ⟨x2, _⟩
  rotate_left
  · simp at x2
  simp only [Except.ok.injEq] at x2
  subst x2
  simp only [ptrV] at x3
  rcases VM.bind_cases hr3 with ⟨_, σ2, z1, hs1⟩ | ⟨k, z1, _⟩
  rotate_left
  · obtain ⟨_, z2, _⟩ := vGood_cases z1
    simp at z2
  obtain ⟨rfl, _, hg⟩ := vGood_cases z1
  obtain ⟨hs, hf⟩ := (Hp.good_iff _).1 hg
  have hidx := c_index (H := H) n
  have hc := c_Get h.hp hs hf (at_ : Nat) (vIndex n)
  rcases VM.bind_cases hs1 with ⟨w, σ3, w1, hr4⟩ | ⟨k, w1, _⟩
  rotate_left
  · obtain ⟨w2, _⟩ := VM.get_cases w1
    simp at w2
  obtain ⟨w2, rfl⟩ := VM.get_cases w1
  simp only [Except.ok.injEq] at w2
  rw [← w2] at hc
  have hwl : w.1 < 18446744073709551616 := by
    rw [w2]; unfold Hp.get; split
    · exact h.hp.wlt _
    · simp
  obtain ⟨wv, we⟩ := w
  simp only [HpA.ptr] at hc hr4
  by_cases hwe : we = 0
  · rw [if_pos hwe] at hr4
    obtain ⟨H1, A1, e, c1, h1, n1, rv1⟩ := m_set h x.d wv hwl _ _ hr4
    refine ⟨H1, A1, e, ?_, h1, n1, rv1⟩
    simp only [ptrV] at c1
    rcases rv1.unit with rfl | ⟨k, rfl⟩ <;> simp [C112, regsOf, fin, iresult1, ptrV, g0, g1, g2, g3, g4, y4, ho, x3, hidx, hc, hwe, c1]
  · rw [if_neg hwe] at hr4
    have hwd : decide (we = 0) = false := decide_eq_false hwe
    obtain ⟨H1, A1, e, c1, h1, n1, rv1⟩ := m_throw h (wImm 2) (wImm_lt 2) _ _ hr4
    have hi := c_Imm H 2 (by omega)
    refine ⟨H1, A1, e, ?_, h1, n1, rv1⟩
    simp only [ptrV] at c1
    rcases rv1.unit with rfl | ⟨k, rfl⟩ <;> simp [C112, regsOf, fin, iresult1, ptrV, g0, g1, g2, g3, g4, y4, ho, x3, hidx, hc, hwe, hwd, hi, c1]
end
end Go.Proofs.YtchlbfmjnhgpgaaGreat.Idl
namespace Go.Proofs.YtchlbfmjnhgpgaaGreat.Idl
open Go
set_option maxHeartbeats 8000000
set_option maxRecDepth 100000
set_option linter.unusedSimpArgs false
section
variable {lo : Nat} {im : Img}
theorem vHp_ok (f : Hp → Hp) (σ : Mst) : vHp f σ = some (.ok (), { σ with hp := f σ.hp }) := rfl
theorem m_store (x : Ins) (hop : x.op = 7) : InsOut lo im 112 x (vStore x) := by
  intro H A σ b o h hblo hx hxl hne hst r σ' hr
  obtain ⟨cs, pr, vl, vm, vv, g0, g1, g2, g3, g4, g5, g6, g7, g8, g9, g10, g11, g12⟩ := hx.ex
  rw [cal112 _ _ (by simp)]
  rw [hop] at g1
  have ho := h.obj
  simp only [VA.cells, ptrV] at ho
  unfold vStore at hr
  rcases VM.bind_cases hr with ⟨p, σ1, y1, hr2⟩ | ⟨k, y1, rfl⟩
  rotate_left
  · obtain ⟨rfl, y2⟩ := m_object h _ _ _ y1
    rcases y2 with ⟨_, y2, _⟩ | ⟨y2, y3⟩
    · simp at y2
    · simp only [Except.error.injEq] at y2
      subst y2
      simp only [ptrV] at y3
      exact ⟨H, A, .pan (overV 6), by simp [C112, regsOf, fin, iresult1, ptrV, g0, g1, g3, y3], h, .refl _ _, rfl⟩
  obtain ⟨rfl, y2⟩ := m_object h _ _ _ y1
  rcases y2 with ⟨p', y2, y3, _, y4⟩ | ⟨y2, _⟩
  rotate_left
  · simp at y2
  simp only [Except.ok.injEq] at y2
  subst y2
  obtain ⟨at_, ln⟩ := p
  simp only [ptrV] at y4 y3 hr2
  rcases VM.bind_cases hr2 with ⟨w, σ2, x1, hr3⟩ | ⟨k, x1, rfl⟩
  rotate_left
  · obtain ⟨rfl, x2⟩ := rd_slot h x1
    rcases x2 with ⟨_, _, _, x2, _⟩ | ⟨x2, x3⟩
    · simp at x2
    · simp only [Except.error.injEq] at x2
      subst x2
      simp only [ptrV] at x3
      exact ⟨H, A, .pan (overV 6), by simp [C112, regsOf, fin, iresult1, ptrV, g0, g1, g3, g4, g5, y4, ho, x3], h, .refl _ _, rfl⟩
  obtain ⟨rfl, x2⟩ := rd_slot h x1
  rcases x2 with ⟨w', b2, o2, x2, x3, x4, x5⟩ | ⟨x2, _⟩
  rotate_left
  · simp at x2
  simp only [Except.ok.injEq] at x2
  subst x2
  simp only [ptrV] at x4
  rcases VM.bind_cases hr3 with ⟨_, σ2, z1, hs1⟩ | ⟨k, z1, _⟩
  rotate_left
  · obtain ⟨_, z2, _⟩ := vGood_cases z1
    simp at z2
  obtain ⟨rfl, _, hg⟩ := vGood_cases z1
  obtain ⟨H1, c1, h1, n1⟩ := m_hset h hg (at_ : Nat) x.b w x3
  rcases VM.bind_cases hs1 with ⟨ok, σ3, w1, hr4⟩ | ⟨k, w1, _⟩
  rotate_left
  · obtain ⟨w2, _⟩ := VM.get_cases w1
    simp at w2
  obtain ⟨w2, rfl⟩ := VM.get_cases w1
  simp only [Except.ok.injEq] at w2
  rw [VM.bind_ok (vHp_ok _ _)] at hr4
  rw [← w2] at c1
  simp only [HpA.ptr] at c1
  obtain ⟨rfl, f2⟩ := vMust_cases hr4
  have hm1 := c_must (H := H1) (ptrV A.p) true
  have hm2 := c_must (H := H1) (ptrV A.p) false
  simp only [ptrV] at hm1 hm2
  rcases f2 with ⟨f2, rfl⟩ | ⟨f2, rfl⟩
  · rw [f2, if_pos rfl] at c1
    exact ⟨H1, A, .ret (.tuple #[]), by simp [C112, regsOf, fin, iresult1, ptrV, g0, g1, g2, g3, g4, g5, y4, ho, x4, x5, c1, hm1], h1, n1, _, rfl, rfl⟩
  · rw [f2, if_neg (by simp)] at c1
    exact ⟨H1, A, .pan (overV 6), by simp [C112, regsOf, fin, iresult1, ptrV, g0, g1, g2, g3, g4, g5, y4, ho, x4, x5, c1, hm2], h1, n1, rfl⟩
theorem m_put (x : Ins) (hop : x.op = 10) : InsOut lo im 112 x (vPut im x) := by
  intro H A σ b o h hblo hx hxl hne hst r σ' hr
  obtain ⟨cs, pr, vl, vm, vv, g0, g1, g2, g3, g4, g5, g6, g7, g8, g9, g10, g11, g12⟩ := hx.ex
  rw [cal112 _ _ (by simp)]
  rw [hop] at g1
  have ho := h.obj
  simp only [VA.cells, ptrV] at ho
  unfold vPut at hr
  rcases VM.bind_cases hr with ⟨p, σ1, y1, hr2⟩ | ⟨k, y1, rfl⟩
  rotate_left
  · obtain ⟨rfl, y2⟩ := m_object h _ _ _ y1
    rcases y2 with ⟨_, y2, _⟩ | ⟨y2, y3⟩
    · simp at y2
    · simp only [Except.error.injEq] at y2
      subst y2
      simp only [ptrV] at y3
      exact ⟨H, A, .pan (overV 6), by simp [C112, regsOf, fin, iresult1, ptrV, g0, g1, g3, y3], h, .refl _ _, rfl⟩
  obtain ⟨rfl, y2⟩ := m_object h _ _ _ y1
  rcases y2 with ⟨p', y2, y3, _, y4⟩ | ⟨y2, _⟩
  rotate_left
  · simp at y2
  simp only [Except.ok.injEq] at y2
  subst y2
  obtain ⟨at_, ln⟩ := p
  simp only [ptrV] at y4 y3 hr2
  rcases VM.bind_cases hr2 with ⟨n, σ2, q1, hr3⟩ | ⟨k, q1, rfl⟩
  rotate_left
  · obtain ⟨rfl, x2⟩ := m_number h _ q1
    rcases x2 with ⟨_, x2, _⟩ | ⟨x2, x3⟩
    · simp at x2
    · simp only [Except.error.injEq] at x2
      subst x2
      simp only [ptrV] at x3
      exact ⟨H, A, .pan (overV 6), by simp [C112, regsOf, fin, iresult1, ptrV, g0, g1, g3, g4, g5, y4, ho, x3], h, .refl _ _, rfl⟩
  obtain ⟨rfl, q2⟩ := m_number h _ q1
  rcases q2 with ⟨n', q2, _, _, q3⟩ | ⟨q2, _⟩
  rotate_left
  · simp at q2
  simp only [Except.ok.injEq] at q2
  subst q2
  simp only [ptrV] at q3
  have hidx := c_index (H := H) n
  rcases VM.bind_cases hr3 with ⟨w, σ2, x1, hs2⟩ | ⟨k, x1, rfl⟩
  rotate_left
  · obtain ⟨rfl, x2⟩ := rd_slot h x1
    rcases x2 with ⟨_, _, _, x2, _⟩ | ⟨x2, x3⟩
    · simp at x2
    · simp only [Except.error.injEq] at x2
      subst x2
      simp only [ptrV] at x3
      exact ⟨H, A, .pan (overV 6), by simp [C112, regsOf, fin, iresult1, ptrV, g0, g1, g3, g4, g5, y4, ho, q3, hidx, x3], h, .refl _ _, rfl⟩
  obtain ⟨rfl, x2⟩ := rd_slot h x1
  rcases x2 with ⟨w', b2, o2, x2, x3, x4, x5⟩ | ⟨x2, _⟩
  rotate_left
  · simp at x2
  simp only [Except.ok.injEq] at x2
  subst x2
  simp only [ptrV] at x4
  rcases VM.bind_cases hs2 with ⟨_, σ2, z1, hs3⟩ | ⟨k, z1, _⟩
  rotate_left
  · obtain ⟨_, z2, _⟩ := vGood_cases z1
    simp at z2
  obtain ⟨rfl, _, hg⟩ := vGood_cases z1
  obtain ⟨H1, c1, h1, n1⟩ := m_hset h hg (at_ : Nat) (vIndex n) w x3
  rcases VM.bind_cases hs3 with ⟨ok, σ3, w1, hr4⟩ | ⟨k, w1, _⟩
  rotate_left
  · obtain ⟨w2, _⟩ := VM.get_cases w1
    simp at w2
  obtain ⟨w2, rfl⟩ := VM.get_cases w1
  simp only [Except.ok.injEq] at w2
  rw [VM.bind_ok (vHp_ok _ _)] at hr4
  rw [← w2] at c1
  simp only [HpA.ptr] at c1
  cases ok with
  | true =>
    rw [if_pos rfl] at hr4 c1
    simp only [VM.ret, Option.some.injEq, Prod.mk.injEq] at hr4
    obtain ⟨rfl, rfl⟩ := hr4
    exact ⟨H1, A, .ret (.tuple #[]), by simp [C112, regsOf, fin, iresult1, ptrV, g0, g1, g2, g3, g4, g5, y4, ho, q3, hidx, x4, x5, c1], h1, n1, _, rfl, rfl⟩
  | false =>
    rw [if_neg (by simp)] at hr4 c1
    obtain ⟨H2, A2, e, c2, h2, n2, rv2⟩ := m_throw h1 (wImm 2) (wImm_lt 2) _ _ hr4
    have hi := c_Imm H1 2 (by omega)
    refine ⟨H2, A2, e, ?_, h2, n1.trans n2, rv2⟩
    simp only [ptrV] at c2
    rcases rv2.unit with rfl | ⟨k, rfl⟩ <;> simp [C112, regsOf, fin, iresult1, ptrV, g0, g1, g2, g3, g4, g5, y4, ho, q3, hidx, x4, x5, c1, hi, c2]
end
end Go.Proofs.YtchlbfmjnhgpgaaGreat.Idl
namespace Go.Proofs.YtchlbfmjnhgpgaaGreat.Idl
open Go
set_option maxHeartbeats 8000000
set_option maxRecDepth 100000
set_option linter.unusedSimpArgs false
theorem vSetAll_cases {s : Nat} {l : List Nat} {σ σ' : Mst} {r : Except Int Unit} (h : vSetAll s l σ = some (r, σ')) : r = .ok () ∧ σ' = { σ with hp := σ.hp.setAll s 0 l } ∧ σ.hp.goodAll s 0 l = true := by
  unfold vSetAll at h
  split at h
  · rename_i hg
    simp only [Option.some.injEq, Prod.mk.injEq] at h
    exact ⟨h.1.symm, h.2.symm, hg⟩
  · simp at h
section
variable {lo : Nat} {im : Img}
theorem m_arr {Sw : Swp} (hS : SweepOk lo im Sw) (x : Ins) (hop : x.op = 8) : InsOut lo im 112 x (vArr Sw im x) := by
  intro H A σ b o h hblo hx hxl hne hst r σ' hr
  obtain ⟨cs, pr, vl, vm, vv, g0, g1, g2, g3, g4, g5, g6, g7, g8, g9, g10, g11, g12⟩ := hx.ex
  rw [cal112 _ _ (by simp)]
  rw [hop] at g1
  have ho := h.obj
  have hm1 := c_must (H := H) (ptrV A.p) true
  have hm2 := c_must (H := H) (ptrV A.p) false
  have hkd := c_Kind h.hp x.a
  simp only [VA.cells, ptrV] at ho
  simp only [ptrV] at hm1 hm2
  simp only [HpA.ptr] at hkd
  unfold vArr at hr
  rcases VM.bind_cases hr with ⟨n, σ2, q1, hr3⟩ | ⟨k, q1, rfl⟩
  rotate_left
  · obtain ⟨rfl, x2⟩ := m_number h _ q1
    rcases x2 with ⟨_, x2, _⟩ | ⟨x2, x3⟩
    · simp at x2
    · simp only [Except.error.injEq] at x2
      subst x2
      simp only [ptrV] at x3
      exact ⟨H, A, .pan (overV 6), by simp [C112, regsOf, fin, iresult1, ptrV, g0, g1, g4, x3], h, .refl _ _, rfl⟩
  obtain ⟨rfl, q2⟩ := m_number h _ q1
  rcases q2 with ⟨n', q2, q4, q5, q3⟩ | ⟨q2, _⟩
  rotate_left
  · simp at q2
  simp only [Except.ok.injEq] at q2
  subst q2
  simp only [ptrV] at q3
  rcases VM.bind_cases hr3 with ⟨w, σ2, x1, hs1⟩ | ⟨k, x1, rfl⟩
  rotate_left
  · obtain ⟨rfl, x2⟩ := rd_slot h x1
    rcases x2 with ⟨_, _, _, x2, _⟩ | ⟨x2, x3⟩
    · simp at x2
    · simp only [Except.error.injEq] at x2
      subst x2
      simp only [ptrV] at x3
      exact ⟨H, A, .pan (overV 6), by simp [C112, regsOf, fin, iresult1, ptrV, g0, g1, g4, g5, q3, x3], h, .refl _ _, rfl⟩
  obtain ⟨rfl, x2⟩ := rd_slot h x1
  rcases x2 with ⟨w', b2, o2, x2, x3, x4, x5⟩ | ⟨x2, _⟩
  rotate_left
  · simp at x2
  simp only [Except.ok.injEq] at x2
  subst x2
  simp only [ptrV] at x4
  rcases VM.bind_cases hs1 with ⟨kd, σ3, w1, hr4⟩ | ⟨k, w1, _⟩
  rotate_left
  · obtain ⟨w2, _⟩ := VM.get_cases w1
    simp at w2
  obtain ⟨w2, rfl⟩ := VM.get_cases w1
  simp only [Except.ok.injEq] at w2
  rw [← w2] at hkd
  rcases VM.bind_cases hr4 with ⟨_, σ4, f1, hr5⟩ | ⟨k, f1, rfl⟩
  rotate_left
  · obtain ⟨rfl, f2⟩ := vMust_cases f1
    rcases f2 with ⟨_, f2⟩ | ⟨f2, f3⟩
    · simp at f2
    simp only [Except.error.injEq] at f3
    subst f3
    exact ⟨H, A, .pan (overV 6), by simp [C112, regsOf, fin, iresult1, ptrV, g0, g1, g3, g4, g5, q3, x4, x5, ho, hkd, f2, hm2], h, .refl _ _, rfl⟩
  obtain ⟨rfl, f2⟩ := vMust_cases f1
  rcases f2 with ⟨f2, _⟩ | ⟨_, f2⟩
  rotate_left
  · simp at f2
  have hi := c_Imm H 3 (by omega)
  by_cases hn : n < 0 ∨ 65536 < n
  · rw [if_pos hn] at hr5
    obtain ⟨H1, A1, e, c1, h1, n1, rv1⟩ := m_throw h (wImm 3) (wImm_lt 3) _ _ hr5
    refine ⟨H1, A1, e, ?_, h1, n1, rv1⟩
    simp only [ptrV] at c1
    rcases hn with hn | hn
    · rcases rv1.unit with rfl | ⟨k, rfl⟩ <;> simp [C112, regsOf, fin, iresult1, ptrV, g0, g1, g3, g4, g5, q3, x4, x5, ho, hkd, f2, hm1, hn, hi, c1]
    · have hn0 : ¬ n < 0 := by omega
      rcases rv1.unit with rfl | ⟨k, rfl⟩ <;> simp [C112, regsOf, fin, iresult1, ptrV, g0, g1, g3, g4, g5, q3, x4, x5, ho, hkd, f2, hm1, hn0, hn, hi, c1]
  rw [if_neg hn] at hr5
  have hn1 : ¬ n < 0 := by omega
  have hn2 : ¬ 65536 < n := by omega
  obtain ⟨m, rfl⟩ : ∃ m : Nat, n = m := ⟨n.toNat, by omega⟩
  obtain ⟨Hs, hHs⟩ : ∃ Hs, Hs = H.push (.cells [.int .u64 (w : Int)] 62 false) := ⟨_, rfl⟩
  have fs : Fr H.next H Hs := by rw [hHs]; exact (Fr.refl _ _).push (Nat.le_refl _) _
  have hs := h.fr fs
  have hbs := bs_u64 H (w : Int)
  rw [← hHs] at hbs
  have gs : Hs.get H.next = some (.cells [.int .u64 (w : Int)] 62 false) := by rw [hHs, IH.get_push_same]
  have hu : HeldAt Hs A.own (.slice (some ⟨H.next, 0, none⟩) 1 1) [w] := .inr ⟨H.next, 0, 1, _, rfl, by rw [hHs]; simp, fun hm => by have := (h.own _ hm).2; omega, gs, fun i hi => by
    have : i = 0 := by simpa using hi
    subst this; rfl⟩
  have n0 : Nx H A Hs A := ⟨rfl, Fx.of_fr fs, fun x hx => .inl hx⟩
  obtain ⟨cs', pr', vl', vm', vv', g0', g1', g2', g3', g4', g5', g6', g7', g8', g9', g10', g11', g12'⟩ := (hx.same (n0.same h) hblo).ex
  have hgb : Hs.get b = H.get b := n0.same h b hblo
  rw [hgb, g0] at g0'
  simp only [Option.some.injEq, Blk.cells.injEq, true_and] at g0'
  obtain ⟨rfl, rfl⟩ := g0'
  rw [g9] at g9'
  simp only [Option.some.injEq] at g9'
  subst g9'
  have g0s : Hs.get b = some (.cells cs 30 pr) := hgb.trans g0
  have os := hs.obj
  simp only [VA.cells, ptrV] at os
  obtain ⟨va, vc, hvv, _⟩ := id g12
  rcases VM.bind_cases hr5 with ⟨p, σ5, k1, hr6⟩ | ⟨k, k1, rfl⟩
  rotate_left
  · obtain ⟨H2, A2, e2, c2, h2, n2, rv2⟩ := m_make hS hs x.a (m : Int) (by omega) g12' (by have := hxl.live; omega) hu (by simpa using x3) (by simp) ⟨hst.2.1, hst.2.2⟩ _ _ k1
    have rv2 : e2 = .pan (overV k) := rv2
    subst rv2
    simp only [ptrV, hvv] at c2
    rw [hvv] at g9
    exact ⟨H2, A2, .pan (overV k), by simp [C112, regsOf, fin, iresult1, ptrV, g0, g1, g2, g3, g4, g5, g9, q3, x4, x5, ho, hkd, f2, hm1, hn1, hn2, iparts, hbs, g0s, c2], h2, n0.trans n2, rfl⟩
  obtain ⟨H2, A2, e2, c2, h2, n2, rv2⟩ := m_make hS hs x.a (m : Int) (by omega) g12' (by have := hxl.live; omega) hu (by simpa using x3) (by simp) ⟨hst.2.1, hst.2.2⟩ _ _ k1
  obtain ⟨at_, held⟩ := p
  obtain ⟨u2, rfl, u3, rfl, ⟨hh1, hh2, hh3⟩, hat⟩ := rv2
  simp only at hh1 hh2 hh3 hat hr6
  have nx2 := n0.trans n2
  have p2 : A2.p = A.p := nx2.p
  rcases VM.bind_cases hr6 with ⟨w2, σ6, j1, hr7⟩ | ⟨k, j1, _⟩
  rotate_left
  · obtain ⟨_, _, j2, _⟩ := VM.of_cases j1
    simp at j2
  obtain ⟨w2', j2, j3, rfl⟩ := VM.of_cases j1
  simp only [Except.ok.injEq] at j3
  subst j3
  rcases VM.bind_cases hr7 with ⟨_, σ7, l1, hr8⟩ | ⟨k, l1, _⟩
  rotate_left
  · obtain ⟨l2, _⟩ := vSetAll_cases l1
    simp at l2
  obtain ⟨_, rfl, l3⟩ := vSetAll_cases l1
  obtain ⟨ua, un, uc, rfl⟩ := hh1.val
  simp only [ptrV, hvv] at c2
  rw [hvv] at g9
  simp [C112, regsOf, ptrV, g0, g1, g2, g3, g4, g5, g9, q3, x4, x5, ho, hkd, f2, hm1, hn1, hn2, iparts, hbs, g0s, c2]
  generalize hX : run J okAll (.loop L112_1) _ _ = X
  obtain ⟨T1, hT, a0, a1, a10, a11, a170, a171⟩ : ∃ T1, run J okAll (.loop L112_1) T1 H2 = X ∧ T1.at 0 = ptrV A.p ∧ T1.at 1 = .pointer (some ⟨b, o, none⟩) ∧ T1.at 10 = .int .i64 (at_ : Int) ∧ T1.at 11 = .slice ua un uc ∧ T1.at 170 = .int .i64 (m : Int) ∧ T1.at 171 = .int .i64 ((0 : Nat) : Int) := ⟨_, hX, by simp [ptrV], by simp, by simp, by simp, by simp, by simp⟩
  obtain ⟨T2, H3, r1, h3, n3, k3⟩ := loop112b (lo := lo) (im := im) (A := A2) at_ m (.slice ua un uc) held w2 (hh2 _ (List.mem_of_getElem? j2)) (by omega) j2 (fun t => T1.at t) (by rw [p2]; exact a0) a10 a11 m 0 T1 H2 _ (by omega) h2 hh1 (by simpa using l3) (fun _ _ => rfl) a170 a171
  have r1 := hT.symm.trans r1
  subst r1
  have b0 := (k3 0 (by omega)).trans a0
  have b1 := (k3 1 (by omega)).trans a1
  have b10 := (k3 10 (by omega)).trans a10
  have nx3 := nx2.trans n3
  have g03 : H3.get b = some (.cells cs 30 pr) := (nx3.same h b hblo).trans g0
  have hpt := c_Ptr H3 at_ (by omega)
  have h3' : VmAt H3 lo im A2 { σ6 with hp := σ6.hp.setAll at_ 0 (List.replicate ((m : Int)).toNat w2) } := by simpa using h3
  obtain ⟨H4, A4, e4, c4, h4, n4, rv4⟩ := m_set h3' x.d (wPtr at_) (by unfold wPtr; omega) _ _ hr8
  refine ⟨H4, A4, e4, ?_, h4, nx3.trans n4, rv4⟩
  simp only [ptrV] at b0
  simp only [ptrV, p2] at c4
  rcases rv4.unit with rfl | ⟨k, rfl⟩ <;> simp [regsOf, fin, iresult1, b0, b1, b10, g03, g2, hpt, c4]
end
end Go.Proofs.YtchlbfmjnhgpgaaGreat.Idl
namespace Go.Proofs.YtchlbfmjnhgpgaaGreat.Idl
open Go
set_option maxHeartbeats 8000000
set_option maxRecDepth 100000
set_option linter.unusedSimpArgs false
section
variable {lo : Nat} {im : Img}
theorem Hp.kindI_nonneg {h : Hp} {s : Int} (e : h.kindI s = 1) : 0 ≤ s := by
  unfold Hp.kindI at e
  split at e
  · rename_i h1; exact h1.1
  · simp at e
theorem WsAt.held {H1 : IH} {n0 : Nat} {own : List Nat} {u : Value} {ws : List Nat} (h : WsAt H1 n0 u ws) (ho : ∀ x ∈ own, x < n0) : HeldAt H1 own u ws := by
  rcases h with h | ⟨b, h1, h2, h3, h4⟩
  · exact .inl h
  · exact .inr ⟨b, 0, capU, _, h3, h2, fun hm => by have := ho b hm; omega, h4, fun i hi => by rw [Nat.zero_add]; exact u64c_get ws i hi⟩
theorem m_new {Sw : Swp} (hS : SweepOk lo im Sw) (x : Ins) (hop : x.op = 5) : InsOut lo im 112 x (vNew Sw im x) := by
  intro H A σ b o h hblo hx hxl hne hst r σ' hr
  obtain ⟨cs, pr, vl, vm, vv, g0, g1, g2, g3, g4, g5, g6, g7, g8, g9, g10, g11, g12⟩ := hx.ex
  rw [cal112 _ _ (by simp)]
  rw [hop] at g1
  have ho := h.obj
  obtain ⟨hmp, iu, ipr, hgi, hiv⟩ := h.img
  obtain ⟨sa, sc, hsv, _⟩ := id hiv.shapes
  have hm1 := c_must (H := H) (ptrV A.p) true
  have hm2 := c_must (H := H) (ptrV A.p) false
  have hkd := c_Kind h.hp x.a
  simp only [VA.cells, ptrV] at ho
  simp only [ImV.cells, hsv] at hgi
  simp only [ptrV] at hm1 hm2
  simp only [HpA.ptr] at hkd
  obtain ⟨la, lc, hlv, _⟩ := id g10
  obtain ⟨va, vc, hvv, _⟩ := id g12
  have g7' := g7
  have g9' := g9
  rw [hlv] at g7'
  rw [hvv] at g9'
  unfold vNew at hr
  rcases VM.bind_cases hr with ⟨kd, σ3, w1, hr2⟩ | ⟨k, w1, _⟩
  rotate_left
  · obtain ⟨w2, _⟩ := VM.get_cases w1
    simp at w2
  obtain ⟨w2, rfl⟩ := VM.get_cases w1
  simp only [Except.ok.injEq] at w2
  have hkk := w2
  rw [← w2] at hkd
  by_cases hk : kd = 1
  rotate_left
  · rw [if_neg hk] at hr2
    have hkD : decide (kd = 1) = false := decide_eq_false hk
    simp only [vEnd, Option.some.injEq, Prod.mk.injEq] at hr2
    obtain ⟨rfl, rfl⟩ := hr2
    exact ⟨H, A, .pan (overV 6), by simp [C112, regsOf, fin, iresult1, ptrV, g0, g1, g3, ho, hkd, hk, hkD, hm2], h, .refl _ _, rfl⟩
  rw [if_pos hk] at hr2
  rw [hk] at hkk
  have ha0 := Hp.kindI_nonneg hkk.symm
  subst hk
  rcases VM.bind_cases hr2 with ⟨s, σ4, w1, hr3⟩ | ⟨k, w1, _⟩
  rotate_left
  · obtain ⟨_, _, w3, _⟩ := VM.of_cases w1
    simp at w3
  obtain ⟨s', w2s, w3, rfl⟩ := VM.of_cases w1
  simp only [Except.ok.injEq] at w3
  subst w3
  obtain ⟨sb, so, scc, e1, e2, e3, e4⟩ := hiv.shapes.get w2s
  rw [hsv] at e1
  simp only [Value.slice.injEq] at e1
  obtain ⟨rfl, _, rfl⟩ := e1
  obtain ⟨scs, spr, vf, j1, j2, j3, j4, j5⟩ := e4.ex
  obtain ⟨fa, fc, hfv, _⟩ := id j5
  rw [hfv] at j3
  have hlt : x.a < im.shapes.length := (Int.toNat_lt ha0).1 e3
  have hmx : (if (0 : Int) < x.a then x.a else 0) = x.a := by split <;> omega
  rcases VM.bind_cases hr3 with ⟨_, σ5, f1, hr4⟩ | ⟨k, f1, rfl⟩
  rotate_left
  · obtain ⟨rfl, f2⟩ := vMust_cases f1
    rcases f2 with ⟨_, f2⟩ | ⟨f2, f3⟩
    · simp at f2
    simp only [Except.error.injEq] at f3
    subst f3
    have f4' : ¬ x.l.length = s.fields.length := of_decide_eq_false f2
    have f4 : decide ((x.l.length : Int) = (s.fields.length : Int)) = false := decide_eq_false (by omega)
    exact ⟨H, A, .pan (overV 6), by simp [C112, regsOf, fin, iresult1, ptrV, g0, g1, g3, g7', ho, hkd, hgi, maxV_int, hmx, iindexAddr, ha0, hlt, e3, j1, j3, f4, hm2], h, .refl _ _, rfl⟩
  obtain ⟨rfl, f2⟩ := vMust_cases f1
  rcases f2 with ⟨f2, _⟩ | ⟨_, f2⟩
  rotate_left
  · simp at f2
  have f4' : x.l.length = s.fields.length := of_decide_eq_true f2
  have f4 : decide ((x.l.length : Int) = (s.fields.length : Int)) = true := decide_eq_true (by omega)
  have hl24 := hxl.l
  rcases VM.bind_cases hr4 with ⟨ws, σ5, y1, hr5⟩ | ⟨k, y1, rfl⟩
  rotate_left
  · obtain ⟨rfl, H1, h1, y2⟩ := m_read h g10 (by omega) y1
    rcases y2 with ⟨_, _, y2, _⟩ | ⟨y2, y3⟩
    · simp at y2
    simp only [Except.error.injEq] at y2
    subst y2
    have n1 : Nx H A H1 A := ⟨rfl, Fx.of_fr h1, fun x hx => .inl hx⟩
    have g01 : H1.get b = some (.cells cs 30 pr) := (n1.same h b hblo).trans g0
    simp only [ptrV, hlv] at y3
    exact ⟨H1, A, .pan (overV 6), by simp [C112, regsOf, fin, iresult1, ptrV, g0, g1, g3, g7', g9', ho, hkd, hgi, maxV_int, hmx, iindexAddr, ha0, hlt, e3, j1, j3, f4, hm1, g01, y3], h.fr h1, n1, rfl⟩
  obtain ⟨rfl, H1, fr1, y2⟩ := m_read h g10 (by omega) y1
  rcases y2 with ⟨ws', u, y2, y3, y4, y5⟩ | ⟨y2, _⟩
  rotate_left
  · simp at y2
  simp only [Except.ok.injEq] at y2
  subst y2
  have h1 := h.fr fr1
  have n1 : Nx H A H1 A := ⟨rfl, Fx.of_fr fr1, fun x hx => .inl hx⟩
  have g01 : H1.get b = some (.cells cs 30 pr) := (n1.same h b hblo).trans g0
  have hu := y4.held (fun x hx => (h.own x hx).2)
  have hwl : ws.length = x.l.length := (vRead_same y1).2.2 _ rfl
  have hlen2 : ws.length ≤ 1000 := by
    have := h.imok.fields s (List.mem_of_getElem? w2s)
    omega
  have l1 : IntsAt H1 lo vv x.live := g12.same (fun z hz => n1.same h z hz)
  obtain ⟨ua, un, uc, hus⟩ := hu.val
  simp only [ptrV, hlv, hus] at y3
  rcases VM.bind_cases hr5 with ⟨p, σ6, k1, hr6⟩ | ⟨k, k1, rfl⟩
  rotate_left
  · obtain ⟨H2, A2, e2, c2, h2, n2, rv2⟩ := m_make hS h1 x.a (x.l.length : Int) (by omega) l1 (by have := hxl.live; omega) hu y5 hlen2 ⟨hst.2.1, hst.2.2⟩ _ _ k1
    have rv2 : e2 = .pan (overV k) := rv2
    subst rv2
    simp only [ptrV, hvv, hus] at c2
    exact ⟨H2, A2, .pan (overV k), by simp [C112, regsOf, fin, iresult1, ptrV, g0, g1, g3, g7', g9', ho, hkd, hgi, maxV_int, hmx, iindexAddr, ha0, hlt, e3, j1, j3, f4, hm1, g01, y3, c2], h2, n1.trans n2, rfl⟩
  obtain ⟨H2, A2, e2', c2, h2, n2, rv2⟩ := m_make hS h1 x.a (x.l.length : Int) (by omega) l1 (by have := hxl.live; omega) hu y5 hlen2 ⟨hst.2.1, hst.2.2⟩ _ _ k1
  obtain ⟨at_, held⟩ := p
  obtain ⟨u2, rfl, u3, rfl, ⟨hh1, hh2, hh3⟩, hat⟩ := rv2
  simp only at hh1 hh2 hh3 hat hr6
  have nx2 := n1.trans n2
  have p2 : A2.p = A.p := nx2.p
  rcases VM.bind_cases hr6 with ⟨_, σ7, l1, hr8⟩ | ⟨k, l1, _⟩
  rotate_left
  · obtain ⟨l2, _⟩ := vSetAll_cases l1
    simp at l2
  obtain ⟨_, rfl, l3⟩ := vSetAll_cases l1
  obtain ⟨va2, vn2, vc2, hu3⟩ : ∃ a n c, u3 = .slice a n c := hh1.val
  have hn2 : vn2 = held.length := by
    rcases hh1 with ⟨e, e'⟩ | ⟨b', o', c', cs', e, _⟩
    · rw [hu3] at e; simp only [Value.slice.injEq] at e; rw [e', e.2.1]; rfl
    · rw [hu3] at e; simp only [Value.slice.injEq] at e; exact e.2.1
  subst hn2
  subst hu3
  simp only [ptrV, hvv, hus] at c2
  simp [C112, regsOf, ptrV, g0, g1, g3, g7', g9', ho, hkd, hgi, maxV_int, hmx, iindexAddr, ha0, hlt, e3, j1, j3, f4, hm1, g01, y3, c2]
  generalize hX : run J okAll (.loop L112_0) _ _ = X
  obtain ⟨T1, hT, a0, a1, a4, a93, a94, a95⟩ : ∃ T1, run J okAll (.loop L112_0) T1 H2 = X ∧ T1.at 0 = ptrV A.p ∧ T1.at 1 = .pointer (some ⟨b, o, none⟩) ∧ T1.at 4 = .int .i64 (at_ : Int) ∧ T1.at 93 = .slice va2 held.length vc2 ∧ T1.at 94 = .int .i64 (held.length : Int) ∧ T1.at 95 = .int .i64 ((0 : Nat) : Int) := ⟨_, hX, by simp [ptrV], by simp, by simp, by simp, by simp, by simp⟩
  obtain ⟨T2, H3, r1, h3, n3, k3⟩ := loop112a (lo := lo) (im := im) (A := A2) at_ (.slice va2 held.length vc2) held hh2 (by omega) (fun t => T1.at t) (by rw [p2]; exact a0) a4 held 0 T1 H2 _ rfl (by omega) h2 hh1 l3 (fun _ _ => rfl) a93 a94 a95
  have r1 := hT.symm.trans r1
  subst r1
  have b0 := (k3 0 (by omega)).trans a0
  have b1 := (k3 1 (by omega)).trans a1
  have b4 := (k3 4 (by omega)).trans a4
  have nx3 := nx2.trans n3
  have g03 : H3.get b = some (.cells cs 30 pr) := (nx3.same h b hblo).trans g0
  have hpt := c_Ptr H3 at_ (by omega)
  obtain ⟨H4, A4, e4', c4, h4, n4, rv4⟩ := m_set h3 x.d (wPtr at_) (by unfold wPtr; omega) _ _ hr8
  refine ⟨H4, A4, e4', ?_, h4, nx3.trans n4, rv4⟩
  simp only [ptrV] at b0
  simp only [ptrV, p2] at c4
  rcases rv4.unit with rfl | ⟨k, rfl⟩ <;> simp [regsOf, fin, iresult1, b0, b1, b4, g03, g2, hpt, c4]
theorem m_fields {Sw : Swp} (hS : SweepOk lo im Sw) (x : Ins) : InsOut lo im 112 x (vFields Sw im x) := by
  unfold vFields
  by_cases k5 : x.op = 5
  · rw [if_pos k5]; exact m_new hS x k5
  rw [if_neg k5]
  by_cases k8 : x.op = 8
  · rw [if_pos k8]; exact m_arr hS x k8
  rw [if_neg k8]
  by_cases k6 : x.op = 6
  · rw [if_pos k6]; exact m_field x k6
  rw [if_neg k6]
  by_cases k7 : x.op = 7
  · rw [if_pos k7]; exact m_store x k7
  rw [if_neg k7]
  by_cases k9 : x.op = 9
  · rw [if_pos k9]; exact m_at x k9
  rw [if_neg k9]
  by_cases k10 : x.op = 10
  · rw [if_pos k10]; exact m_put x k10
  rw [if_neg k10]
  intro H A σ b o h hblo hx hxl hne hst r σ' hr
  obtain ⟨cs, pr, vl, vm, vv, g0, g1, _⟩ := hx.ex
  rw [cal112 _ _ (by simp)]
  have he := c_end (H := H) (ptrV A.p) 6
  simp only [ptrV] at he
  simp only [vEnd, Option.some.injEq, Prod.mk.injEq] at hr
  obtain ⟨rfl, rfl⟩ := hr
  exact ⟨H, A, .pan (overV 6), by simp [C112, regsOf, fin, iresult1, ptrV, g0, g1, k5, k8, k6, k7, k9, k10, he], h, .refl _ _, rfl⟩
def vLen (x : Ins) : VM Unit := do
  let o ← vObject x.a 2 3
  vSetInt x.d (o.2 : Nat)
theorem m_len (x : Ins) (hop : x.op = 11) : InsOut lo im 110 x (vLen x) := by
  intro H A σ b o h hblo hx hxl hne hst r σ' hr
  obtain ⟨cs, pr, vl, vm, vv, g0, g1, g2, g3, g4, g5, g6, g7, g8, g9, g10, g11, g12⟩ := hx.ex
  rw [cal110 _ _ (by simp)]
  rw [hop] at g1
  have ho := h.obj
  simp only [VA.cells, ptrV] at ho
  unfold vLen at hr
  rcases VM.bind_cases hr with ⟨p, σ1, y1, hr2⟩ | ⟨k, y1, rfl⟩
  rotate_left
  · obtain ⟨rfl, y2⟩ := m_object h _ _ _ y1
    rcases y2 with ⟨_, y2, _⟩ | ⟨y2, y3⟩
    · simp at y2
    · simp only [Except.error.injEq] at y2
      subst y2
      simp only [ptrV] at y3
      exact ⟨H, A, .pan (overV 6), by simp [C110, regsOf, fin, iresult1, ptrV, g0, g1, g3, y3], h, .refl _ _, rfl⟩
  obtain ⟨rfl, y2⟩ := m_object h _ _ _ y1
  rcases y2 with ⟨p', y2, _, y3, y4⟩ | ⟨y2, _⟩
  rotate_left
  · simp at y2
  simp only [Except.ok.injEq] at y2
  subst y2
  obtain ⟨at_, ln⟩ := p
  simp only [ptrV] at y4 y3 hr2
  obtain ⟨H1, A1, e, c1, h1, n1, rv1⟩ := m_setInt h x.d (ln : Nat) (by omega) _ _ hr2
  have hw : IntKind.i64.wrap (ln : Int) = (ln : Int) := by rw [wrapI]; omega
  refine ⟨H1, A1, e, ?_, h1, n1, rv1⟩
  simp only [ptrV] at c1
  rcases rv1.unit with rfl | ⟨k, rfl⟩ <;> simp [C110, regsOf, fin, iresult1, ptrV, g0, g1, g2, g3, y4, hw, c1]
end
end Go.Proofs.YtchlbfmjnhgpgaaGreat.Idl
namespace Go.Proofs.YtchlbfmjnhgpgaaGreat.Idl
open Go
set_option maxHeartbeats 8000000
set_option maxRecDepth 100000
set_option linter.unusedSimpArgs false
def arrI : Ins := ⟨8, 2, 1, 0, 1, 0, [], [], [0]⟩
def arrCode (n x y i : Int) : List Ins := [ins 1 0 0 0 0 n, ins 1 1 0 0 0 x, arrI, ins 11 1 2 0 0 0, ins 16 0 1 0 0 0, ins 1 1 0 0 0 y, ins 1 0 0 0 0 i, ins 9 3 2 0 0 0, ins 16 0 3 0 0 0, ins 10 0 2 0 1 0, ins 9 3 2 0 0 0, ins 16 0 3 0 0 0]
def arrR (im : Img) : Rest := ⟨fun _ _ => VM.fail, fun x => if x.op = 11 then vLen x else VM.fail, vFields (fun _ => VM.fail) im, fun _ => VM.fail⟩
theorem arrR_ok (lo : Nat) (im : Img) : RestOk lo im (arrR im) := by
  refine ⟨fun x => ?_, fun x => ?_, fun x => m_fields (SweepOk.none lo im) x, fun x => ?_⟩
  · intro H A σ b o s _ _ _ _ _ _ _ r σ' hr; simp [arrR, VM.fail] at hr
  · show InsOut lo im _ x (if x.op = 11 then vLen x else VM.fail)
    by_cases h : x.op = 11
    · rw [if_pos h]; exact m_len x h
    · rw [if_neg h]; intro H A σ b o _ _ _ _ _ _ r σ' hr; simp [VM.fail] at hr
  · intro H A σ b o _ _ _ _ _ _ r σ' hr; simp [arrR, VM.fail] at hr
def arrIm (n x y i : Int) : Img := mainIm 4 [] (arrCode n x y i)
def arrS : Scr := ⟨[], 100, 100, 20, []⟩
theorem arr_begin (n x y i : Int) : beginOk (arrIm n x y i) = true := by kernel_rfl
section
variable {n x y i : Int}
theorem arr_size (hn : -4611686018427387904 ≤ n ∧ n ≤ 4611686018427387903) (hb : n < 0 ∨ 65536 < n) :
    endIs (runOut (arrR (arrIm n x y i)) (arrIm n x y i) arrS) (fun e σ => decide (e = 2) && decide (σ.exn = nSize) && decide (σ.out = [])) = true := by
  have i1 := wInt_imm n hn
  have hk : ∀ (l : List (Int × Int)), l = [(3, 0), (2, 0)] → (Hp.new 100 l).kindI 1 = 2 := fun l h => by rw [h]; rfl
  have hk := hk _ rfl
  have hp0 : wInt (wImm 3) = 3 := rfl
  unfold runOut
  rw [arr_begin]
  simp [arrIm, arrS, arrR, vFields, vArr, mainIm, arrCode, arrI, ins, Shp.ly, vCall, vbind, VM.bind, vMust, VM.ret, VM.of, VM.get, VM.upd, Img.start, Fn.frame, vRunN, vStep, vTop, Frm.code, vInstr, vSetInt, vSet, vSlot, vPrim, vNumber, vGet, vLast, vPop, vEnd, wIsImm_imm, i1, hk, hb, hp0, endIs, vThrow, vThrowN, nameF]
theorem arr_need (m : Nat) (hm : m ≤ 60) : (Hp.new 100 [(3, 0), (2, 0)]).need 1 (m : Int) = (1 + (m : Int), 0) := by
  unfold Hp.need
  rw [if_pos ⟨by omega, by decide, by omega⟩]
  rw [show ((1 : Int).toNat) = 1 from rfl, show (Hp.new 100 [(3, 0), (2, 0)]).kind 1 = 2 from rfl, if_neg (by simp), if_neg (by omega), if_neg (by simp)]
theorem arr_all (m : Nat) (hm : m ≤ 60) (hx : -4611686018427387904 ≤ x ∧ x ≤ 4611686018427387903) (hy : -4611686018427387904 ≤ y ∧ y ≤ 4611686018427387903) (hi : -4611686018427387904 ≤ i ∧ i ≤ 4611686018427387903) :
    ((0 ≤ i ∧ i < m) → ∃ σ, runOut (arrR (arrIm m x y i)) (arrIm m x y i) arrS = some (1, σ) ∧ σ.out = [m % 256, (x % 256).toNat, (y % 256).toNat]) ∧
    ((i < 0 ∨ (m : Int) ≤ i) → ∃ σ, runOut (arrR (arrIm m x y i)) (arrIm m x y i) arrS = some (2, σ) ∧ σ.exn = nSub ∧ σ.out = [m % 256]) := by
  have i0 := wInt_imm (m : Int) (by omega)
  have i1 := wInt_imm x hx
  have i2 := wInt_imm y hy
  have i3 := wInt_imm i hi
  have hk : (Hp.new 100 [(3, 0), (2, 0)]).kindI 1 = 2 := rfl
  have hneed := arr_need m hm
  have hroom : (Hp.new 100 [(3, 0), (2, 0)]).room = 100 := rfl
  have htop : (Hp.new 100 [(3, 0), (2, 0)]).top = 0 := rfl
  have A0 := arr_put m hm
  have he : arrHp0 = Hp.new 100 [(3, 0), (2, 0)] := rfl
  rw [he] at A0
  obtain ⟨h1, hh1⟩ : ∃ h1, (Hp.new 100 [(3, 0), (2, 0)]).put 1 m = h1 := ⟨_, rfl⟩
  rw [hh1] at A0
  obtain ⟨ga, h2, hh2, l2, A2, hl2⟩ := ArrHp.all (wImm x) (wIsImm_imm x) m 0 A0 (by omega) (fun j _ hj => by omega)
  have s2 := A2.shapeOf
  have n2 := A2.lenOf
  have k2 := A2.kind
  have g2 := A2.good
  have hwp : wIsImm (wPtr 0) = false := rfl
  have hwa : wAt (wPtr 0) = 0 := rfl
  have hp0 : wInt (wImm 2) = 2 := rfl
  have hz : wInt (wImm 0) = 0 := rfl
  have hfull : ¬ (100 : Int) < 1 + (m : Int) := by omega
  have hm0 : ¬ (m : Int) < 0 := by omega
  have hm6 : ¬ (65536 : Int) < (m : Int) := by omega
  have hmm : ((m : Int) % 256).toNat = m % 256 := by omega
  have hll := A2.len
  refine ⟨fun hb => ?_, fun hb => ?_⟩
  · obtain ⟨j, rfl⟩ : ∃ j : Nat, i = j := ⟨i.toNat, by omega⟩
    have hj : j < m := by omega
    have hv : vIndex (j : Int) = (j : Int) := by unfold vIndex; rw [if_neg (by omega)]
    have q1 := A2.get j (by omega)
    rw [hl2 j (by omega)] at q1
    have q2 := A2.setE j hj (wImm y) (wIsImm_imm y)
    have A3 := A2.set j hj (wImm y) (wIsImm_imm y)
    obtain ⟨h3, hh3⟩ : ∃ h3, h2.set ((0 : Nat) : Int) (j : Int) (wImm y) = h3 := ⟨_, rfl⟩
    rw [hh3] at A3
    have s3 := A3.shapeOf
    have n3 := A3.lenOf
    have k3 := A3.kind
    have g3 := A3.good
    have q3 := A3.get j (by rw [List.length_set]; omega)
    rw [List.getElem_set_self] at q3
    simp only [Int.cast_ofNat_Int, Int.natCast_zero] at q1 q2 q3 hh3
    unfold runOut
    rw [arr_begin]
    simp [arrIm, arrS, arrR, vFields, vArr, vAtI, vPut, vLen, vObject, vMake, vSetAll, vGood, vHp, vKeep, vKeepGo, mainIm, arrCode, arrI, ins, Shp.ly, vCall, vbind, VM.bind, vMust, VM.ret, VM.of, VM.get, VM.upd, Img.start, Fn.frame, vRunN, vStep, vTop, Frm.code, vInstr, vSetInt, vSet, vSlot, vPrim, vNumber, vGet, vLast, vPop, vEnd, wIsImm_imm, i0, i1, i2, i3, hk, hneed, hroom, htop, hh1, ga, hh2, s2, n2, k2, g2, hwp, hwa, hz, hfull, hm0, hm6, hmm, hv, q1, q2, hh3, s3, n3, k3, g3, q3, endIs]
  · have q1 := A2.get_bad (vIndex i) (by unfold vIndex; split <;> omega)
    simp only [Int.cast_ofNat_Int, Int.natCast_zero] at q1
    unfold runOut
    rw [arr_begin]
    simp [arrIm, arrS, arrR, vFields, vArr, vAtI, vPut, vLen, vObject, vMake, vSetAll, vGood, vHp, vKeep, vKeepGo, mainIm, arrCode, arrI, ins, Shp.ly, vCall, vbind, VM.bind, vMust, VM.ret, VM.of, VM.get, VM.upd, Img.start, Fn.frame, vRunN, vStep, vTop, Frm.code, vInstr, vSetInt, vSet, vSlot, vPrim, vNumber, vGet, vLast, vPop, vEnd, wIsImm_imm, i0, i1, i2, i3, hk, hneed, hroom, htop, hh1, ga, hh2, s2, n2, k2, g2, hwp, hwa, hp0, hfull, hm0, hm6, hmm, q1, endIs, vThrow, vThrowN, nameF]
end
end Go.Proofs.YtchlbfmjnhgpgaaGreat.Idl
namespace Go.Proofs.YtchlbfmjnhgpgaaGreat.Idl
open Go
set_option maxHeartbeats 8000000
set_option maxRecDepth 100000
set_option linter.unusedSimpArgs false
def arrC (a : Nat) : List Value := [.int .i64 8, .int .i64 2, .int .i64 1, .int .i64 0, .int .i64 1, .int .i64 0, .slice none 0 0, .slice none 0 0, .slice (some ⟨a, 0, none⟩) 1 1]
theorem ba015 (op d n : Int) : ibuild J 30 [(0, .int .i64 op), (1, .int .i64 d), (5, .int .i64 n)] = some (.agg (insC (ins op d 0 0 0 n)).toArray) := by kernel_rfl
theorem ba012 (op d a : Int) : ibuild J 30 [(0, .int .i64 op), (1, .int .i64 d), (2, .int .i64 a)] = some (.agg (insC (ins op d a 0 0 0)).toArray) := by kernel_rfl
theorem ba02 (op a : Int) : ibuild J 30 [(0, .int .i64 op), (2, .int .i64 a)] = some (.agg (insC (ins op 0 a 0 0 0)).toArray) := by kernel_rfl
theorem ba024 (op a c : Int) : ibuild J 30 [(0, .int .i64 op), (2, .int .i64 a), (4, .int .i64 c)] = some (.agg (insC (ins op 0 a 0 c 0)).toArray) := by kernel_rfl
theorem ba8 (a : Nat) : ibuild J 30 [(0, .int .i64 8), (1, .int .i64 2), (2, .int .i64 1), (4, .int .i64 1), (8, .slice (some ⟨a, 0, none⟩) 1 1)] = some (.agg (arrC a).toArray) := by kernel_rfl
theorem bas12 (H : IH) (a : Nat) (x0 x1 x3 x4 x5 x6 x7 x8 x9 x10 x11 : Ins) : ibuildSlice J 54 12 [(0, .agg (insC x0).toArray), (1, .agg (insC x1).toArray), (2, .agg (arrC a).toArray), (3, .agg (insC x3).toArray), (4, .agg (insC x4).toArray), (5, .agg (insC x5).toArray), (6, .agg (insC x6).toArray), (7, .agg (insC x7).toArray), (8, .agg (insC x8).toArray), (9, .agg (insC x9).toArray), (10, .agg (insC x10).toArray), (11, .agg (insC x11).toArray)] H =
    some (.slice (some ⟨H.next, 0, none⟩) 12 12, H.push (.cells (insC x0 ++ (insC x1 ++ (arrC a ++ (insC x3 ++ (insC x4 ++ (insC x5 ++ (insC x6 ++ (insC x7 ++ (insC x8 ++ (insC x9 ++ (insC x10 ++ insC x11))))))))))) 30 false)) := by kernel_rfl
theorem bascr (f h s : Int) : ibuild J 37 [(1, .int .i64 f), (2, .int .i64 h), (3, .int .i64 s)] = some (.agg #[.slice none 0 0, .int .i64 f, .int .i64 h, .int .i64 s, .slice none 0 0]) := by kernel_rfl
theorem bab1 (H : IH) (x : Int) : ibuildSlice J 34 1 [(0, .int .u8 x)] H = some (.slice (some ⟨H.next, 0, none⟩) 1 1, H.push (.cells [.int .u8 x] 5 false)) := by kernel_rfl
theorem bab3 (H : IH) (x y z : Int) : ibuildSlice J 34 3 [(0, .int .u8 x), (1, .int .u8 y), (2, .int .u8 z)] H = some (.slice (some ⟨H.next, 0, none⟩) 3 3, H.push (.cells [.int .u8 x, .int .u8 y, .int .u8 z] 5 false)) := by kernel_rfl
theorem conv_lit {H : IH} {b n c : Nat} {l : List Nat} {pr : Bool} (hg : H.get b = some (.cells (l.map byteV) 5 pr)) (hn : l.length = n) : iconvert J 34 9 (.slice (some ⟨b, 0, none⟩) n c) H = some (.string (outB l), H) := by
  have he : (l.map byteV).take n = (l.map fun (n : Nat) => (n : Int)).map (Value.int .u8) := by
    rw [List.map_map, List.take_of_length_le (by simp [hn])]; rfl
  have hm : bytesOfCells ((l.map byteV).take n) = some ((l.map fun (n : Nat) => (n : Int)).map fun n => UInt8.ofNat n.toNat) := by
    rw [he]; exact bytesOf_ints _
  have hl : n ≤ (l.map byteV).length := by simp [hn]
  unfold outB strOf
  generalize (l.map fun (n : Nat) => (n : Int)).map (fun n => UInt8.ofNat n.toNat) = r at hm ⊢
  generalize l.map byteV = cs at hg hm hl
  simp [iconvert, hg, hl, hm]
section
variable {H : IH}
theorem arr_at {F : IH} {lo b o a : Nat} {cs : List Value} {pr : Bool} (hg : F.get b = some (.cells cs 30 pr)) (h : ∀ j, j < 9 → cs[o + j]? = (arrC a)[j]?) (ha : a < lo) (hga : F.get a = some (.cells [.int .i64 0] 3 false)) : InsAt F lo b o arrI :=
  ⟨cs, pr, _, _, _, hg, by simpa [arrC, arrI] using h 0 (by omega), by simpa [arrC, arrI] using h 1 (by omega), by simpa [arrC, arrI] using h 2 (by omega), by simpa [arrC, arrI] using h 3 (by omega), by simpa [arrC, arrI] using h 4 (by omega), by simpa [arrC, arrI] using h 5 (by omega),
    by simpa [arrC, arrI] using h 6 (by omega), by simpa [arrC, arrI] using h 7 (by omega), by simpa [arrC, arrI] using h 8 (by omega), LAt.nil, LAt.nil, LAt.mk rfl ha fun i hi => by
      match i, hi with
      | 0, _ => exact CellAt.one hga rfl⟩
theorem nine' {P : Nat → Prop} (h0 : P 0) (h1 : P 1) (h2 : P 2) (h3 : P 3) (h4 : P 4) (h5 : P 5) (h6 : P 6) (h7 : P 7) (h8 : P 8) : ∀ j, j < 9 → P j := by
  intro j hj
  match j, hj with
  | 0, _ => exact h0
  | 1, _ => exact h1
  | 2, _ => exact h2
  | 3, _ => exact h3
  | 4, _ => exact h4
  | 5, _ => exact h5
  | 6, _ => exact h6
  | 7, _ => exact h7
  | 8, _ => exact h8
def arrCells (n x y i : Int) (a : Nat) : List Value := insC (ins 1 0 0 0 0 n) ++ (insC (ins 1 1 0 0 0 x) ++ (arrC a ++ (insC (ins 11 1 2 0 0 0) ++ (insC (ins 16 0 1 0 0 0) ++ (insC (ins 1 1 0 0 0 y) ++ (insC (ins 1 0 0 0 0 i) ++ (insC (ins 9 3 2 0 0 0) ++ (insC (ins 16 0 3 0 0 0) ++ (insC (ins 10 0 2 0 1 0) ++ (insC (ins 9 3 2 0 0 0) ++ insC (ins 16 0 3 0 0 0)))))))))))
theorem arr_ins {n x y i : Int} {a : Nat} (ha : a < H.next) (hga : H.get a = some (.cells [.int .i64 0] 3 false)) (F : IH) (b : Nat) (cs' : List Value) (hs : SameB H.next H F) (hg : F.get b = some (.cells (arrCells n x y i a ++ cs') 30 false)) :
    ∀ k (h : k < (arrCode n x y i).length), InsAt F H.next b (k * 9) (arrCode n x y i)[k] := by
  intro k hk
  match k, hk with
  | 0, _ => exact InsAt.plain hg (nine' rfl rfl rfl rfl rfl rfl rfl rfl rfl) rfl rfl rfl
  | 1, _ => exact InsAt.plain hg (nine' rfl rfl rfl rfl rfl rfl rfl rfl rfl) rfl rfl rfl
  | 2, _ => exact arr_at hg (nine' rfl rfl rfl rfl rfl rfl rfl rfl rfl) ha ((hs a ha).trans hga)
  | 3, _ => exact InsAt.plain hg (nine' rfl rfl rfl rfl rfl rfl rfl rfl rfl) rfl rfl rfl
  | 4, _ => exact InsAt.plain hg (nine' rfl rfl rfl rfl rfl rfl rfl rfl rfl) rfl rfl rfl
  | 5, _ => exact InsAt.plain hg (nine' rfl rfl rfl rfl rfl rfl rfl rfl rfl) rfl rfl rfl
  | 6, _ => exact InsAt.plain hg (nine' rfl rfl rfl rfl rfl rfl rfl rfl rfl) rfl rfl rfl
  | 7, _ => exact InsAt.plain hg (nine' rfl rfl rfl rfl rfl rfl rfl rfl rfl) rfl rfl rfl
  | 8, _ => exact InsAt.plain hg (nine' rfl rfl rfl rfl rfl rfl rfl rfl rfl) rfl rfl rfl
  | 9, _ => exact InsAt.plain hg (nine' rfl rfl rfl rfl rfl rfl rfl rfl rfl) rfl rfl rfl
  | 10, _ => exact InsAt.plain hg (nine' rfl rfl rfl rfl rfl rfl rfl rfl rfl) rfl rfl rfl
  | 11, _ => exact InsAt.plain hg (nine' rfl rfl rfl rfl rfl rfl rfl rfl rfl) rfl rfl rfl
theorem arr_sm (n x y i : Int) (hn : -4611686018427387904 ≤ n ∧ n ≤ 4611686018427387903) (hx : -4611686018427387904 ≤ x ∧ x ≤ 4611686018427387903) (hy : -4611686018427387904 ≤ y ∧ y ≤ 4611686018427387903) (hi : -4611686018427387904 ≤ i ∧ i ≤ 4611686018427387903) : ImSm (arrIm n x y i) := by
  refine ⟨fun f hf y hy' => ?_, fun f hf y' hy' z hz => ?_⟩
  · simp only [arrIm, mainIm, List.mem_singleton] at hf
    subst hf
    simp only [List.mem_singleton] at hy'
    subst hy'
    simp [arrCode]
  · simp only [arrIm, mainIm, List.mem_singleton] at hf
    subst hf
    simp only [List.mem_singleton] at hy'
    subst hy'
    simp only [arrCode, List.cons_append, List.nil_append, List.mem_cons, List.not_mem_nil, or_false] at hz
    rcases hz with rfl | rfl | rfl | rfl | rfl | rfl | rfl | rfl | rfl | rfl | rfl | rfl | rfl | rfl <;> simp only [ins, arrI] <;> omega
theorem run_arr {n x y i : Int} (hn : -4611686018427387904 ≤ n ∧ n ≤ 4611686018427387903) (hx : -4611686018427387904 ≤ x ∧ x ≤ 4611686018427387903) (hy : -4611686018427387904 ≤ y ∧ y ≤ 4611686018427387903) (hi : -4611686018427387904 ≤ i ∧ i ≤ 4611686018427387903)
    {a cb : Nat} (ha : a < H.next) (hga : H.get a = some (.cells [.int .i64 0] 3 false)) (hcb : cb < H.next) (hg : H.get cb = some (.cells (arrCells n x y i a) 30 false)) {k : Int} {σ : Mst} (hr : runOut (arrR (arrIm n x y i)) (arrIm n x y i) arrS = some (k, σ)) :
    ∃ (H1 E Q : IH) (a1 a2 a3 a4 a5 : Option Addr) (c1 c2 c3 c4 c5 m1 m2 m3 m4 m5 : Nat) (oa : Option Addr) (on oc : Nat),
      cal J okAll 29 #[.int .i64 4, .slice none 0 0, .slice (some ⟨cb, 0, none⟩) 12 12] H = some (.ret (.agg #[.slice a1 m1 c1, .slice a2 m2 c2, .slice a3 m3 c3, .slice a4 m4 c4, .slice a5 m5 c5, .int .i64 0, .int .i64 0]), H1) ∧
      cal J okAll 19 #[.agg #[.slice a1 m1 c1, .slice a2 m2 c2, .slice a3 m3 c3, .slice a4 m4 c4, .slice a5 m5 c5, .int .i64 0, .int .i64 0], .agg #[.slice none 0 0, .int .i64 100, .int .i64 100, .int .i64 20, .slice none 0 0]] H1 = some (.ret (.agg #[.int .i64 k, .slice oa on oc, .string σ.exn, .int .i64 (σ.steps : Int), .int .i64 (σ.swept : Int)]), E) ∧
      Q = (E.push (.cells [.int .i64 0, .slice none 0 0, .string ⟨#[]⟩, .int .i64 0, .int .i64 0] 44 false)).set E.next (.cells [.int .i64 k, .slice oa on oc, .string σ.exn, .int .i64 (σ.steps : Int), .int .i64 (σ.swept : Int)] 44 false) ∧
      Q.get E.next = some (.cells [.int .i64 k, .slice oa on oc, .string σ.exn, .int .i64 (σ.steps : Int), .int .i64 (σ.swept : Int)] 44 false) ∧
      on = σ.out.length ∧ Q.next = E.next + 1 ∧ (∀ Q' : IH, Fr Q.next Q Q' → iconvert J 34 9 (.slice oa on oc) Q' = some (.string (outB σ.out), Q')) ∧ (∀ Q' : IH, ∃ L, cal J okAll 18 #[] Q' = some (.ret (.bool true), L)) := by
  obtain ⟨H1, u, e1, f1, v1⟩ := c_main1g (H := H) (slots := 4) (texts := []) (code := arrCode n x y i) (cs := arrCells n x y i a) (ta := none) (tc := 0) (cb := cb) (cc := 12) (by omega) LAt.nil hcb hg (by simp [arrCells, arrCode, insC, arrC]) (fun F b cs' hs hg' => arr_ins ha hga F b cs' hs hg') (by simp [arrCode]) (by simp [arrCode])
  obtain ⟨E, oa, on, oc, r1, fE, hon, hcv⟩ := run_im (R := arrR (arrIm n x y i)) (im := arrIm n x y i) (fun lo => arrR_ok lo _) v1 (arr_sm n x y i hn hx hy hi) (Fr.refl _ _) (cv := (none, 0, 0)) (cl := []) LAt.nil (f := 100) (h := 100) (st := 20) (by omega) (by omega) (by omega) hr
  obtain ⟨a1, c1, q1, _⟩ := id v1.types
  obtain ⟨a2, c2, q2, _⟩ := id v1.shapes
  obtain ⟨a3, c3, q3, _⟩ := id v1.strings
  obtain ⟨a4, c4, q4, _⟩ := id v1.names
  obtain ⟨a5, c5, q5, _⟩ := id v1.funcs
  obtain ⟨Q, hQ⟩ : ∃ Q, Q = (E.push (.cells [.int .i64 0, .slice none 0 0, .string ⟨#[]⟩, .int .i64 0, .int .i64 0] 44 false)).set E.next (.cells [.int .i64 k, .slice oa on oc, .string σ.exn, .int .i64 (σ.steps : Int), .int .i64 (σ.swept : Int)] 44 false) := ⟨_, rfl⟩
  have fQ : Fr E.next E Q := by rw [hQ]; exact ((Fr.refl _ _).push (Nat.le_refl _) _).set (Nat.le_refl _) _
  have nQ : Q.next = E.next + 1 := by rw [hQ]; simp
  simp only [ImV.val, ImV.cells, arrIm, q1, q2, q3, q4, q5, arrCode, List.length_cons, List.length_nil, Nat.zero_add, Nat.reduceAdd] at e1 r1
  exact ⟨H1, E, Q, a1, a2, a3, a4, a5, c1, c2, c3, c4, c5, _, _, _, _, _, oa, on, oc, e1, r1, hQ, by rw [hQ, IH.get_set, if_pos rfl], hon, nQ, fun Q' f => hcv Q' (fQ.trans (f.of_le (by omega))), fun Q' => by obtain ⟨L, hl, _⟩ := c_lives (H := Q'); exact ⟨L, hl⟩⟩
theorem c_VmArrays (n0 i0 v0 v1 : Int) : ∃ H', cal J okAll 12 #[.int .i64 n0, .int .i64 i0, .agg #[.int .i64 v0, .int .i64 v1]] H = some (.ret (.bool true), H') := by
  rw [cal12 _ _ (by simp)]
  obtain ⟨B, hB⟩ : ∃ B, B = H.push (.cells [.int .i64 v0, .int .i64 v1] 69 false) := ⟨_, rfl⟩
  have nB : B.next = H.next + 1 := by rw [hB]; simp
  have gB : B.get H.next = some (.cells [.int .i64 v0, .int .i64 v1] 69 false) := by rw [hB, IH.get_push_same]
  have cw0 := c_Wrap B n0
  have cw1 := c_Wrap B i0
  have cw2 := c_Wrap B v0
  have cw3 := c_Wrap B v1
  have hN := wWrap_range n0
  have hI := wWrap_range i0
  have hX := wWrap_range v0
  have hY := wWrap_range v1
  generalize wWrap n0 = N at *
  generalize wWrap i0 = I at *
  generalize wWrap v0 = X at *
  generalize wWrap v1 = Y at *
  -- how long the array is to be
  have hM : ∃ M : Int, (-4611686018427387904 ≤ M ∧ M ≤ 4611686018427387903) ∧ ((M < 0 ∨ 65536 < M) ∨ (0 ≤ M ∧ M ≤ 60)) ∧ ((¬ 60 < N ∧ M = N) ∨ (60 < N ∧ ¬ N ≤ 65536 ∧ M = N) ∨ (60 < N ∧ N ≤ 65536 ∧ N.tmod 61 = M)) := by
    by_cases h1 : 60 < N
    · by_cases h2 : N ≤ 65536
      · refine ⟨N.tmod 61, ?_, ?_, .inr (.inr ⟨h1, h2, rfl⟩)⟩ <;> rw [Int.tmod_eq_emod_of_nonneg (by omega)] <;> omega
      · exact ⟨N, hN, .inl (.inr (by omega)), .inr (.inl ⟨h1, h2, rfl⟩)⟩
    · exact ⟨N, hN, by omega, .inl ⟨h1, rfl⟩⟩
  obtain ⟨M, hMr, hMc, hMN⟩ := hM
  obtain ⟨B1, hB1⟩ : ∃ B1, B1 = B.push (.cells [.int .i64 0] 3 false) := ⟨_, rfl⟩
  have nB1 : B1.next = H.next + 2 := by rw [hB1]; simp [nB]
  obtain ⟨B2, hB2⟩ : ∃ B2, B2 = B1.push (.cells (arrCells M X Y I (H.next + 1)) 30 false) := ⟨_, rfl⟩
  have nB2 : B2.next = H.next + 3 := by rw [hB2]; simp [nB1]
  have ga : B2.get (H.next + 1) = some (.cells [.int .i64 0] 3 false) := by rw [hB2, IH.get_push_other _ _ _ (by omega), hB1, ← nB, IH.get_push_same]
  have gc : B2.get (H.next + 2) = some (.cells (arrCells M X Y I (H.next + 1)) 30 false) := by rw [hB2, ← nB1, IH.get_push_same]
  unfold arrCells at hB2
  have key : ∃ k σ, runOut (arrR (arrIm M X Y I)) (arrIm M X Y I) arrS = some (k, σ) ∧
      (((M < 0 ∨ 65536 < M) ∧ k = 2 ∧ σ.exn = nSize ∧ σ.out = []) ∨ (∃ m : Nat, M = m ∧ m ≤ 60 ∧ (((0 ≤ I ∧ I < m) ∧ k = 1 ∧ σ.out = [m % 256, (X % 256).toNat, (Y % 256).toNat]) ∨ ((I < 0 ∨ (m : Int) ≤ I) ∧ k = 2 ∧ σ.exn = nSub ∧ σ.out = [m % 256])))) := by
    rcases hMc with h | h
    · obtain ⟨k, σ, h1, h2⟩ := endIs_ok (arr_size (x := X) (y := Y) (i := I) hMr h)
      simp only [Bool.and_eq_true, decide_eq_true_eq] at h2
      exact ⟨k, σ, h1, .inl ⟨h, h2.1.1, h2.1.2, h2.2⟩⟩
    · obtain ⟨m, rfl⟩ : ∃ m : Nat, M = m := ⟨M.toNat, by omega⟩
      obtain ⟨q1, q2⟩ := arr_all (x := X) (y := Y) (i := I) m (by omega) hX hY hI
      by_cases hb : 0 ≤ I ∧ I < m
      · obtain ⟨σ, h1, h2⟩ := q1 hb
        exact ⟨1, σ, h1, .inr ⟨m, rfl, by omega, .inl ⟨hb, rfl, h2⟩⟩⟩
      · obtain ⟨σ, h1, h2, h3⟩ := q2 (by omega)
        exact ⟨2, σ, h1, .inr ⟨m, rfl, by omega, .inr ⟨by omega, rfl, h2, h3⟩⟩⟩
  obtain ⟨k, σ, hr, hk⟩ := key
  obtain ⟨H1, E, Q, a1, a2, a3, a4, a5, c1, c2, c3, c4, c5, m1, m2, m3, m4, m5, oa, on, oc, r1, r2, hQ, gQ, hon, nQ, hcv, hl⟩ := run_arr hMr hX hY hI (by omega) ga (by omega) gc hr
  have vq := hcv Q (Fr.refl _ _)
  obtain ⟨L, hlQ⟩ := hl Q
  have u0 : IntKind.u8.wrap M = M % 256 := by unfold IntKind.wrap; simp [IntKind.bits, IntKind.signed]
  have u1 : IntKind.u8.wrap X = X % 256 := by unfold IntKind.wrap; simp [IntKind.bits, IntKind.signed]
  have u2 : IntKind.u8.wrap Y = Y % 256 := by unfold IntKind.wrap; simp [IntKind.bits, IntKind.signed]
  rcases hk with ⟨hb, rfl, x1, x2⟩ | ⟨m, rfl, hm60, ⟨hb, rfl, x2⟩ | ⟨hb, rfl, x1, x2⟩⟩
  · rw [x2] at hon
    rw [x1] at r2 hQ gQ
    simp only [List.length_nil] at hon
    subst hon
    simp only [nSize] at r2 hQ gQ
    rcases hb with hb | hb
    · skip
      rcases hMN with ⟨z1, rfl⟩ | ⟨z1, z2, rfl⟩ | ⟨z1, z2, z3⟩
      · simp (maxSteps := 1000000) [C12, regsOf, fin, iresult1, inew, Value.cells, ← hB, gB, nB, iindexAddr, cw0, cw1, cw2, cw3, iparts, ba015, ba012, ba02, ba024, bi05, bsi1, ← hB1, ba8, nB1, bas12, ← hB2, nB2, r1, bascr, r2, istore, plain1, overlay, IH.get_push, IH.get_set, ← hQ, gQ, nQ, vq, loadT_agg, z1, hb, hlQ]
      · simp (maxSteps := 1000000) [C12, regsOf, fin, iresult1, inew, Value.cells, ← hB, gB, nB, iindexAddr, cw0, cw1, cw2, cw3, iparts, ba015, ba012, ba02, ba024, bi05, bsi1, ← hB1, ba8, nB1, bas12, ← hB2, nB2, r1, bascr, r2, istore, plain1, overlay, IH.get_push, IH.get_set, ← hQ, gQ, nQ, vq, loadT_agg, z1, z2, hb, hlQ]
      · simp (maxSteps := 1000000) [C12, regsOf, fin, iresult1, inew, Value.cells, ← hB, gB, nB, iindexAddr, cw0, cw1, cw2, cw3, iparts, ba015, ba012, ba02, ba024, bi05, bsi1, ← hB1, ba8, nB1, bas12, ← hB2, nB2, r1, bascr, r2, istore, plain1, overlay, IH.get_push, IH.get_set, ← hQ, gQ, nQ, vq, loadT_agg, z1, z2, z3, hb, hlQ]
    · have hb0 : ¬ M < 0 := by omega
      rcases hMN with ⟨z1, rfl⟩ | ⟨z1, z2, rfl⟩ | ⟨z1, z2, z3⟩
      · simp (maxSteps := 1000000) [C12, regsOf, fin, iresult1, inew, Value.cells, ← hB, gB, nB, iindexAddr, cw0, cw1, cw2, cw3, iparts, ba015, ba012, ba02, ba024, bi05, bsi1, ← hB1, ba8, nB1, bas12, ← hB2, nB2, r1, bascr, r2, istore, plain1, overlay, IH.get_push, IH.get_set, ← hQ, gQ, nQ, vq, loadT_agg, z1, hb, hb0, hlQ]
      · simp (maxSteps := 1000000) [C12, regsOf, fin, iresult1, inew, Value.cells, ← hB, gB, nB, iindexAddr, cw0, cw1, cw2, cw3, iparts, ba015, ba012, ba02, ba024, bi05, bsi1, ← hB1, ba8, nB1, bas12, ← hB2, nB2, r1, bascr, r2, istore, plain1, overlay, IH.get_push, IH.get_set, ← hQ, gQ, nQ, vq, loadT_agg, z1, z2, hb, hb0, hlQ]
      · simp (maxSteps := 1000000) [C12, regsOf, fin, iresult1, inew, Value.cells, ← hB, gB, nB, iindexAddr, cw0, cw1, cw2, cw3, iparts, ba015, ba012, ba02, ba024, bi05, bsi1, ← hB1, ba8, nB1, bas12, ← hB2, nB2, r1, bascr, r2, istore, plain1, overlay, IH.get_push, IH.get_set, ← hQ, gQ, nQ, vq, loadT_agg, z1, z2, z3, hb, hb0, hlQ]
  · rw [x2] at vq
    have hm0 : ¬ (m : Int) < 0 := by omega
    have hm6 : ¬ (65536 : Int) < (m : Int) := by omega
    have hi0 : ¬ I < 0 := by omega
    have him : ¬ (m : Int) ≤ I := by omega
    obtain ⟨Q3, hQ3⟩ : ∃ Q3, Q3 = Q.push (.cells [.int .u8 ((m : Int) % 256), .int .u8 (X % 256), .int .u8 (Y % 256)] 5 false) := ⟨_, rfl⟩
    have g3 : Q3.get Q.next = some (.cells ([m % 256, (X % 256).toNat, (Y % 256).toNat].map byteV) 5 false) := by
      rw [hQ3, IH.get_push_same]
      have e1 : ((X % 256).toNat : Int) = X % 256 := by omega
      have e2 : ((Y % 256).toNat : Int) = Y % 256 := by omega
      simp [byteV, e1, e2]
    have vw := conv_lit (n := 3) (c := 3) g3 rfl
    obtain ⟨L3, hl3⟩ := hl Q3
    rw [nQ] at vw
    generalize outB [m % 256, (X % 256).toNat, (Y % 256).toNat] = W at *
    rcases hMN with ⟨z1, z4⟩ | ⟨z1, z2, z4⟩ | ⟨z1, z2, z3⟩
    · subst z4; simp (maxSteps := 1000000) [C12, regsOf, fin, iresult1, inew, Value.cells, ← hB, gB, nB, iindexAddr, cw0, cw1, cw2, cw3, iparts, ba015, ba012, ba02, ba024, bi05, bsi1, ← hB1, ba8, nB1, bas12, ← hB2, nB2, r1, bascr, r2, istore, plain1, overlay, IH.get_push, IH.get_set, ← hQ, gQ, nQ, vq, loadT_agg, z1, hm0, hm6, hi0, him, u0, u1, u2, bab3, ← hQ3, vw, hl3]
    · subst z4; simp (maxSteps := 1000000) [C12, regsOf, fin, iresult1, inew, Value.cells, ← hB, gB, nB, iindexAddr, cw0, cw1, cw2, cw3, iparts, ba015, ba012, ba02, ba024, bi05, bsi1, ← hB1, ba8, nB1, bas12, ← hB2, nB2, r1, bascr, r2, istore, plain1, overlay, IH.get_push, IH.get_set, ← hQ, gQ, nQ, vq, loadT_agg, z1, z2, hm0, hm6, hi0, him, u0, u1, u2, bab3, ← hQ3, vw, hl3]
    · simp (maxSteps := 1000000) [C12, regsOf, fin, iresult1, inew, Value.cells, ← hB, gB, nB, iindexAddr, cw0, cw1, cw2, cw3, iparts, ba015, ba012, ba02, ba024, bi05, bsi1, ← hB1, ba8, nB1, bas12, ← hB2, nB2, r1, bascr, r2, istore, plain1, overlay, IH.get_push, IH.get_set, ← hQ, gQ, nQ, vq, loadT_agg, z1, z2, z3, hm0, hm6, hi0, him, u0, u1, u2, bab3, ← hQ3, vw, hl3]
  · rw [x2] at vq
    rw [x1] at r2 hQ gQ
    simp only [nSub] at r2 hQ gQ
    have hm0 : ¬ (m : Int) < 0 := by omega
    have hm6 : ¬ (65536 : Int) < (m : Int) := by omega
    obtain ⟨Q3, hQ3⟩ : ∃ Q3, Q3 = Q.push (.cells [.int .u8 ((m : Int) % 256)] 5 false) := ⟨_, rfl⟩
    have g3 : Q3.get Q.next = some (.cells ([m % 256].map byteV) 5 false) := by
      rw [hQ3, IH.get_push_same]
      simp [byteV]
    have vw := conv_lit (n := 1) (c := 1) g3 rfl
    obtain ⟨L3, hl3⟩ := hl Q3
    rw [nQ] at vw
    generalize outB [m % 256] = W at *
    by_cases hi0 : I < 0
    · skip
      rcases hMN with ⟨z1, z4⟩ | ⟨z1, z2, z4⟩ | ⟨z1, z2, z3⟩
      · subst z4; simp (maxSteps := 1000000) [C12, regsOf, fin, iresult1, inew, Value.cells, ← hB, gB, nB, iindexAddr, cw0, cw1, cw2, cw3, iparts, ba015, ba012, ba02, ba024, bi05, bsi1, ← hB1, ba8, nB1, bas12, ← hB2, nB2, r1, bascr, r2, istore, plain1, overlay, IH.get_push, IH.get_set, ← hQ, gQ, nQ, vq, loadT_agg, z1, hm0, hm6, hi0, u0, bab1, ← hQ3, vw, hl3]
      · subst z4; simp (maxSteps := 1000000) [C12, regsOf, fin, iresult1, inew, Value.cells, ← hB, gB, nB, iindexAddr, cw0, cw1, cw2, cw3, iparts, ba015, ba012, ba02, ba024, bi05, bsi1, ← hB1, ba8, nB1, bas12, ← hB2, nB2, r1, bascr, r2, istore, plain1, overlay, IH.get_push, IH.get_set, ← hQ, gQ, nQ, vq, loadT_agg, z1, z2, hm0, hm6, hi0, u0, bab1, ← hQ3, vw, hl3]
      · simp (maxSteps := 1000000) [C12, regsOf, fin, iresult1, inew, Value.cells, ← hB, gB, nB, iindexAddr, cw0, cw1, cw2, cw3, iparts, ba015, ba012, ba02, ba024, bi05, bsi1, ← hB1, ba8, nB1, bas12, ← hB2, nB2, r1, bascr, r2, istore, plain1, overlay, IH.get_push, IH.get_set, ← hQ, gQ, nQ, vq, loadT_agg, z1, z2, z3, hm0, hm6, hi0, u0, bab1, ← hQ3, vw, hl3]
    · have him : (m : Int) ≤ I := by omega
      rcases hMN with ⟨z1, z4⟩ | ⟨z1, z2, z4⟩ | ⟨z1, z2, z3⟩
      · subst z4; simp (maxSteps := 1000000) [C12, regsOf, fin, iresult1, inew, Value.cells, ← hB, gB, nB, iindexAddr, cw0, cw1, cw2, cw3, iparts, ba015, ba012, ba02, ba024, bi05, bsi1, ← hB1, ba8, nB1, bas12, ← hB2, nB2, r1, bascr, r2, istore, plain1, overlay, IH.get_push, IH.get_set, ← hQ, gQ, nQ, vq, loadT_agg, z1, hm0, hm6, hi0, him, u0, bab1, ← hQ3, vw, hl3]
      · subst z4; simp (maxSteps := 1000000) [C12, regsOf, fin, iresult1, inew, Value.cells, ← hB, gB, nB, iindexAddr, cw0, cw1, cw2, cw3, iparts, ba015, ba012, ba02, ba024, bi05, bsi1, ← hB1, ba8, nB1, bas12, ← hB2, nB2, r1, bascr, r2, istore, plain1, overlay, IH.get_push, IH.get_set, ← hQ, gQ, nQ, vq, loadT_agg, z1, z2, hm0, hm6, hi0, him, u0, bab1, ← hQ3, vw, hl3]
      · simp (maxSteps := 1000000) [C12, regsOf, fin, iresult1, inew, Value.cells, ← hB, gB, nB, iindexAddr, cw0, cw1, cw2, cw3, iparts, ba015, ba012, ba02, ba024, bi05, bsi1, ← hB1, ba8, nB1, bas12, ← hB2, nB2, r1, bascr, r2, istore, plain1, overlay, IH.get_push, IH.get_set, ← hQ, gQ, nQ, vq, loadT_agg, z1, z2, z3, hm0, hm6, hi0, him, u0, bab1, ← hQ3, vw, hl3]
end
end Go.Proofs.YtchlbfmjnhgpgaaGreat.Idl
namespace Go.Proofs.YtchlbfmjnhgpgaaGreat
open Go.ChangeShapes Go.WideShapes Go.ChangeAt Go.RowKit
set_option maxRecDepth 100000
theorem own : ownKnob Tryz.prog.godebug = .none := by kernel_rfl
theorem und4 : Tryz.prog.underlying 4 = some .bool := by kernel_rfl
theorem laidOut : laidOutB Tryz.prog = true := by kernel_rfl
namespace Idl
noncomputable def Hst : IH := ⟨Tryz.prog.globals.size, .leaf⟩
theorem start (W : World) : Sim J (Bd.at W.heap.size) (fun b => ⟨b, 0, 0, 0⟩) Hst W := by
  have hg : ∀ b, Hst.get b = none := fun b => rfl
  refine ⟨⟨Nat.le_refl _, fun x hx => by cases hx⟩, fun g h => ⟨h, rfl, rfl⟩, fun b x h => ?_, fun b cs e pr h => ?_, fun b cs e h => ?_, fun b es pr h => ?_, fun b s p h => ?_, fun _ _ => trivial, fun b b' x x' h => ?_, fun b x h => ?_⟩ <;> (rw [hg] at h; cases h)
theorem keptBut_of_below {w w' : World} (h : Go.RowKit.Below w.heap.size w w') (may : MemPlace → Prop) : w.keptBut w' may := by
  have hr := World.keptBut_refl w may
  refine ⟨h.os, h.output, fun i hi => ?_⟩
  rw [h.block i hi]
  exact hr.2.2 i hi
end Idl
end Go.Proofs.YtchlbfmjnhgpgaaGreat
namespace Go.Proofs.YtchlbfmjnhgpgaaGreat
open Go.ChangeShapes Go.WideShapes Go.ChangeAt Go.RowKit
set_option maxRecDepth 100000
theorem func12 : Tryz.prog.funcs[12]? = some Tryz.f12 := by kernel_rfl
theorem params12 : Tryz.f12.params = #[2, 2, 69] := by kernel_rfl
theorem readable12 : ([2, 2, 69].all fun t => Tryz.prog.readableRec t && decide (t < Tryz.prog.types.size)) = true := by kernel_rfl
namespace Idl
theorem law12 {K : Type} (H : IH) (vs : List Value) (ds : List (DataW K)) (h : DatAll J H [2, 2, 69] vs ds) : ∃ H', cal J okAll 12 vs.toArray H = some (.ret (.bool true), H') := by
  obtain ⟨v0, d0, v1, d1, v2, d2, rfl, rfl, h0, h1, h2⟩ := h.three
  obtain ⟨a0, rfl, -, -⟩ := h0.int (k := .i64) (by simp)
  obtain ⟨a1, rfl, -, -⟩ := h1.int (k := .i64) (by simp)
  obtain ⟨cs, rfl, h3⟩ := h2.array (e := 2) (m := 2) (by simp)
  obtain ⟨ds, rfl, hl, hd, hx⟩ := h3.arrayI (e := 2) (m := 2) (n := 1) (by simp) (by simp)
  obtain ⟨w0, w1, rfl⟩ : ∃ w0 w1, cs = [w0, w1] := by
    rcases cs with _ | ⟨w0, _ | ⟨w1, _ | ⟨_, _⟩⟩⟩ <;> simp at hl
    exact ⟨_, _, rfl⟩
  obtain ⟨e0, e1, rfl⟩ : ∃ e0 e1, ds = [e0, e1] := by
    rcases ds with _ | ⟨e0, _ | ⟨e1, _ | ⟨_, _⟩⟩⟩ <;> simp at hd
    exact ⟨_, _, rfl⟩
  obtain ⟨n0, y0, _⟩ := (hx 0 e0 rfl).intI (k := .i64) (by simp)
  obtain ⟨n1, y1, _⟩ := (hx 1 e1 rfl).intI (k := .i64) (by simp)
  simp at y0 y1
  subst y0 y1
  exact c_VmArrays a0 a1 n0 n1
end Idl
theorem lifted12 (os : Os) (started : os.Started) (H : Type) (enc : TypeId × Value → H) :
    ReturnsInHanded {} Tryz.checked os 12 .any (Rows.vmArraysSpec.pre6 enc Tryz.prog Tryz.f12 [] false) (Rows.vmArraysSpec.post enc Tryz.prog Tryz.f12 false true false false) := by
  refine returnsInHanded_of_change (C := Tryz.checked) own started (by kernel_rfl) func12
    (ChangeSpec.witness6 (enc := enc) (C := Tryz.checked) false ⟨#[], #[.int .i64 0, .int .i64 0, .agg #[.int .i64 0, .int .i64 0]], []⟩ 8 (by kernel_rfl) (by kernel_rfl) (by kernel_rfl) (by kernel_rfl)) ?_
  intro W base args ds gs before hval0 hW hcnd _
  have hval : ∀ (j : Nat) t v, Tryz.f12.params[j]? = some t → args[j]? = some v → Value.okWide Tryz.prog W .any base t v := hval0
  have hW' := hW
  have hlt := hW.lt
  obtain ⟨p, q, hA0, hV, rfl, _, _⟩ := hW
  have hA : DataW.TrodAll enc Tryz.prog W 0 (fun _ => true) true Tryz.f12.params.toList args.toList ds p := hA0
  rw [params12] at hA hval
  obtain ⟨d0, d1, d2, rfl⟩ := Idl.trod_ds3 hA
  obtain ⟨rfl, rfl⟩ := trodVars_none hV
  rw [List.append_nil] at hlt
  simp only [List.append_nil] at hW'
  refine (Idl.law_gen (J := Idl.J) Idl.sound (Idl.start W) (k := 12) (ts := [2, 2, 69]) (by kernel_rfl) (r := .any) (base := base) (args := args) (fun j t v h1 h2 => hval j t v (by simpa using h1) (by simpa using h2)) hA fun H vs hk hd => Idl.law12 H vs _ hd).mono fun e W' ⟨he, hB⟩ => ?_
  subst he
  refine ⟨_, rfl, _, _, _, [], p, [], hW', ?_, ?_, ?_, Idl.keptBut_of_below hB _, fun h => by cases h⟩
  · exact trodAll_mk1 (shut_bool und4 true)
  · refine Idl.stay_args laidOut hB (fun t ht => ?_) hA0 hlt
    rw [params12] at ht
    have := List.all_eq_true.1 readable12 t (by simpa using ht)
    simpa using this
  · rfl
theorem vmArrays_holds : Rows.VmArraysSaid :=
  OpenClaim.holds_of_wide 12 Tryz.f12 rfl rfl rfl rfl rfl rfl rfl ⟨rfl, rfl, rfl, rfl, rfl⟩ rfl rfl rfl rfl rfl (by kernel_rfl) func12 (by kernel_rfl)
    (of_decide_eq_true (by kernel_rfl)) (by unfold Func.isWrapper; first | (rw [if_pos (by decide +kernel)]; kernel_rfl) | (rw [if_neg (by decide +kernel)]; exact ⟨rfl, rfl⟩))
    (fun os started H enc _ => lifted12 os started H enc)
#print axioms vmArrays_holds
end Go.Proofs.YtchlbfmjnhgpgaaGreat
