/- The ideal machine: a region whose order is drawn, run in the order of the text (4): every order comes to the same. -/
import Derived.Test.YtchlbfmjnhgpgaaGreatPack0
import Derived.Recover
import Derived.Scope
import Derived.Laws.StructEq
import Derived.ChangeArms
import Derived.OpenShut
import Derived.DataReads
import Derived.Carry
import Derived.WideShapes
import Derived.ChangeShapes
namespace Go.Proofs.YtchlbfmjnhgpgaaGreat.Idl
open Go Go.RowKit

section
variable {J : Env} {B : Bd} {ops : Array Oper}
def Closed (ops : Array Oper) (listed : Array Bool) : Prop := ∀ (i : Nat) (o : Oper), listed[i]? = some true → ops[i]? = some o → ∀ e ∈ o.after, Region.binds .any e = true → listed[e.on]? = some true
theorem closed_waits (hR : ROk J ops) {listed : Array Bool} (hC : Closed ops listed) : ∀ (i : Nat) (o : Oper), ops[i]? = some o → (∀ e ∈ o.after, Region.binds .any e = true → listed[e.on]? = some true) →
    ∀ j, waitsFor (waits ops) i j = true → listed[j]? = some true ∧ j < i := by
  intro i
  induction i using Nat.strongRecOn with
  | _ i ih =>
    intro o ho hp j hj
    obtain ⟨o', ho', e, he, hb, hc⟩ := hR.bit i j hj
    rw [ho] at ho'
    cases ho'
    have hlt := hR.back i o ho e he hb
    have hl := hp e he hb
    rcases hc with rfl | hc
    · exact ⟨hl, hlt⟩
    · obtain ⟨o2, ho2, _⟩ := hR.bit e.on j hc
      obtain ⟨h1, h2⟩ := ih e.on hlt o2 ho2 (hC e.on o2 hl ho2) j hc
      exact ⟨h1, by omega⟩
theorem ready_mem {listed : Array Bool} {i : Nat} (h : i ∈ Region.ready .any ops listed) : ∃ o, ops[i]? = some o ∧ listed.getD i true = false ∧ ∀ e ∈ o.after, Region.binds .any e = true → listed.getD e.on false = true := by
  unfold Region.ready at h
  simp only [List.mem_filter, List.mem_range, Bool.and_eq_true, Bool.not_eq_true'] at h
  obtain ⟨h0, h1, h2⟩ := h
  refine ⟨ops[i], Array.getElem?_eq_getElem h0, h1, fun e he hb => ?_⟩
  rw [Array.getElem?_eq_getElem h0] at h2
  simp only [Option.map_some, Option.getD_some] at h2
  have := Array.all_eq_true'.1 h2 e he
  simp only [hb, Bool.not_true, Bool.false_or] at this
  exact this
theorem ready_none {listed : Array Bool} (hR : ROk J ops) (hsz : listed.size = ops.size) (h : Region.ready .any ops listed = []) : ∀ i, i < ops.size → listed[i]? = some true := by
  intro i
  induction i using Nat.strongRecOn with
  | _ i ih =>
    intro hi
    have hli : i < listed.size := by omega
    by_cases hb : listed[i] = true
    · rw [Array.getElem?_eq_getElem hli, hb]
    · exfalso
      have hmem : i ∈ Region.ready .any ops listed := by
        unfold Region.ready
        simp only [List.mem_filter, List.mem_range, Bool.and_eq_true, Bool.not_eq_true']
        refine ⟨hi, by simp [hli]; simpa using hb, ?_⟩
        rw [Array.getElem?_eq_getElem hi]
        simp only [Option.map_some, Option.getD_some]
        rw [Array.all_eq_true']
        intro e he
        cases hbd : Region.binds .any e with
        | false => rfl
        | true =>
          have hlt := hR.back i ops[i] (Array.getElem?_eq_getElem hi) e he hbd
          have := ih e.on hlt (by omega)
          simp [this]
      rw [h] at hmem
      simp at hmem
def unlisted (n : Nat) (listed : Array Bool) : Nat := ((List.range n).filter fun i => !(listed.getD i true)).length
theorem unlisted_set {n : Nat} {listed : Array Bool} {i : Nat} (hi : i < n) (hl : listed.getD i true = false) : unlisted n (listed.setIfInBounds i true) < unlisted n listed := by
  have hsz : i < listed.size := by
    rcases Nat.lt_or_ge i listed.size with h | h
    · exact h
    · simp [h] at hl
  unfold unlisted
  induction n with
  | zero => omega
  | succ n ih =>
    rw [List.range_succ, List.filter_append, List.filter_append, List.length_append, List.length_append]
    have other : ∀ j, j ≠ i → (listed.setIfInBounds i true).getD j true = listed.getD j true := fun j hj => by
      simp [Array.getD_eq_getD_getElem?, Array.getElem?_setIfInBounds_ne (Ne.symm hj)]
    by_cases hin : i = n
    · subst hin
      have e1 : (List.range i).filter (fun j => !(listed.setIfInBounds i true).getD j true) = (List.range i).filter (fun j => !listed.getD j true) := by
        refine List.filter_congr fun j hj => ?_
        rw [other j (by have := List.mem_range.1 hj; omega)]
      rw [e1]
      have e2 : (listed.setIfInBounds i true).getD i true = true := by simp [hsz]
      simp only [List.filter_cons, e2, hl, Bool.not_true, Bool.not_false, if_true, Bool.false_eq_true, if_false, List.filter_nil, List.length_nil, List.length_cons]
      omega
    · have := ih (by omega)
      rw [show List.filter (fun i_1 => !(listed.setIfInBounds i true).getD i_1 true) [n] = List.filter (fun i => !listed.getD i true) [n] by simp only [List.filter_cons, other n (Ne.symm hin), List.filter_nil]]
      omega

structure Rec (J : Env) (call : CallR) (ops : Array Oper) (T : Regs) (s : DSt) (pv : Option (Value × IH)) (N : Nat) : Prop where
  ok : ROk J ops
  inv : DInv J call ops T s
  opsOk : ∀ o ∈ ops, opOk J N o = true
  check : dcheck J ops s.vs s.hs = true
  fin : match pv with
    | none => s.vs.length = ops.size
    | some (v, H') => effAt J ops s.vs.length = true ∧ (∀ j, j < ops.size → s.vs.length < j → waitsFor (waits ops) j s.vs.length = true) ∧
      ∃ o, ops[s.vs.length]? = some o ∧ wantedR ops s.T o = true ∧ iexec J call o s.T s.H = some (.pan v, H')
def Bx (B : Bd) (early : Nat → Option Nat) : Bd := ⟨B.lo, fun x => B.ex x ∨ ∃ j, early j = some x⟩
structure AInv (J : Env) (B : Bd) (call : CallR) (ops : Array Oper) (T : Regs) (s : DSt) (ι0 : Emb) (n0 : Nat) (w0 : World) (a0 : Act) (listed : Array Bool) (ι : Emb) (k : Nat) (H : IH) (a : Act) (w : World) (early : Nat → Option Nat) : Prop where
  size : listed.size = ops.size
  closed : Closed ops listed
  lt : ∀ i, listed[i]? = some true → i < s.vs.length
  stage : ∀ j, effAt J ops j = true → E J ops j < k → listed[j]? = some true
  ahead : ∀ j, effAt J ops j = true → listed[j]? = some true → k ≤ E J ops j → (E J ops j = k ∨ lateAt J ops j = true) ∧ ∀ Tj vj Hj Hj', s.vs[j]? = some (Tj, vj) → s.hs[E J ops j]? = some Hj → s.hs[E J ops j + 1]? = some Hj' →
    match early j with
    | none => vj = undef ∧ Hj' = Hj ∧ ∀ t, dstAt ops j = some t → a.tmps.getD t undef = undef
    | some r => ∃ v', LP J vj Hj Hj' r w v' ∧ ∀ t, dstAt ops j = some t → a.tmps.getD t undef = v'
  who : ∀ j r, early j = some r → effAt J ops j = true ∧ listed[j]? = some true ∧ k ≤ E J ops j ∧ B.lo ≤ r ∧ ¬ B.ex r ∧ r < w.heap.size
  inj : ∀ j j' r, early j = some r → early j' = some r → j = j'
  kle : k ≤ E J ops s.vs.length
  hk : s.hs[k]? = some H
  sim : Sim J (Bx B early) ι H w
  ext : Ext ι0 n0 ι H.next
  below : Below B w0 w
  defers : a.defers = a0.defers
  tsize : a.tmps.size = a0.tmps.size
  wrote : ∀ t q p, listed[q]? = some true → (effAt J ops q = true → E J ops q < k) → dstAt ops q = some t → s.vs[q]? = some p → VRel ι H.next p.2 (a.tmps.getD t undef)
  kept : ∀ t, (∀ q, listed[q]? = some true → dstAt ops q ≠ some t) → VRel ι H.next (T.at t) (a.tmps.getD t undef)
def Norm (J : Env) (ops : Array Oper) (listed : Array Bool) (k : Nat) : Prop := ∀ j, effAt J ops j = true → listed[j]? = some true → E J ops j ≠ k
theorem AInv.settle {call : CallR} {T : Regs} {s : DSt} {pv : Option (Value × IH)} {N : Nat} (hr : Rec J call ops T s pv N) {ι0 : Emb} {n0 : Nat} {w0 w : World} {a0 a : Act} {listed : Array Bool} : ∀ (m : Nat) {ι : Emb} {k : Nat} {H : IH} {early : Nat → Option Nat},
    AInv J B call ops T s ι0 n0 w0 a0 listed ι k H a w early → E J ops s.vs.length - k ≤ m → ∃ ι' k' H' early', AInv J B call ops T s ι0 n0 w0 a0 listed ι' k' H' a w early' ∧ Norm J ops listed k' := by
  intro m
  induction m with
  | zero =>
    intro ι k H early hA hm
    refine ⟨ι, k, H, early, hA, fun j hj hl e => ?_⟩
    have := E_lt (hA.lt j hl) hj
    omega
  | succ m ih =>
    intro ι k H early hA hm
    by_cases hn : Norm J ops listed k
    · exact ⟨ι, k, H, early, hA, hn⟩
    · obtain ⟨j, hj, hl, rfl⟩ : ∃ j, effAt J ops j = true ∧ listed[j]? = some true ∧ E J ops j = k := by
        apply Classical.byContradiction
        intro hc
        exact hn fun j hj hl e => hc ⟨j, hj, hl, e⟩
      have hjl := hA.lt j hl
      have hjE := E_lt hjl hj
      obtain ⟨o, ho⟩ : ∃ o, ops[j]? = some o := by
        cases ho : ops[j]? with
        | none => simp [effAt, ho] at hj
        | some o => exact ⟨o, rfl⟩
      obtain ⟨Tj, vj, Hj, Hj', f1, f2, f3, _, _⟩ := hr.inv.fact j o hjl ho
      rw [E_succ, if_pos hj] at f3
      have hH : Hj = H := by have h1 := hA.hk; rw [f2] at h1; exact Option.some.inj h1
      subst hH
      obtain ⟨_, hfact⟩ := hA.ahead j hj hl (Nat.le_refl _)
      have hfact := hfact Tj vj Hj Hj' f1 f2 f3
      have step : ∀ {ι' : Emb} {early' : Nat → Option Nat}, (∀ j', j' ≠ j → early' j' = early j') → early' j = none → Sim J (Bx B early') ι' Hj' w → Ext ι Hj.next ι' Hj'.next → (∀ t, dstAt ops j = some t → VRel ι' Hj'.next vj (a.tmps.getD t undef)) →
          AInv J B call ops T s ι0 n0 w0 a0 listed ι' (E J ops j + 1) Hj' a w early' := fun {ι' early'} q1 q2 q3 q4 q5 => by
        have sub : ∀ j' r, early' j' = some r → j' ≠ j ∧ early j' = some r := fun j' r h => by
          by_cases e : j' = j
          · subst e; rw [q2] at h; cases h
          · exact ⟨e, by rw [← q1 j' e]; exact h⟩
        refine ⟨hA.size, hA.closed, hA.lt, fun j' h1 h2 => ?_, fun j' h1 h2 h3 => ?_, fun j' r h => ?_, fun j1 j2 r h1 h2 => hA.inj j1 j2 r (sub _ _ h1).2 (sub _ _ h2).2, by omega, f3, q3, hA.ext.trans q4, hA.below, hA.defers, hA.tsize, fun t q p h1 h2 h3 h4 => ?_, fun t h => (hA.kept t h).ext q4⟩
        · rcases Nat.lt_or_ge (E J ops j') (E J ops j) with h | h
          · exact hA.stage j' h1 h
          · rw [E_inj h1 hj (by omega)]; exact hl
        · have hne : j' ≠ j := fun e => by subst e; omega
          obtain ⟨r1, r2⟩ := hA.ahead j' h1 h2 (by omega)
          exact ⟨.inr (r1.resolve_left (by omega)), by rw [q1 j' hne]; exact r2⟩
        · obtain ⟨h1, h2⟩ := sub j' r h
          obtain ⟨r1, r2, r3, r4⟩ := hA.who j' r h2
          refine ⟨r1, r2, ?_, r4⟩
          have : E J ops j' ≠ E J ops j := fun e => h1 (E_inj r1 hj e)
          omega
        · by_cases e : q = j
          · subst e
            rw [f1] at h4; cases h4
            exact q5 t h3
          · refine (hA.wrote t q p h1 (fun hq => ?_) h3 h4).ext q4
            have := h2 hq
            have : E J ops q ≠ E J ops j := fun e' => e (E_inj hq hj e')
            omega
      cases hej : early j with
      | none =>
        rw [hej] at hfact
        obtain ⟨rfl, rfl, g3⟩ := hfact
        refine ih (step (early' := early) (fun _ _ => rfl) hej hA.sim (Ext.refl _ _) (fun t ht => by rw [g3 t ht]; exact VRel.undef)) (by omega)
      | some r =>
        rw [hej] at hfact
        obtain ⟨v', g1, g2⟩ := hfact
        obtain ⟨_, _, _, r4, r5, _⟩ := hA.who j r hej
        have hsub : ∀ x, (Bx B fun j' => if j' = j then none else early j').ex x → (Bx B early).ex x := fun x hx => by
          rcases hx with hx | ⟨j', hx⟩
          · exact .inl hx
          · refine .inr ⟨j', ?_⟩
            change (if j' = j then none else early j') = some x at hx
            split at hx
            · cases hx
            · exact hx
        obtain ⟨ι', s1, s2, s3⟩ := hA.sim.absorb (B' := Bx B fun j' => if j' = j then none else early j') g1 (.inr ⟨j, hej⟩) r4 rfl hsub (fun hx => by
          rcases hx with hx | ⟨j', hx⟩
          · exact r5 hx
          · change (if j' = j then none else early j') = some r at hx
            split at hx
            · cases hx
            · rename_i hne
              exact hne (hA.inj j' j r hx hej))
        exact ih (step (early' := fun j' => if j' = j then none else early j') (fun j' hne => if_neg hne) (if_pos rfl) s1 s2 (fun t ht => by rw [g2 t ht]; exact s3)) (by omega)

theorem wanted_of {ι : Emb} {n : Nat} {T : Regs} {a : Act} (ops : Array Oper) (o : Oper) (h : ∀ t ∈ Oper.looksAt ops o, VRel ι n (T.at t) (a.tmps.getD t undef)) :
    Region.wanted o (yielded ops a.tmps) = wantedR ops T o := by
  unfold Region.wanted wantedR
  cases hg : o.guard with
  | none => rfl
  | some p =>
    obtain ⟨j, want⟩ := p
    dsimp only
    unfold yielded
    cases hd : (ops[j]?).bind (·.dst) with
    | none => simp
    | some d =>
      have hr := h d (by simp [Oper.looksAt, hg, hd])
      simp only [Option.bind_some]
      cases ht : a.tmps[d]? with
      | none =>
        have : a.tmps.getD d undef = undef := by simp [Array.getD_eq_getD_getElem?, ht]
        rw [this] at hr
        cases hT : T.at d <;> rw [hT] at hr <;> cases hr <;> simp
      | some u =>
        have : a.tmps.getD d undef = u := by simp [Array.getD_eq_getD_getElem?, ht]
        rw [this] at hr
        cases hT : T.at d <;> rw [hT] at hr <;> cases hr <;> simp
theorem operands_of {ι : Emb} {H : IH} {w : World} {T : Regs} {a : Act} {N : Nat} {o : Oper} (hS : Sim J B ι H w) (ho : opOk J N o = true) (h : ∀ t ∈ Oper.looksAt ops o, VRel ι H.next (T.at t) (a.tmps.getD t undef)) :
    ∀ x ∈ o.op.operands, VRel ι H.next (iev T x) (a.eval x) := by
  intro x hx
  simp only [opOk, Bool.and_eq_true] at ho
  have hk := Array.all_eq_true'.1 ho.1 x hx
  cases x with
  | tmp t => exact h t (by
      simp only [Oper.looksAt, List.mem_append, List.mem_filterMap]
      exact .inl ⟨.tmp t, by simpa using hx, rfl⟩)
  | const v => exact VRel.ofFlat hk
  | global g =>
    obtain ⟨h1, h2, h3⟩ := hS.glob g (by simpa [operandOk] using hk)
    exact .ptr ⟨rfl, h1, by simp [h2, h3]⟩
  | func f => exact .func _ rfl (by simp) rfl (by simp)
theorem not_early {call : CallR} {T : Regs} {s : DSt} {pv : Option (Value × IH)} {N : Nat} (hr : Rec J call ops T s pv N) {ι0 ι : Emb} {n0 k : Nat} {w0 w : World} {a0 a : Act} {listed : Array Bool} {H : IH} {early : Nat → Option Nat}
    (hA : AInv J B call ops T s ι0 n0 w0 a0 listed ι k H a w early) (hN : Norm J ops listed k) {i : Nat} {o : Oper} (ho : ops[i]? = some o) (hp : ∀ e ∈ o.after, Region.binds .any e = true → listed[e.on]? = some true)
    {q : Nat} (hw : waitsFor (waits ops) i q = true) (hq : effAt J ops q = true) : E J ops q < k := by
  have hcw := closed_waits hr.ok hA.closed i o ho hp
  rcases Nat.lt_or_ge (E J ops q) k with h | h
  · exact h
  · exfalso
    have hl := (hcw q hw).1
    have hne := hN q hq hl
    obtain ⟨h1, _⟩ := hA.ahead q hq hl h
    have hlate := h1.resolve_left hne
    obtain ⟨e, e1, e2, e3⟩ := E_onto (J := J) (ops := ops) q k (by omega)
    have hwe := (lateAt_spec hlate).2 i (Array.getElem?_eq_some_iff.1 ho).1 hw e e1 e2
    exact hN e e2 (hcw e hwe).1 e3
theorem looks_same {call : CallR} {T : Regs} {s : DSt} {pv : Option (Value × IH)} {N : Nat} (hr : Rec J call ops T s pv N) {ι0 ι : Emb} {n0 k : Nat} {w0 w : World} {a0 a : Act} {listed : Array Bool} {H : IH}
    {early : Nat → Option Nat} (hA : AInv J B call ops T s ι0 n0 w0 a0 listed ι k H a w early) (hN : Norm J ops listed k) {i : Nat} {o : Oper} (ho : ops[i]? = some o) (hl : listed.getD i true = false) (hp : ∀ e ∈ o.after, Region.binds .any e = true → listed[e.on]? = some true)
    {Ti : Regs} (hi : i ≤ s.vs.length) (h1 : ∀ q t p, q < i → dstAt ops q = some t → s.vs[q]? = some p → Ti.at t = p.2) (h2 : ∀ t, (∀ q, q < i → dstAt ops q ≠ some t) → Ti.at t = T.at t) :
    ∀ t ∈ Oper.looksAt ops o, VRel ι H.next (Ti.at t) (a.tmps.getD t undef) := by
  intro t ht
  have nl : listed[i]? ≠ some true := fun e => by simp [Array.getD_eq_getD_getElem?, e] at hl
  by_cases hw : ∃ q, dstAt ops q = some t
  · obtain ⟨q, hq⟩ := hw
    have uniq : ∀ q', dstAt ops q' = some t → q' = q := fun q' hq' => by
      rcases Nat.decEq q' q with h | h
      · exact absurd hq (hr.ok.dst q' q t h hq')
      · exact h
    by_cases hqi : q = i
    · subst hqi
      rw [h2 t fun q' hlt e => by have := uniq q' e; omega]
      exact hA.kept t fun q' hl' e => by have := uniq q' e; subst this; exact nl hl'
    · rcases hr.ok.reads i q o t (Ne.symm hqi) ho hq ht with hwt | hwt
      · obtain ⟨q1, q2⟩ := closed_waits hr.ok hA.closed i o ho hp q hwt
        have hlt := hA.lt q q1
        have hv : s.vs[q]? = some s.vs[q] := List.getElem?_eq_getElem hlt
        rw [h1 q t _ q2 hq hv]
        exact hA.wrote t q _ q1 (not_early hr hA hN ho hp hwt) hq hv
      · have hnq : listed[q]? ≠ some true := fun e => by
          obtain ⟨oq, hoq, _⟩ := hr.ok.bit q i hwt
          exact nl (closed_waits hr.ok hA.closed q oq hoq (hA.closed q oq e hoq) i hwt).1
        have hge : ¬ q < i := fun hlt => by
          obtain ⟨oq, hoq, _⟩ := hr.ok.bit q i hwt
          have : ∀ (q : Nat) (oq : Oper), ops[q]? = some oq → waitsFor (waits ops) q i = true → i < q := by
            intro q
            induction q using Nat.strongRecOn with
            | _ q ih =>
              intro oq hoq hb
              obtain ⟨o', ho', e, he, hbd, hc⟩ := hr.ok.bit q i hb
              have hlt := hr.ok.back q o' ho' e he hbd
              rcases hc with hc | hc
              · omega
              · obtain ⟨o2, ho2, _⟩ := hr.ok.bit e.on i hc
                have := ih e.on hlt o2 ho2 hc
                omega
          have := this q oq hoq hwt
          omega
        rw [h2 t fun q' hlt e => by have := uniq q' e; omega]
        exact hA.kept t fun q' hl' e => by have := uniq q' e; subst this; exact hnq hl'
  · rw [h2 t fun q _ e => hw ⟨q, e⟩]
    exact hA.kept t fun q _ e => hw ⟨q, e⟩
theorem put_getD (a : Act) (d : Option Tmp) (v : Value) (t : Nat) (hd : ∀ t, d = some t → t < a.tmps.size) : (a.put d v).tmps.getD t undef = if d = some t then v else a.tmps.getD t undef := by
  cases d with
  | none => simp [Act.put]
  | some d =>
    have := hd d rfl
    simp only [Act.put, Option.some.injEq]
    by_cases e : d = t
    · subst e; simp [this]
    · rw [if_neg e]
      simp [Array.getD_eq_getD_getElem?, Array.getElem?_setIfInBounds_ne e]
theorem set_true {listed : Array Bool} {i j : Nat} (h : (listed.setIfInBounds i true)[j]? = some true) : j = i ∨ listed[j]? = some true := by
  by_cases e : j = i
  · exact .inl e
  · rw [Array.getElem?_setIfInBounds_ne (Ne.symm e)] at h; exact .inr h
theorem set_keeps {listed : Array Bool} {i j : Nat} (h : listed[j]? = some true) : (listed.setIfInBounds i true)[j]? = some true := by
  by_cases e : j = i
  · subst e
    have := (Array.getElem?_eq_some_iff.1 h).1
    simp [this]
  · rw [Array.getElem?_setIfInBounds_ne (Ne.symm e)]; exact h
theorem AInv.next {call : CallR} {T : Regs} {s : DSt} {pv : Option (Value × IH)} {N : Nat} (hr : Rec J call ops T s pv N) {ι0 ι : Emb} {n0 k : Nat} {w0 w : World} {a0 a : Act} {listed : Array Bool} {H : IH} {early : Nat → Option Nat}
    (hA : AInv J B call ops T s ι0 n0 w0 a0 listed ι k H a w early) (hN : a0.tmps.size = N) {i : Nat} {o : Oper} (ho : ops[i]? = some o) (hl : listed.getD i true = false) (hp : ∀ e ∈ o.after, Region.binds .any e = true → listed[e.on]? = some true)
    (hip : i < s.vs.length) {Ti : Regs} {vi : Value} (hv : s.vs[i]? = some (Ti, vi)) {ι' : Emb} {H' : IH} {w' : World} {v' : Value} (hS : Sim J (Bx B early) ι' H' w') (hvr : VRel ι' H'.next vi v')
    (he : Ext ι H.next ι' H'.next) (hb : Below (Bx B early) w w') {k' : Nat} (hk' : s.hs[k']? = some H') (hkk : (effAt J ops i = true ∧ k = E J ops i ∧ k' = E J ops i + 1) ∨ (effAt J ops i = false ∧ k' = k)) :
    AInv J B call ops T s ι0 n0 w0 a0 (listed.setIfInBounds i true) ι' k' H' (a.put o.dst v') w' early := by
  have hdi : dstAt ops i = o.dst := by simp [dstAt, ho]
  have hok := hr.opsOk o (Array.mem_of_getElem? ho)
  have hdlt : ∀ t, o.dst = some t → t < a.tmps.size := fun t ht => by rw [hA.tsize, hN]; exact dst_lt hok t ht
  have hisz : i < listed.size := by
    rcases Nat.lt_or_ge i listed.size with h | h
    · exact h
    · simp [h] at hl
  have nl : listed[i]? ≠ some true := fun e => by simp [Array.getD_eq_getD_getElem?, e] at hl
  have hbB : Below B w w' := hb.sub rfl fun x hx => .inl hx
  have keepT : ∀ j t, j ≠ i → dstAt ops j = some t → (a.put o.dst v').tmps.getD t undef = a.tmps.getD t undef := fun j t hne hd => by
    rw [put_getD a o.dst v' t hdlt, if_neg fun h => hr.ok.dst j i t hne hd (hdi.trans h)]
  refine ⟨by simp [hA.size], fun q oq hq hoq e hem hbd => ?_, fun q hq => ?_, fun j hj hjk => ?_, fun j hj hjl hjk => ?_, fun j r hjr => ?_, hA.inj, ?_, hk', hS, hA.ext.trans he, hA.below.trans hbB, by rw [put_defers, hA.defers], by rw [put_size, hA.tsize], fun t q p hq hqk hd hqp => ?_, fun t ht => ?_⟩
  · rcases set_true hq with rfl | hq
    · rw [ho] at hoq; cases hoq; exact set_keeps (hp e hem hbd)
    · exact set_keeps (hA.closed q oq hq hoq e hem hbd)
  · rcases set_true hq with rfl | hq
    · exact hip
    · exact hA.lt q hq
  · by_cases e : j = i
    · subst e; simp [hisz]
    · refine set_keeps (hA.stage j hj ?_)
      rcases hkk with ⟨h1, h2, h3⟩ | ⟨h1, h2⟩
      · have : E J ops j ≠ E J ops i := fun e' => e (E_inj hj h1 e')
        omega
      · omega
  · have hne : j ≠ i := fun e => by
      subst e
      rcases hkk with ⟨h1, h2, h3⟩ | ⟨h1, h2⟩
      · omega
      · rw [h1] at hj; cases hj
    have hjl' := (set_true hjl).resolve_left hne
    have hkk' : k ≤ k' := by rcases hkk with ⟨_, h2, h3⟩ | ⟨_, h2⟩ <;> omega
    obtain ⟨h1, h2⟩ := hA.ahead j hj hjl' (by omega)
    refine ⟨?_, fun Tj vj Hj Hj' g1 g2 g3 => ?_⟩
    · rcases h1 with h1 | h1
      · left
        rcases hkk with ⟨q1, q2, q3⟩ | ⟨q1, q2⟩
        · exact absurd (E_inj hj q1 (by omega)) hne
        · omega
      · exact .inr h1
    · have h3 := h2 Tj vj Hj Hj' g1 g2 g3
      cases hej : early j with
      | none =>
        rw [hej] at h3
        exact ⟨h3.1, h3.2.1, fun t ht => by rw [keepT j t hne ht]; exact h3.2.2 t ht⟩
      | some r =>
        rw [hej] at h3
        obtain ⟨u, h4, h5⟩ := h3
        exact ⟨u, h4.of_heap (hb.block r (.inr (.inr ⟨j, hej⟩))), fun t ht => by rw [keepT j t hne ht]; exact h5 t ht⟩
  · obtain ⟨r1, r2, r3, r4, r5, r6⟩ := hA.who j r hjr
    refine ⟨r1, set_keeps r2, ?_, r4, r5, Nat.lt_of_lt_of_le r6 hb.size⟩
    rcases hkk with ⟨h1, h2, h3⟩ | ⟨h1, h2⟩
    · have : E J ops j ≠ E J ops i := fun e' => nl (E_inj r1 h1 e' ▸ r2)
      omega
    · omega
  · rcases hkk with ⟨h1, h2, h3⟩ | ⟨h1, h2⟩
    · have := E_lt hip h1; omega
    · rw [h2]; exact hA.kle
  · rw [put_getD a o.dst v' t hdlt]
    rcases set_true hq with rfl | hq2
    · rw [if_pos (hdi.symm.trans hd)]
      rw [hv] at hqp
      cases hqp
      exact hvr
    · by_cases e : q = i
      · subst e; exact absurd hq2 nl
      · rw [if_neg fun h => hr.ok.dst q i t e hd (hdi.trans h)]
        refine (hA.wrote t q p hq2 (fun hqe => ?_) hd hqp).ext he
        have := hqk hqe
        rcases hkk with ⟨h1, h2, h3⟩ | ⟨h1, h2⟩
        · have : E J ops q ≠ E J ops i := fun e' => e (E_inj hqe h1 e')
          omega
        · omega
  · rw [put_getD a o.dst v' t hdlt, if_neg fun h => ht i (by simp [hisz]) (hdi.trans h)]
    exact (hA.kept t fun q hq => ht q (set_keeps hq)).ext he
theorem AInv.first {call : CallR} {T : Regs} {s : DSt} {pv : Option (Value × IH)} {N : Nat} (hr : Rec J call ops T s pv N) {ι0 ι : Emb} {n0 k : Nat} {w0 w : World} {a0 a : Act} {listed : Array Bool} {H : IH} {early : Nat → Option Nat}
    (hA : AInv J B call ops T s ι0 n0 w0 a0 listed ι k H a w early) (hN : a0.tmps.size = N) {i : Nat} {o : Oper} (ho : ops[i]? = some o) (hl : listed.getD i true = false) (hp : ∀ e ∈ o.after, Region.binds .any e = true → listed[e.on]? = some true)
    (hip : i < s.vs.length) {Ti : Regs} {vi : Value} {Hi Hi' : IH} (hv : s.vs[i]? = some (Ti, vi)) (hHi : s.hs[E J ops i]? = some Hi) (hHi' : s.hs[E J ops i + 1]? = some Hi') (hie : effAt J ops i = true) (hlate : lateAt J ops i = true) (hki : k ≤ E J ops i)
    {early' : Nat → Option Nat} {w' : World} {v' : Value} (hS : Sim J (Bx B early') ι H w') (hb : Below B w w') (hbe : ∀ j r, early j = some r → w'.heap[r]? = w.heap[r]?) (he1 : ∀ j, j ≠ i → early' j = early j)
    (he2 : match early' i with
      | none => vi = undef ∧ Hi' = Hi ∧ v' = undef
      | some r => LP J vi Hi Hi' r w' v' ∧ B.lo ≤ r ∧ ¬ B.ex r ∧ r < w'.heap.size ∧ ∀ j, early j ≠ some r) :
    AInv J B call ops T s ι0 n0 w0 a0 (listed.setIfInBounds i true) ι k H (a.put o.dst v') w' early' := by
  have hdi : dstAt ops i = o.dst := by simp [dstAt, ho]
  have hok := hr.opsOk o (Array.mem_of_getElem? ho)
  have hdlt : ∀ t, o.dst = some t → t < a.tmps.size := fun t ht => by rw [hA.tsize, hN]; exact dst_lt hok t ht
  have hisz : i < listed.size := by
    rcases Nat.lt_or_ge i listed.size with h | h
    · exact h
    · simp [h] at hl
  have nl : listed[i]? ≠ some true := fun e => by simp [Array.getD_eq_getD_getElem?, e] at hl
  have keepT : ∀ j t, j ≠ i → dstAt ops j = some t → (a.put o.dst v').tmps.getD t undef = a.tmps.getD t undef := fun j t hne hd => by
    rw [put_getD a o.dst v' t hdlt, if_neg fun h => hr.ok.dst j i t hne hd (hdi.trans h)]
  refine ⟨by simp [hA.size], fun q oq hq hoq e hem hbd => ?_, fun q hq => ?_, fun j hj hjk => set_keeps (hA.stage j hj hjk), fun j hj hjl hjk => ?_, fun j r hjr => ?_, fun j1 j2 r h1 h2 => ?_, hA.kle, hA.hk, hS, hA.ext, hA.below.trans hb, by rw [put_defers, hA.defers], by rw [put_size, hA.tsize], fun t q p hq hqk hd hqp => ?_, fun t ht => ?_⟩
  · rcases set_true hq with rfl | hq
    · rw [ho] at hoq; cases hoq; exact set_keeps (hp e hem hbd)
    · exact set_keeps (hA.closed q oq hq hoq e hem hbd)
  · rcases set_true hq with rfl | hq
    · exact hip
    · exact hA.lt q hq
  · by_cases hne : j = i
    · subst hne
      refine ⟨.inr hlate, fun Tj vj Hj Hj' g1 g2 g3 => ?_⟩
      rw [hv] at g1; rw [hHi] at g2; rw [hHi'] at g3
      cases g1; cases g2; cases g3
      cases hej : early' j with
      | none =>
        rw [hej] at he2
        exact ⟨he2.1, he2.2.1, fun t ht => by rw [put_getD a o.dst v' t hdlt, if_pos (hdi.symm.trans ht)]; exact he2.2.2⟩
      | some r =>
        rw [hej] at he2
        exact ⟨v', he2.1, fun t ht => by rw [put_getD a o.dst v' t hdlt, if_pos (hdi.symm.trans ht)]⟩
    · have hjl' := (set_true hjl).resolve_left hne
      obtain ⟨h1, h2⟩ := hA.ahead j hj hjl' hjk
      refine ⟨h1, fun Tj vj Hj Hj' g1 g2 g3 => ?_⟩
      have h3 := h2 Tj vj Hj Hj' g1 g2 g3
      rw [he1 j hne]
      cases hej : early j with
      | none =>
        rw [hej] at h3
        exact ⟨h3.1, h3.2.1, fun t ht => by rw [keepT j t hne ht]; exact h3.2.2 t ht⟩
      | some r =>
        rw [hej] at h3
        obtain ⟨u, h4, h5⟩ := h3
        exact ⟨u, h4.of_heap (hbe j r hej), fun t ht => by rw [keepT j t hne ht]; exact h5 t ht⟩
  · by_cases hne : j = i
    · subst hne
      rw [hjr] at he2
      exact ⟨hie, by simp [hisz], hki, he2.2.1, he2.2.2.1, he2.2.2.2.1⟩
    · rw [he1 j hne] at hjr
      obtain ⟨r1, r2, r3, r4, r5, r6⟩ := hA.who j r hjr
      exact ⟨r1, set_keeps r2, r3, r4, r5, Nat.lt_of_lt_of_le r6 hb.size⟩
  · by_cases e1 : j1 = i <;> by_cases e2 : j2 = i
    · rw [e1, e2]
    · subst e1
      rw [h1] at he2
      rw [he1 j2 e2] at h2
      exact absurd h2 (he2.2.2.2.2 j2)
    · subst e2
      rw [h2] at he2
      rw [he1 j1 e1] at h1
      exact absurd h1 (he2.2.2.2.2 j1)
    · rw [he1 j1 e1] at h1
      rw [he1 j2 e2] at h2
      exact hA.inj j1 j2 r h1 h2
  · rw [put_getD a o.dst v' t hdlt]
    rcases set_true hq with rfl | hq2
    · have := hqk hie; omega
    · by_cases e : q = i
      · subst e; exact absurd hq2 nl
      · rw [if_neg fun h => hr.ok.dst q i t e hd (hdi.trans h)]
        exact hA.wrote t q p hq2 hqk hd hqp
  · rw [put_getD a o.dst v' t hdlt, if_neg fun h => ht i (by simp [hisz]) (hdi.trans h)]
    exact hA.kept t fun q hq => ht q (set_keeps hq)
def endX : Option (Value × IH) → IX
  | none => .normal
  | some (v, _) => .pan v
def endH (s : DSt) : Option (Value × IH) → IH
  | none => s.H
  | some (_, H') => H'
theorem any_wp {K : Nat → Prop} (hK : ∀ t, K t → ∀ q, dstAt ops q ≠ some t) {call : CallR} (hcall : ∀ B, CallSound J B call) {T : Regs} {s : DSt} {pv : Option (Value × IH)} {N : Nat} (hr : Rec J call ops T s pv N) {ι0 : Emb} {n0 : Nat} {w0 : World} {a0 : Act} (hN : a0.tmps.size = N) :
    ∀ (fuel : Nat) (listed : Array Bool) (ι : Emb) (k : Nat) (H : IH) (a : Act) (w : World) (early : Nat → Option Nat), AInv J B call ops T s ι0 n0 w0 a0 listed ι k H a w early → Norm J ops listed k → unlisted ops.size listed ≤ fuel →
      wpAny J.P .any ops (CodePost J B K ι0 n0 w0 a0 (endX pv) s.T (endH s pv)) fuel listed a w := by
  have hfin : ∀ (listed : Array Bool) (ι : Emb) (k : Nat) (H : IH) (a : Act) (w : World) (early : Nat → Option Nat), AInv J B call ops T s ι0 n0 w0 a0 listed ι k H a w early → Norm J ops listed k → Region.ready .any ops listed = [] →
      CodePost J B K ι0 n0 w0 a0 (endX pv) s.T (endH s pv) .normal a w := by
    intro listed ι k H a w early hA hNm hrd
    have hall := ready_none hr.ok hA.size hrd
    have hf := hr.fin
    cases pv with
    | some p =>
      obtain ⟨v, H'⟩ := p
      obtain ⟨_, _, o, ho, _⟩ := hf
      have := hA.lt _ (hall _ (Array.getElem?_eq_some_iff.1 ho).1)
      omega
    | none =>
      have hf : s.vs.length = ops.size := hf
      have hk : k = E J ops s.vs.length := by
        rcases Nat.lt_or_ge k (E J ops s.vs.length) with h | h
        · obtain ⟨j, j1, j2, j3⟩ := E_onto _ k h
          exact absurd j3 (hNm j j2 (hall j (by omega)))
        · have := hA.kle; omega
      have hH : H = s.H := by
        have h1 := hA.hk
        rw [hk, hr.inv.hh] at h1
        exact (Option.some.inj h1).symm
      subst hH
      have hnone : ∀ j r, early j ≠ some r := fun j r h => by
        obtain ⟨r1, r2, r3, _⟩ := hA.who j r h
        have := E_lt (J := J) (ops := ops) (hA.lt j r2) r1
        omega
      refine ⟨ι, undef, rfl, hA.sim.sub rfl (fun x hx => .inl hx), hA.ext, hA.below, hA.defers, hA.tsize, fun t => ?_⟩
      by_cases hw : ∃ q, q < s.vs.length ∧ dstAt ops q = some t
      · obtain ⟨q, h1, h2⟩ := hw
        have hv : s.vs[q]? = some s.vs[q] := List.getElem?_eq_getElem h1
        rw [hr.inv.r1 q t _ h1 h2 hv]
        exact hA.wrote t q _ (hall q (by omega)) (fun hq => by rw [hk]; exact E_lt h1 hq) h2 hv
      · rw [hr.inv.r2 t fun q h1 h2 => hw ⟨q, h1, h2⟩]
        exact hA.kept t fun q h1 h2 => hw ⟨q, hA.lt q h1, h2⟩
  intro fuel
  induction fuel with
  | zero =>
    intro listed ι k H a w early hA hNm hu
    have hrd : Region.ready .any ops listed = [] := by
      cases hc : Region.ready .any ops listed with
      | nil => rfl
      | cons i l =>
        obtain ⟨o, ho, hl, _⟩ := ready_mem (ops := ops) (listed := listed) (i := i) (by rw [hc]; simp)
        have := unlisted_set (n := ops.size) (Array.getElem?_eq_some_iff.1 ho).1 hl
        omega
    exact ⟨hrd, hfin _ _ _ _ _ _ _ hA hNm hrd⟩
  | succ fuel ih =>
    intro listed ι k H a w early hA hNm hu
    refine ⟨hfin _ _ _ _ _ _ _ hA hNm, fun i hi => ?_⟩
    obtain ⟨o, ho, hl, hp0⟩ := ready_mem hi
    have hisz := (Array.getElem?_eq_some_iff.1 ho).1
    have hp : ∀ e ∈ o.after, Region.binds .any e = true → listed[e.on]? = some true := fun e he hb => by
      have := hp0 e he hb
      simp only [Array.getD_eq_getD_getElem?] at this
      cases h : listed[e.on]? with
      | none => simp [h] at this
      | some b => simp [h] at this; rw [this]
    have nl : listed[i]? ≠ some true := fun e => by simp [Array.getD_eq_getD_getElem?, e] at hl
    have hcw := closed_waits hr.ok hA.closed i o ho hp
    have hok := hr.opsOk o (Array.mem_of_getElem? ho)
    have heff : effAt J ops i = isEff J o := by simp [effAt, ho]
    have hkE : effAt J ops i = true → k ≤ E J ops i := fun he => by
      rcases Nat.lt_or_ge (E J ops i) k with h | h
      · exact absurd (hA.stage i he h) nl
      · exact h
    have hstage : effAt J ops i = true → lateAt J ops i = false → k = E J ops i := fun he hnl => by
      have h1 : ∀ j, effAt J ops j = true → E J ops j < E J ops i → listed[j]? = some true := fun j hj hlt => by
        have hji : j < i := by
          rcases Nat.lt_or_ge j i with h | h
          · exact h
          · have := E_mono (J := J) (ops := ops) h; omega
        exact (hcw j ((hr.ok.total i j hji he hj).resolve_right (by rw [hnl]; simp))).1
      rcases Nat.lt_trichotomy k (E J ops i) with h | h | h
      · obtain ⟨j, j1, j2, j3⟩ := E_onto _ k h
        exact absurd j3 (hNm j j2 (h1 j j2 (by omega)))
      · exact h
      · exact absurd (hA.stage i he h) nl
    have hle : i ≤ s.vs.length := by
      have hf := hr.fin
      cases pv with
      | none =>
        have hf : s.vs.length = ops.size := hf
        omega
      | some p =>
        obtain ⟨v, H'⟩ := p
        obtain ⟨_, h2, _⟩ := hf
        rcases Nat.lt_or_ge s.vs.length i with h | h
        · have := hA.lt _ (hcw _ (h2 i hisz h)).1
          omega
        · exact h
    unfold wpOp
    rw [ho]
    dsimp only
    by_cases hip : i < s.vs.length
    · obtain ⟨Ti, vi, Hi, Hi', f1, f2, f3, f4, f5⟩ := hr.inv.fact i o hip ho
      have hlooks := looks_same hr hA hNm ho hl hp (Ti := Ti) hle (fun q t p => hr.inv.r1' i _ f1 q t p) (fun t => hr.inv.r2' i _ f1 t)
      have hw := wanted_of ops o hlooks
      have hρ := operands_of hA.sim hok hlooks
      have hus := unlisted_set hisz hl
      have go1 : ∀ {ι' : Emb} {H' : IH} {w' : World} {v' : Value} {k' : Nat} {early' : Nat → Option Nat}, AInv J B call ops T s ι0 n0 w0 a0 (listed.setIfInBounds i true) ι' k' H' (a.put o.dst v') w' early' →
          wpAny J.P .any ops (CodePost J B K ι0 n0 w0 a0 (endX pv) s.T (endH s pv)) fuel (listed.setIfInBounds i true) (a.put o.dst v') w' := fun h1 => by
        obtain ⟨ι2, k2, H2, early2, h2, h3⟩ := h1.settle hr _ (Nat.le_refl _)
        exact ih _ _ _ _ _ _ _ h2 h3 (by omega)
      have go : ∀ {ι' : Emb} {H' : IH} {w' : World} {v' : Value} {k' : Nat}, Sim J (Bx B early) ι' H' w' → VRel ι' H'.next vi v' → Ext ι H.next ι' H'.next → Below (Bx B early) w w' → s.hs[k']? = some H' →
          ((effAt J ops i = true ∧ k = E J ops i ∧ k' = E J ops i + 1) ∨ (effAt J ops i = false ∧ k' = k)) →
          wpAny J.P .any ops (CodePost J B K ι0 n0 w0 a0 (endX pv) s.T (endH s pv)) fuel (listed.setIfInBounds i true) (a.put o.dst v') w' := fun h1 h2 h3 h4 h5 h6 =>
        go1 (hA.next hr hN ho hl hp hip f1 h1 h2 h3 h4 h5 h6)
      rw [hw]
      by_cases hwt : wantedR ops Ti o = true
      · rw [if_pos hwt]
        left
        by_cases hea : isEff J o = true ∧ lateAt J ops i = true ∧ k ≠ E J ops i
        · obtain ⟨he, hlt, hkne⟩ := hea
          have hei := heff.trans he
          have f3' := f3
          rw [E_succ, heff, if_pos he] at f3'
          obtain ⟨⟨o', ho', hlo⟩, _⟩ := lateAt_spec hlt
          rw [ho] at ho'; cases ho'
          have hx := f4 hwt
          have hi : ∃ v, iop J o Ti Hi = some (.val v Hi') ∧ v = vi := by
            unfold iexec at hx
            split at hx
            · rename_i v H1 hi; cases hx; exact ⟨_, hi, rfl⟩
            · cases hx
            · rename_i f args H1 hi
              exfalso
              obtain ⟨dst, op, type, pos, after, guard⟩ := o
              cases op <;> simp only [lateO] at hlo <;> try (cases hlo; done)
              · simp only [iop, Option.map_eq_some_iff] at hi; obtain ⟨_, _, h⟩ := hi; cases h
              · simp only [iop, OR.ofPair, Option.map_eq_some_iff] at hi; obtain ⟨_, _, h⟩ := hi; cases h
              · simp only [iop, OR.ofPair, Option.map_eq_some_iff] at hi; obtain ⟨_, _, h⟩ := hi; cases h
            · simp at hx
          obtain ⟨v, hi, rfl⟩ := hi
          obtain ⟨v', ob, hrun, hLP⟩ := late_run hlo hi hρ w
          unfold Oper.wp
          rw [hrun]
          have hb0 := hA.sim.base
          refine go1 (early' := fun j => if j = i then some w.heap.size else early j) (hA.first hr hN ho hl hp hip f1 f2 f3' hei hlt (hkE hei) (hA.sim.ahead ob rfl fun x hx => ?_) (below_push _ (hb0.sub rfl fun x hx => .inl hx)) (fun j r hj => ?_) (fun j hj => if_neg hj) ?_)
          · rcases hx with hx | ⟨j, hx⟩
            · exact .inl (.inl hx)
            · change (if j = i then some w.heap.size else early j) = some x at hx
              split at hx
              · exact .inr (Option.some.inj hx).symm
              · exact .inl (.inr ⟨j, hx⟩)
          · have := (hA.who j r hj).2.2.2.2.2
            simp only
            rw [Array.getElem?_push, if_neg (by omega)]
          · simp only [if_true]
            exact ⟨hLP, hb0.1, fun hx => by have := hb0.2 _ (.inl hx); omega, by simp, fun j hj => by have := (hA.who j _ hj).2.2.2.2.2; omega⟩
        by_cases he : isEff J o = true
        · have hk : k = E J ops i := by
            apply Classical.byContradiction
            intro hc
            cases hlt : lateAt J ops i with
            | false => exact hc (hstage (heff.trans he) hlt)
            | true => exact hea ⟨he, hlt, hc⟩
          have hH : H = Hi := by have h1 := hA.hk; rw [hk, f2] at h1; exact (Option.some.inj h1).symm
          subst hH
          refine exec_wp (hcall _) hA.sim hρ (f4 hwt) (fun v v' ι' w' e s1 s2 s3 s4 => ?_) (fun v v' ι' w' e s1 s2 s3 s4 => by cases e)
          cases e
          exact go s1 s2 s3 s4 (k' := E J ops i + 1) (by rw [E_succ, heff, if_pos he] at f3; exact f3) (.inl ⟨heff.trans he, hk, rfl⟩)
        · simp only [Bool.not_eq_true] at he
          have hx : iexec J call o Ti H = some (.ret vi, H) := by
            obtain ⟨v1, e1, e2, e3⟩ := iexec_light he (f4 hwt)
            cases e1
            have key : iop J o Ti H = some (.val vi H) := by
              by_cases hrd : readsH o = true
              · have hkl := (List.getElem?_eq_some_iff.1 hA.hk).1
                have hck := hr.check
                unfold dcheck at hck
                split at hck
                · rename_i H0 hh0
                  rw [hh0] at hkl
                  have hil := (List.getElem?_eq_some_iff.1 f2).1
                  rw [hh0] at hil
                  simp at hkl hil
                  have h1 := hA.hk
                  rw [hkl, ← hil, f2] at h1
                  cases h1
                  exact e3
                by_cases hke : k = E J ops i
                · have h1 := hA.hk
                  rw [hke, f2] at h1
                  cases h1
                  exact e3
                have hmem : allowed (waits ops) (effs J ops) i k = false ∨ (i, k) ∈ pairs J ops := by
                  cases hal : allowed (waits ops) (effs J ops) i k with
                  | false => exact .inl rfl
                  | true =>
                    refine .inr ?_
                    have hEn : E J ops ops.size = (effs J ops).length := rfl
                    have hmono := E_mono (J := J) (ops := ops) hr.inv.len
                    have hlen := hr.inv.hl
                    unfold pairs
                    rw [List.mem_flatMap]
                    refine ⟨i, List.mem_range.2 (Array.getElem?_eq_some_iff.1 ho).1, ?_⟩
                    rw [ho]
                    dsimp only
                    rw [if_neg (by simp [he, hrd]), List.mem_map]
                    refine ⟨k, List.mem_filter.2 ⟨List.mem_range.2 (by omega), ?_⟩, rfl⟩
                    rw [hal, Bool.and_true, Bool.not_eq_true', decide_eq_false_iff_not]
                    exact hke
                rcases hmem with h1 | h1
                · exfalso
                  unfold allowed at h1
                  rw [Bool.and_eq_false_iff] at h1
                  rcases h1 with h1 | h1
                  · obtain ⟨j, hj, hj2⟩ := List.all_eq_false.1 h1
                    obtain ⟨m, m1, m2⟩ := mem_take hj
                    obtain ⟨g1, g2, g3⟩ := effs_at _ m j m2
                    have hjl := hA.stage j g1 (by omega)
                    simp only [Bool.not_eq_true, Bool.not_eq_false'] at hj2
                    obtain ⟨oj, hoj, _⟩ := hr.ok.bit j i hj2
                    exact nl (closed_waits hr.ok hA.closed j oj hoj (hA.closed j oj hjl hoj) i hj2).1
                  · obtain ⟨j, hj, hj2⟩ := List.all_eq_false.1 h1
                    obtain ⟨m, m1, m2⟩ := mem_drop hj
                    obtain ⟨g1, g2, g3⟩ := effs_at _ m j m2
                    simp only [Bool.not_eq_true, Bool.not_eq_false'] at hj2
                    have := not_early hr hA hNm ho hp hj2 g1
                    omega
                · have h1 := (List.all_eq_true.1 hck) (i, k) h1
                  unfold oblig at h1
                  dsimp only at h1
                  rw [ho, f1, hA.hk] at h1
                  dsimp only at h1
                  rw [hwt] at h1
                  simp only [Bool.not_true, Bool.false_or] at h1
                  split at h1
                  · rename_i v2 H2 hv2
                    have := veq_eq 8 _ _ h1
                    subst this
                    obtain ⟨u, hu'⟩ := light_same he hv2
                    cases hu'
                    exact hv2
                  · simp at h1
              · exact pure_any he (by simpa using hrd) e3 H
            unfold iexec
            rw [key]
          refine exec_wp (hcall _) hA.sim hρ hx (fun v v' ι' w' e s1 s2 s3 s4 => ?_) (fun v v' ι' w' e s1 s2 s3 s4 => by cases e)
          cases e
          exact go s1 s2 s3 s4 (k' := k) hA.hk (.inr ⟨heff.trans he, rfl⟩)
      · rw [if_neg hwt]
        obtain ⟨u1, u2⟩ := f5 (by simpa using hwt)
        subst u1
        by_cases he : isEff J o = true
        · by_cases hk : k = E J ops i
          case neg =>
            have hei := heff.trans he
            have f3' := f3
            rw [E_succ, heff, if_pos he] at f3'
            have hlt : lateAt J ops i = true := by
              cases hlt : lateAt J ops i with
              | false => exact absurd (hstage hei hlt) hk
              | true => rfl
            have hen : early i = none := by
              cases hen : early i with
              | none => rfl
              | some r => exact absurd (hA.who i r hen).2.1 nl
            exact go1 (hA.first hr hN ho hl hp hip f1 f2 f3' hei hlt (hkE hei) hA.sim (Below.refl _ _) (fun _ _ _ => rfl) (fun _ _ => rfl) (by rw [hen]; exact ⟨rfl, u2, rfl⟩))
          have hH : H = Hi := by have h1 := hA.hk; rw [hk, f2] at h1; exact (Option.some.inj h1).symm
          subst hH
          exact go hA.sim VRel.undef (Ext.refl _ _) (Below.refl _ _) (k' := E J ops i + 1) (by rw [E_succ, heff, if_pos he, u2] at f3; exact f3) (.inl ⟨heff.trans he, hk, rfl⟩)
        · exact go hA.sim VRel.undef (Ext.refl _ _) (Below.refl _ _) (k' := k) hA.hk (.inr ⟨heff.trans (by simpa using he), rfl⟩)
    · have hie : i = s.vs.length := by omega
      subst hie
      have hf := hr.fin
      cases pv with
      | none =>
        have hf : s.vs.length = ops.size := hf
        omega
      | some p =>
        obtain ⟨v, H'⟩ := p
        obtain ⟨he, hall, o', ho', hwt, hx⟩ := hf
        rw [ho] at ho'
        cases ho'
        have hnl : lateAt J ops s.vs.length = false := by
          cases hlt : lateAt J ops s.vs.length with
          | false => rfl
          | true =>
            exfalso
            obtain ⟨⟨o', ho', hlo⟩, _⟩ := lateAt_spec hlt
            rw [ho] at ho'; cases ho'
            unfold iexec at hx
            obtain ⟨dst, op, type, pos, after, guard⟩ := o
            cases op <;> simp only [lateO] at hlo <;> try (cases hlo; done)
            · simp only [iop] at hx
              rename_i e
              cases hz : J.zero e <;> simp [hz] at hx
            · simp only [iop, OR.ofPair] at hx
              rename_i t l ps
              cases hz : ibuildSlice J t l (iparts s.T ps) s.H <;> simp [hz] at hx
            · simp only [iop, OR.ofPair] at hx
              rename_i t l c
              cases hz : imakeSlice J t (iev s.T l) (iev s.T c) s.H <;> simp [hz] at hx
        have hnone : ∀ j r, early j ≠ some r := fun j r h => by
          obtain ⟨r1, r2, r3, _⟩ := hA.who j r h
          have hkk := hstage he hnl
          have hjl := (Array.getElem?_eq_some_iff.1 r2).1
          rw [hA.size] at hjl
          rcases Nat.lt_trichotomy j s.vs.length with q | q | q
          · have := E_lt (J := J) (ops := ops) q r1; omega
          · subst q; exact nl r2
          · have hwj := hall j hjl q
            obtain ⟨oj, hoj, _⟩ := hr.ok.bit j _ hwj
            exact nl (closed_waits hr.ok hA.closed j oj hoj (hA.closed j oj r2 hoj) _ hwj).1
        have hlooks := looks_same hr hA hNm ho hl hp (Ti := s.T) (Nat.le_refl _) (fun q t p => hr.inv.r1 q t p) (fun t => hr.inv.r2 t)
        rw [wanted_of ops o hlooks, if_pos hwt]
        left
        have hk := hstage he hnl
        have hH : H = s.H := by have h1 := hA.hk; rw [hk, hr.inv.hh] at h1; exact (Option.some.inj h1).symm
        subst hH
        refine exec_wp (hcall _) hA.sim (operands_of hA.sim hok hlooks) hx (fun v v' ι' w' e s1 s2 s3 s4 => by cases e) (fun v0 v' ι' w' e s1 s2 s3 s4 => ?_)
        cases e
        exact ⟨ι', v', rfl, s1.sub rfl (fun x hx => .inl hx), hA.ext.trans s3, hA.below.trans (s4.sub rfl fun x hx => .inl hx), hA.defers, hA.tsize, s2, fun t ht => by rw [hr.inv.r2 t fun q _ => hK t ht q]; exact (hA.kept t fun q _ => hK t ht q).ext s3⟩
theorem draw_any {K : Nat → Prop} (hK : ∀ t, K t → ∀ q, dstAt ops q ≠ some t) {call : CallR} (hcall : ∀ B, CallSound J B call) {T T' : Regs} {H H' : IH} {x : IX} {ι : Emb} {w : World} {a : Act} (hS : Sim J B ι H w) (hR : RegsRel ι H.next T a.tmps)
    (hops : ∀ o ∈ ops, opOk J a.tmps.size o = true) (hrok : regionOk J ops = true) (h : idraw J call ops T H = some (x, T', H')) :
    wpAny J.P .any ops (CodePost J B K ι H.next w a x T' H') ops.size (Array.replicate ops.size false) a { w with drawn := w.drawn + 1 } := by
  unfold idraw at h
  have hRO := regionOk_ok hrok
  have h0 : DInv J call ops T ⟨T, H, [], [H]⟩ := ⟨by simp, by simp [E], by simp [E], by simp, by simp, fun _ _ => rfl, by simp, by simp⟩
  have start : ∀ (s : DSt) (pv : Option (Value × IH)), Rec J call ops T s pv a.tmps.size → s.hs[0]? = some H → wpAny J.P .any ops (CodePost J B K ι H.next w a (endX pv) s.T (endH s pv)) ops.size (Array.replicate ops.size false) a { w with drawn := w.drawn + 1 } := by
    intro s pv hr hs0
    have hS0 : Sim J (Bx B fun _ => none) ι H { w with drawn := w.drawn + 1 } := Sim.sub (B := B) (hS.of_heap rfl) rfl fun x hx => by
      rcases hx with hx | ⟨j, hx⟩
      · exact hx
      · cases hx
    refine any_wp hK hcall hr rfl _ _ ι 0 H a _ (fun _ => none) ⟨by simp, fun i o hi => ?_, fun i hi => ?_, fun j _ h => (by omega), fun j _ hj => ?_, fun j r h => (by cases h), fun j j' r h => (by cases h), Nat.zero_le _, hs0, hS0, Ext.refl _ _, below_drawn _, rfl, rfl, fun t q p hq => ?_, fun t _ => hR t⟩ (fun j _ hj => ?_) ?_
    · simp [Array.getElem?_replicate] at hi
    · simp [Array.getElem?_replicate] at hi
    · simp [Array.getElem?_replicate] at hj
    · simp [Array.getElem?_replicate] at hq
    · simp [Array.getElem?_replicate] at hj
    · unfold unlisted
      exact Nat.le_trans (List.length_filter_le _ _) (by simp)
  have hs0 : ∀ (l : List Oper) (s s' : DSt) (pv : Option Value), s.hs[0]? = some H → drun J call ops l s = some (s', pv) → s'.hs[0]? = some H := by
    intro l
    induction l with
    | nil => intro s s' pv h1 h2; simp only [drun, Option.some.injEq, Prod.mk.injEq] at h2; rw [← h2.1]; exact h1
    | cons o l ih =>
      intro s s' pv h1 h2
      have app : ∀ X, (if isEff J o then s.hs ++ [X] else s.hs)[0]? = some H := fun X => by
        split
        · rw [List.getElem?_append_left (List.getElem?_eq_some_iff.1 h1).1]; exact h1
        · exact h1
      simp only [drun] at h2
      split at h2
      · split at h2
        · exact ih _ s' pv (app _) h2
        · simp only [Option.some.injEq, Prod.mk.injEq] at h2; rw [← h2.1]; exact h1
        · simp at h2
      · exact ih _ s' pv (app _) h2
  split at h
  · rename_i s hd
    split at h
    · rename_i hck
      cases h
      obtain ⟨h1, h2⟩ := drun_spec hRO ops.toList _ s none (by simp) h0 hd
      exact start s none ⟨hRO, h1, hops, hck, h2⟩ (hs0 _ _ _ _ rfl hd)
    · simp at h
  · rename_i s v hd
    split at h
    · rename_i hck
      cases h
      simp only [Bool.and_eq_true] at hck
      obtain ⟨⟨c1, c2⟩, c3⟩ := hck
      obtain ⟨o, Hp, q1, q2, q3, q4⟩ := drun_spec hRO ops.toList _ s (some v) (by simp) h0 hd
      refine start { s with H := Hp } (some (v, s.H)) ⟨hRO, q2, hops, c1, c2, fun j hj hlt => ?_, o, q1, q3, q4⟩ (show s.hs[0]? = some H from hs0 _ _ _ _ rfl hd)
      simp only [List.all_eq_true, List.mem_range, Bool.or_eq_true, decide_eq_true_eq] at c3
      rcases c3 j hj with h | h
      · have hlt' : s.vs.length < j := hlt
        omega
      · exact h
    · simp at h
  · simp at h
end
end Go.Proofs.YtchlbfmjnhgpgaaGreat.Idl
namespace Go.Proofs.YtchlbfmjnhgpgaaGreat.Idl
open Go Go.RowKit

def dummyO : Oper := ⟨none, .move (.const undef), 0, "", #[], none⟩
def renO (order : List Nat) (o : Oper) : Oper := { o with after := o.after.map fun e => { e with on := order.idxOf e.on }, guard := o.guard.map fun p => (order.idxOf p.1, p.2) }
def permO (order : List Nat) (ops : Array Oper) : Array Oper := (order.map fun i => renO order ((ops[i]?).getD dummyO)).toArray
def permOk (order : List Nat) (ops : Array Oper) : Bool :=
  let n := ops.size
  decide (order.length = n) && ((List.range n).all fun i => decide (order.idxOf i < n) && decide (order[order.idxOf i]? = some i) && decide (order.getD i 0 < n) && decide (order.idxOf (order.getD i 0) = i)) &&
    (ops.all fun o => o.after.all (fun e => decide (e.on < n)) && (match o.guard with | some (j, _) => decide (j < n) | none => true))
def ordL (J : Env) (ops : Array Oper) : Nat → List Nat → List Nat
  | 0, acc => acc.reverse
  | k + 1, acc =>
    let rdy := (List.range ops.size).filter fun i => !acc.contains i && (match ops[i]? with | some o => o.after.all fun e => !Region.binds .any e || acc.contains e.on | none => false)
    match rdy.find? (fun i => !effAt J ops i) with
    | some i => ordL J ops k (i :: acc)
    | none => match rdy.find? (fun i => match ops[i]? with | some o => !lateO o | none => true) with
      | some i => ordL J ops k (i :: acc)
      | none => match rdy with
        | i :: _ => ordL J ops k (i :: acc)
        | [] => acc.reverse
def arrange (J : Env) (ops : Array Oper) : Array Oper :=
  let order := ordL J ops ops.size []
  if permOk order ops then permO order ops else ops

section
variable {order : List Nat} {ops : Array Oper}
structure PermFacts (order : List Nat) (ops : Array Oper) : Prop where
  size : (permO order ops).size = ops.size
  lt : ∀ i, i < ops.size → order.idxOf i < ops.size
  get : ∀ i o, ops[i]? = some o → (permO order ops)[order.idxOf i]? = some (renO order o)
  onto : ∀ p, p < ops.size → ∃ i, i < ops.size ∧ order.idxOf i = p
  inj : ∀ i j, i < ops.size → j < ops.size → order.idxOf i = order.idxOf j → i = j
  edge : ∀ o ∈ ops, ∀ e ∈ o.after, e.on < ops.size
  guard : ∀ o ∈ ops, ∀ p, o.guard = some p → p.1 < ops.size
theorem permOk_facts (h : permOk order ops = true) : PermFacts order ops := by
  unfold permOk at h
  simp only [Bool.and_eq_true, decide_eq_true_eq, List.all_eq_true, List.mem_range] at h
  obtain ⟨⟨h1, h2⟩, h3⟩ := h
  have h3' := Array.all_eq_true'.1 h3
  refine ⟨by simp [permO, h1], fun i hi => (h2 i hi).1.1.1, fun i o ho => ?_, fun p hp => ⟨order.getD p 0, (h2 p hp).1.2, (h2 p hp).2⟩, fun i j hi hj e => ?_, fun o ho e he => ?_, fun o ho p hp => ?_⟩
  · have hi := (Array.getElem?_eq_some_iff.1 ho).1
    have h4 := (h2 i hi).1.1.2
    simp only [permO, List.getElem?_toArray, List.getElem?_map, h4, Option.map_some, ho, Option.getD_some]
  · have a := (h2 i hi).1.1.2
    have b := (h2 j hj).1.1.2
    rw [e, b] at a
    exact (Option.some.inj a).symm
  · have := h3' o ho
    simp only [Bool.and_eq_true] at this
    have h5 := Array.all_eq_true'.1 this.1 e he
    simpa using h5
  · have := h3' o ho
    simp only [Bool.and_eq_true, hp] at this
    simpa using this.2
theorem execOp_ren (ρ : Operand → Value) (o : Oper) : execOp ρ (renO order o) = execOp ρ o := by
  obtain ⟨dst, op, type, pos, after, guard⟩ := o
  cases op <;> rfl
theorem wanted_ren (hp : PermFacts order ops) {o : Oper} (ho : o ∈ ops) (tmps : Array Value) : Region.wanted (renO order o) (yielded (permO order ops) tmps) = Region.wanted o (yielded ops tmps) := by
  unfold Region.wanted renO
  cases hg : o.guard with
  | none => rfl
  | some p =>
    obtain ⟨j, want⟩ := p
    have hj := hp.guard o ho _ hg
    simp only [Option.map_some]
    unfold yielded
    have e1 := Array.getElem?_eq_getElem hj
    rw [hp.get j _ e1, e1]
    rfl
theorem ready_ren (hp : PermFacts order ops) {listed listed' : Array Bool} (_hs : listed.size = ops.size) (_hs' : listed'.size = ops.size) (hl : ∀ i, i < ops.size → listed'[order.idxOf i]? = listed[i]?) {i : Nat} (hi : i < ops.size) :
    order.idxOf i ∈ Region.ready .any (permO order ops) listed' ↔ i ∈ Region.ready .any ops listed := by
  unfold Region.ready
  rw [List.mem_filter, List.mem_filter, List.mem_range, List.mem_range, hp.size]
  have e1 := Array.getElem?_eq_getElem hi
  rw [hp.get i _ e1, e1]
  have e2 : listed'.getD (order.idxOf i) true = listed.getD i true := by
    rw [Array.getD_eq_getD_getElem?, Array.getD_eq_getD_getElem?, hl i hi]
  rw [e2]
  simp only [hp.lt i hi, hi, true_and, Option.map_some, Option.getD_some, Bool.and_eq_true]
  have e3 : ((renO order ops[i]).after.all fun e => !Region.binds .any e || listed'.getD e.on false) = (ops[i].after.all fun e => !Region.binds .any e || listed.getD e.on false) := by
    rw [Bool.eq_iff_iff, Array.all_eq_true', Array.all_eq_true']
    have hb : ∀ e : Edge, Region.binds .any { e with on := order.idxOf e.on } = Region.binds .any e := fun e => rfl
    have hg : ∀ e ∈ ops[i].after, listed'.getD (order.idxOf e.on) false = listed.getD e.on false := fun e he => by
      have := hp.edge ops[i] (Array.getElem_mem hi) e he
      rw [Array.getD_eq_getD_getElem?, Array.getD_eq_getD_getElem?, hl _ this]
    constructor
    · intro h e he
      have := h { e with on := order.idxOf e.on } (by simp only [renO]; exact Array.mem_map.2 ⟨e, he, rfl⟩)
      rw [hb] at this
      dsimp only at this
      rw [hg e he] at this
      exact this
    · intro h e he
      simp only [renO, Array.mem_map] at he
      obtain ⟨e0, he0, rfl⟩ := he
      rw [hb]
      dsimp only
      rw [hg e0 he0]
      exact h e0 he0
  rw [e3]
theorem wpAny_perm {P : Program} (hp : PermFacts order ops) {Q : Exit → Act → World → Prop} : ∀ (fuel : Nat) (listed listed' : Array Bool) (a : Act) (w : World), listed.size = ops.size → listed'.size = ops.size → (∀ i, i < ops.size → listed'[order.idxOf i]? = listed[i]?) →
    wpAny P .any (permO order ops) Q fuel listed' a w → wpAny P .any ops Q fuel listed a w := by
  have empty : ∀ (listed listed' : Array Bool), listed.size = ops.size → listed'.size = ops.size → (∀ i, i < ops.size → listed'[order.idxOf i]? = listed[i]?) → (Region.ready .any (permO order ops) listed' = [] ↔ Region.ready .any ops listed = []) := fun listed listed' hs hs' hl => by
    constructor
    · intro h
      rw [List.eq_nil_iff_forall_not_mem]
      intro i hi
      have hlt : i < ops.size := by
        unfold Region.ready at hi
        exact List.mem_range.1 (List.mem_filter.1 hi).1
      have := (ready_ren hp hs hs' hl hlt).2 hi
      rw [h] at this
      simp at this
    · intro h
      rw [List.eq_nil_iff_forall_not_mem]
      intro p hpm
      have hlt : p < ops.size := by
        unfold Region.ready at hpm
        have := List.mem_range.1 (List.mem_filter.1 hpm).1
        rwa [hp.size] at this
      obtain ⟨i, hi, rfl⟩ := hp.onto p hlt
      have := (ready_ren hp hs hs' hl hi).1 hpm
      rw [h] at this
      simp at this
  intro fuel
  induction fuel with
  | zero =>
    intro listed listed' a w hs hs' hl h
    exact ⟨(empty listed listed' hs hs' hl).1 h.1, h.2⟩
  | succ fuel ih =>
    intro listed listed' a w hs hs' hl h
    refine ⟨fun h0 => h.1 ((empty listed listed' hs hs' hl).2 h0), fun i hi => ?_⟩
    have hlt : i < ops.size := by
      unfold Region.ready at hi
      exact List.mem_range.1 (List.mem_filter.1 hi).1
    have h1 := h.2 (order.idxOf i) ((ready_ren hp hs hs' hl hlt).2 hi)
    have e1 := Array.getElem?_eq_getElem hlt
    have next : ∀ a w, wpAny P .any (permO order ops) Q fuel (listed'.setIfInBounds (order.idxOf i) true) a w → wpAny P .any ops Q fuel (listed.setIfInBounds i true) a w := fun a w h2 => by
      refine ih _ _ a w (by simp [hs]) (by simp [hs']) (fun j hj => ?_) h2
      by_cases hji : j = i
      · subst hji
        rw [Array.getElem?_setIfInBounds_self_of_lt (by rw [hs']; exact hp.lt j hj), Array.getElem?_setIfInBounds_self_of_lt (by omega)]
      · rw [Array.getElem?_setIfInBounds_ne (fun e => hji (hp.inj _ _ hlt hj e).symm), Array.getElem?_setIfInBounds_ne (Ne.symm hji)]
        exact hl j hj
    unfold wpOp at h1 ⊢
    rw [hp.get i _ e1] at h1
    rw [e1]
    dsimp only at h1 ⊢
    rw [wanted_ren hp (Array.getElem_mem hlt)] at h1
    have hd : (renO order ops[i]).dst = ops[i].dst := rfl
    split
    · rename_i hw
      rw [if_pos hw] at h1
      rcases h1 with h1 | ⟨h1, h2⟩
      · left
        unfold Oper.wp at h1 ⊢
        rw [execOp_ren] at h1
        have hu : ∀ (r : Result Next), (renO order ops[i]).upon P a (wpAny P .any (permO order ops) Q fuel (listed'.setIfInBounds (order.idxOf i) true)) Q r → ops[i].upon P a (wpAny P .any ops Q fuel (listed.setIfInBounds i true)) Q r := fun r hr => by
          cases r with
          | ok n w' =>
            cases n <;> simp only [Oper.upon, hd] at hr ⊢ <;>
              first
                | exact next _ _ hr
                | exact Calls.mono hr (fun e w'' he => by cases e <;> first | exact next _ _ he | exact he)
                | exact Rows.mono hr (fun _ _ he => next _ _ he)
          | halt x w' => cases x <;> simp only [Oper.upon] at hr ⊢ <;> first | exact hr
        exact hu _ h1
      · right
        refine ⟨?_, h2⟩
        unfold Oper.asks at h1 ⊢
        rw [execOp_ren] at h1
        exact h1
    · rename_i hw
      rw [if_neg hw] at h1
      rw [hd] at h1
      exact next _ _ h1
theorem region_perm {P : Program} (hm : P.follows .mixedOrders = true) (hp : PermFacts order ops) {id : Nat} {Q : Exit → Act → World → Prop} {a : Act} {w : World}
    (h : wpAny P .any (permO order ops) Q (permO order ops).size (Array.replicate (permO order ops).size false) a { w with drawn := w.drawn + 1 }) : (Code.region id ops true).wp P Q a w := by
  refine wp_region_any hm ?_
  rw [hp.size] at h
  refine wpAny_perm hp ops.size _ _ a _ (by simp) (by simp) (fun i hi => ?_) h
  rw [Array.getElem?_replicate, Array.getElem?_replicate, if_pos hi, if_pos (hp.lt i hi)]
end
theorem arrange_mem {J : Env} {ops : Array Oper} {p : Oper → Bool} (h : ∀ o ∈ ops, p o = true) (hr : ∀ l o, p (renO l o) = p o) : ∀ o ∈ arrange J ops, p o = true := by
  unfold arrange
  dsimp only
  split
  · rename_i hp
    have hf := permOk_facts hp
    intro o ho
    obtain ⟨k, hk, rfl⟩ := Array.mem_iff_getElem.1 ho
    rw [hf.size] at hk
    obtain ⟨i, hi, rfl⟩ := hf.onto k hk
    have e1 := hf.get i _ (Array.getElem?_eq_getElem hi)
    rw [Array.getElem?_eq_getElem (by rw [hf.size]; exact hk)] at e1
    rw [Option.some.inj e1, hr]
    exact h _ (Array.getElem_mem hi)
  · exact h
section
variable {J : Env} {B : Bd}
theorem draw_wp {K : Nat → Prop} {ops : Array Oper} (hK : ∀ t, K t → ∀ o ∈ ops, o.dst ≠ some t) {call : CallR} (hcall : ∀ B, CallSound J B call) {T T' : Regs} {H H' : IH} {x : IX} {ι : Emb} {w : World} {a : Act} (hS : Sim J B ι H w) (hR : RegsRel ι H.next T a.tmps)
    (hops : ∀ o ∈ ops, opOk J a.tmps.size o = true) (hrok : regionOk J (arrange J ops) = true) (h : idraw J call (arrange J ops) T H = some (x, T', H')) (id : Nat) (hm : J.P.follows .mixedOrders = true) :
    (Code.region id ops true).wp J.P (CodePost J B K ι H.next w a x T' H') a w := by
  have hops' := arrange_mem (J := J) hops fun _ _ => rfl
  have hK' : ∀ t, K t → ∀ q, dstAt (arrange J ops) q ≠ some t := fun t ht q hq => by
    unfold dstAt at hq
    cases ho : (arrange J ops)[q]? with
    | none => rw [ho] at hq; cases hq
    | some o =>
      rw [ho] at hq
      have := arrange_mem (J := J) (p := fun o => o.dst != some t) (fun o ho => by simpa using hK t ht o ho) (fun _ _ => rfl) o (Array.mem_of_getElem? ho)
      have h3 : o.dst = some t := hq
      rw [h3] at this
      simp at this
  have hany := draw_any hK' hcall hS hR hops' hrok h
  unfold arrange at hany
  dsimp only at hany
  split at hany
  · rename_i hp
    exact region_perm hm (permOk_facts hp) hany
  · exact wp_region_any hm hany
end
end Go.Proofs.YtchlbfmjnhgpgaaGreat.Idl
namespace Go.Proofs.YtchlbfmjnhgpgaaGreat.Idl
open Go Go.RowKit

def icode (J : Env) (call : CallR) : Nat → Code → Regs → IH → Option (IX × Regs × IH)
  | 0, _, _, _ => none
  | k + 1, c, T, H => match c with
    | .skip => some (.normal, T, H)
    | .label _ => some (.normal, T, H)
    | .region _ ops draw => if draw then idraw J call (arrange J ops) T H else iops J call ops ops.toList T H
    | .seq a b => match icode J call k a T H with
      | some (.normal, T', H') => icode J call k b T' H'
      | r => r
    | .cond c x y => match iev T c with
      | .bool true => icode J call k x T H
      | .bool false => icode J call k y T H
      | _ => none
    | .block id body => match icode J call k body T H with
      | some (.exit id', T', H') => if id' = id then some (.normal, T', H') else some (.exit id', T', H')
      | r => r
    | .loop body => match icode J call k body T H with
      | some (.normal, T', H') => icode J call k (.loop body) T' H'
      | r => r
    | .exit id => some (.exit id, T, H)
    | .ret => some (.ret, T, H)
    | .scope body => icode J call k body T H
    | _ => none
def codeOk (J : Env) (N : Nat) : Code → Bool
  | .region _ ops draw => ops.all (opOk J N) && (!draw || regionOk J (arrange J ops))
  | .seq a b => codeOk J N a && codeOk J N b
  | .cond c x y => operandOk J c && codeOk J N x && codeOk J N y
  | .block _ c => codeOk J N c
  | .loop c => codeOk J N c
  | .scope c => codeOk J N c
  | _ => true
def keepsC : Code → Nat → Bool
  | .region _ ops _, t => ops.all fun o => o.dst != some t
  | .seq a b, t => keepsC a t && keepsC b t
  | .cond _ x y, t => keepsC x t && keepsC y t
  | .block _ c, t => keepsC c t
  | .loop c, t => keepsC c t
  | .scope c, t => keepsC c t
  | _, _ => true
/-! ### Deferred calls -/
inductive RS where
  | ret
  | pan (v : Value)
  | reco (v : Value)
def RS.settle : RS → RS
  | .reco _ => .ret
  | u => u
def isRecover (o : Oper) : Bool :=
  match o.op with
  | .call ⟨.builtin .recover, _, _⟩ => true
  | _ => false
def isDefer (o : Oper) : Bool :=
  match o.op with
  | .defer _ => true
  | _ => false
def iopsS (J : Env) (call : CallR) (ops : Array Oper) : List Oper → Regs → IH → RS → Option (IX × Regs × IH × RS)
  | [], T, H, u => some (.normal, T, H, u)
  | o :: r, T, H, u =>
    if wantedR ops T o then
      if isRecover o then
        match u with
        | .pan v => iopsS J call ops r (putR T o.dst v) H (.reco v)
        | u => iopsS J call ops r (putR T o.dst .nilIface) H u
      else match iexec J call o T H with
        | some (.ret v, H') => iopsS J call ops r (putR T o.dst v) H' u
        | _ => none
    else iopsS J call ops r (putR T o.dst undef) H u
def icodeS (J : Env) (call : CallR) (k : Nat) : Code → Regs → IH → RS → Option (IX × Regs × IH × RS)
  | .seq a b, T, H, u => match icodeS J call k a T H u with
    | some (.normal, T', H', u') => icodeS J call k b T' H' u'
    | r => r
  | .region _ ops false, T, H, u => iopsS J call ops ops.toList T H u
  | c, T, H, u => match icode J call k c T H with
    | some (.pan _, _, _) => none
    | some (x, T', H') => some (x, T', H', u)
    | none => none
abbrev Defs := List (FuncId × List Value)
def deferR (T : Regs) (o : Oper) : Option (FuncId × List Value) :=
  match o.op with
  | .defer c => match c.callee with
    | .value f => match iev T f with
      | .func (.func g) first captured => some (g, (first ++ c.args.map (iev T) ++ captured).toList)
      | _ => none
    | _ => none
  | _ => none
def iopsD (J : Env) (call : CallR) (ops : Array Oper) : List Oper → Regs → IH → Defs → Option (IX × Regs × IH × Defs)
  | [], T, H, D => some (.normal, T, H, D)
  | o :: r, T, H, D =>
    if wantedR ops T o then
      if isDefer o then match deferR T o with
        | some d => if hasBody J d.1 then iopsD J call ops r (putR T o.dst undef) H (d :: D) else none
        | none => none
      else match iexec J call o T H with
        | some (.ret v, H') => iopsD J call ops r (putR T o.dst v) H' D
        | some (.pan v, H') => some (.pan v, T, H', D)
        | none => none
    else iopsD J call ops r (putR T o.dst undef) H D
def icodeD (J : Env) (call : CallR) (k : Nat) (Ks : List Tmp) : Code → Regs → IH → Defs → Option (IX × Regs × IH × Defs)
  | .seq a b, T, H, D => match icodeD J call k Ks a T H D with
    | some (.normal, T', H', D') => icodeD J call k Ks b T' H' D'
    | r => r
  | .region _ ops false, T, H, D => iopsD J call ops ops.toList T H D
  | c, T, H, D => match icode J call k c T H with
    | some (.pan v, T', H') => if Ks.all (keepsC c) then some (.pan v, T', H', D) else none
    | some (x, T', H') => some (x, T', H', D)
    | none => none
def icallD (J : Env) (okf : FuncId → Bool) (call : CallR) (k : Nat) (g : FuncId) (args : List Value) (u : RS) (H : IH) : Option (IH × RS) :=
  if okf g then match J.fn g with
  | some fn => match fn.body with
    | some c => if args.length ≤ fn.ntmps then
        match icodeS J call k c (regsOf args 0 .leaf) H u with
        | some (.normal, T', H', u') => (iresults J fn T' H').map fun _ => (H', u')
        | some (.ret, T', H', u') => (iresults J fn T' H').map fun _ => (H', u')
        | _ => none
      else none
    | none => none
  | none => none
  else none
def idefers (J : Env) (okf : FuncId → Bool) (call : CallR) (k : Nat) : Defs → RS → IH → Option (RS × IH)
  | [], u, H => some (u, H)
  | d :: D, u, H => match icallD J okf call k d.1 d.2 u H with
    | some (H', u') => idefers J okf call k D u'.settle H'
    | none => none
def cellRegs (rs : List ResultVar) : List Tmp := rs.filterMap fun | .cell a _ => some a | .tmp _ => none
def allCells (rs : List ResultVar) : Bool := rs.all fun | .cell _ _ => true | .tmp _ => false
def iend (J : Env) (fn : Func) (T : Regs) (all : Bool) (r : Option (RS × IH)) : Option (IE × IH) :=
  match r with
  | some (.ret, H') => if all then (iresults J fn T H').map fun v => (.ret v, H') else none
  | some (.pan v, H') => some (.pan v, H')
  | _ => none
def icallF (J : Env) (okf : FuncId → Bool) (call : CallR) (k : Nat) (fn : Func) (c : Code) (args : Array Value) (H : IH) : Option (IE × IH) :=
  match icodeD J call k (cellRegs fn.results.toList) c (regsOf args.toList 0 .leaf) H [] with
  | some (.normal, T', H', D) => iend J fn T' true (idefers J okf call k D .ret H')
  | some (.ret, T', H', D) => iend J fn T' true (idefers J okf call k D .ret H')
  | some (.pan v, T', H', D) => iend J fn T' (allCells fn.results.toList) (idefers J okf call k D (.pan v) H')
  | _ => none
def icall (J : Env) (okf : FuncId → Bool) : Nat → CallR
  | 0, _, _, _ => none
  | k + 1, f, args, H => match J.hook f args.toList with
    | some v => some (.ret v, H)
    | none => if okf f then
      match J.fn f with
      | some fn => match fn.body with
        | some c => if args.size ≤ fn.ntmps then
            if J.dfr f then icallF J okf (icall J okf k) k fn c args H else
            match icode J (icall J okf k) k c (regsOf args.toList 0 .leaf) H with
            | some (.normal, T', H') => (iresults J fn T' H').map fun v => (.ret v, H')
            | some (.ret, T', H') => (iresults J fn T' H').map fun v => (.ret v, H')
            | some (.pan v, _, H') => some (.pan v, H')
            | _ => none
          else none
        | none => none
      | none => none
    else none

section
variable {J : Env} {B : Bd}
theorem CodePost.trans {K : Nat → Prop} {ι ι1 : Emb} {n n1 : Nat} {w w1 : World} {a a1 : Act} {x : IX} {T' : Regs} {H' : IH} (h1 : Ext ι n ι1 n1) (h2 : Below B w w1) (h3 : a1.defers = a.defers) (h4 : a1.tmps.size = a.tmps.size) {e : Exit} {a' : Act} {w' : World}
    (h : CodePost J B K ι1 n1 w1 a1 x T' H' e a' w') : CodePost J B K ι n w a x T' H' e a' w' := by
  obtain ⟨ι2, v, q1, q2, q3, q4, q5, q6, q7⟩ := h
  exact ⟨ι2, v, q1, q2, h1.trans q3, h2.trans q4, q5.trans h3, q6.trans h4, q7⟩
theorem icode_wp {K : Nat → Prop} {call : CallR} (hm : J.P.follows .mixedOrders = true) (hcall : ∀ B, CallSound J B call) : ∀ (k : Nat),
    (∀ (c : Code) (ι : Emb) (H : IH) (w : World) (T : Regs) (a : Act) (x : IX) (T' : Regs) (H' : IH), Sim J B ι H w → RegsRel ι H.next T a.tmps → codeOk J a.tmps.size c = true → (∀ t, K t → keepsC c t = true) → icode J call k c T H = some (x, T', H') →
      c.wp J.P (CodePost J B K ι H.next w a x T' H') a w) ∧
    (∀ (c : Code) (ι : Emb) (H : IH) (w : World) (T : Regs) (a : Act) (x : IX) (T' : Regs) (H' : IH), Sim J B ι H w → RegsRel ι H.next T a.tmps → codeOk J a.tmps.size c = true → (∀ t, K t → keepsC c t = true) → icode J call k (.loop c) T H = some (x, T', H') →
      ∀ (b : Frame) (kk : List Item) (cs : List Frame), ∃ e a' w', CodePost J B K ι H.next w a x T' H' e a' w' ∧ Arrives J.P (lone (b.at a (.code c :: .inLoop c :: kk)) cs w) b kk cs e a' w') := by
  intro k
  induction k with
  | zero => exact ⟨fun c ι H w T a x T' H' _ _ _ _ h => by simp [icode] at h, fun c ι H w T a x T' H' _ _ _ _ h => by simp [icode] at h⟩
  | succ k ih =>
    have hloop : ∀ (c : Code) (ι : Emb) (H : IH) (w : World) (T : Regs) (a : Act) (x : IX) (T' : Regs) (H' : IH), Sim J B ι H w → RegsRel ι H.next T a.tmps → codeOk J a.tmps.size c = true → (∀ t, K t → keepsC c t = true) → icode J call (k + 1) (.loop c) T H = some (x, T', H') →
      ∀ (b : Frame) (kk : List Item) (cs : List Frame), ∃ e a' w', CodePost J B K ι H.next w a x T' H' e a' w' ∧ Arrives J.P (lone (b.at a (.code c :: .inLoop c :: kk)) cs w) b kk cs e a' w' := by
      intro c ι H w T a x T' H' hS hR hok hK h b kk cs
      simp only [icode] at h
      cases hb : icode J call k c T H with
      | none => simp [hb] at h
      | some r =>
        obtain ⟨x1, T1, H1⟩ := r
        obtain ⟨e, a1, w1, ⟨ι1, v, q1, q2, q3, q4, q5, q6, q7⟩, harr⟩ := ih.1 c ι H w T a x1 T1 H1 hS hR hok hK hb b (.inLoop c :: kk) cs
        subst q1
        cases x1 with
        | normal =>
          simp only [hb] at h
          obtain ⟨e2, a2, w2, p1, p2⟩ := ih.2 c ι1 H1 w1 T1 a1 x T' H' q2 q7 (by rw [q6]; exact hok) hK h b kk cs
          exact ⟨e2, a2, w2, p1.trans q3 q4 q5 q6, .of_steps (Steps.trans harr (.one step_inLoop)) p2⟩
        | exit id =>
          simp only [hb, Option.some.injEq, Prod.mk.injEq] at h
          obtain ⟨rfl, rfl, rfl⟩ := h
          exact ⟨_, a1, w1, ⟨ι1, v, rfl, q2, q3, q4, q5, q6, q7⟩, .pass (x := .inLoop c) rfl (fun _ _ => .inl (by simp [toExit])) harr⟩
        | ret =>
          simp only [hb, Option.some.injEq, Prod.mk.injEq] at h
          obtain ⟨rfl, rfl, rfl⟩ := h
          exact ⟨_, a1, w1, ⟨ι1, v, rfl, q2, q3, q4, q5, q6, q7⟩, .pass (x := .inLoop c) rfl (fun _ _ => .inl (by simp [toExit])) harr⟩
        | pan u =>
          simp only [hb, Option.some.injEq, Prod.mk.injEq] at h
          obtain ⟨rfl, rfl, rfl⟩ := h
          exact ⟨_, a1, w1, ⟨ι1, v, rfl, q2, q3, q4, q5, q6, q7⟩, .pass (x := .inLoop c) rfl (fun _ _ => .inl (by simp [toExit])) harr⟩
    refine ⟨fun c ι H w T a x T' H' hS hR hok hK h => ?_, hloop⟩
    cases c with
    | skip =>
      simp only [icode, Option.some.injEq, Prod.mk.injEq] at h
      obtain ⟨rfl, rfl, rfl⟩ := h
      exact wp_skip ⟨ι, undef, rfl, hS, Ext.refl _ _, Below.refl _ _, rfl, rfl, hR⟩
    | label l =>
      simp only [icode, Option.some.injEq, Prod.mk.injEq] at h
      obtain ⟨rfl, rfl, rfl⟩ := h
      exact wp_label ⟨ι, undef, rfl, hS, Ext.refl _ _, Below.refl _ _, rfl, rfl, hR⟩
    | region id ops draw =>
      simp only [icode] at h
      simp only [codeOk, Bool.and_eq_true] at hok
      obtain ⟨hok, hrok⟩ := hok
      cases draw with
      | true =>
        simp only [if_true] at h
        exact draw_wp (fun t ht o ho h3 => by
          have h1 := hK t ht
          simp only [keepsC, Array.all_eq_true'] at h1
          have h2 := h1 o ho
          rw [h3] at h2
          simp at h2) hcall hS hR (fun o ho => Array.all_eq_true'.1 hok o ho) (by simpa using hrok) h id hm
      | false =>
        simp only [Bool.false_eq_true, if_false] at h
        exact wp_region_list (iops_wp (hcall _) ops ops.toList ι H w T a x T' H' hS hR (fun o ho => Array.all_eq_true'.1 hok o (by simpa using ho)) h)
    | seq c1 c2 =>
      simp only [codeOk, Bool.and_eq_true] at hok
      simp only [icode] at h
      cases hb : icode J call k c1 T H with
      | none => simp [hb] at h
      | some r =>
        obtain ⟨x1, T1, H1⟩ := r
        refine wp_seq (Code.wp_mono ?_ (ih.1 c1 ι H w T a x1 T1 H1 hS hR hok.1 (fun t ht => by have := hK t ht; simp only [keepsC, Bool.and_eq_true] at this; exact this.1) hb))
        rintro e a1 w1 ⟨ι1, v, q1, q2, q3, q4, q5, q6, q7⟩
        subst q1
        cases x1 with
        | normal =>
          simp only [hb] at h
          exact Code.wp_mono (fun e a2 w2 p => p.trans q3 q4 q5 q6) (ih.1 c2 ι1 H1 w1 T1 a1 x T' H' q2 q7 (by rw [q6]; exact hok.2) (fun t ht => by have := hK t ht; simp only [keepsC, Bool.and_eq_true] at this; exact this.2) h)
        | exit id =>
          simp only [hb, Option.some.injEq, Prod.mk.injEq] at h
          obtain ⟨rfl, rfl, rfl⟩ := h
          exact ⟨ι1, v, rfl, q2, q3, q4, q5, q6, q7⟩
        | ret =>
          simp only [hb, Option.some.injEq, Prod.mk.injEq] at h
          obtain ⟨rfl, rfl, rfl⟩ := h
          exact ⟨ι1, v, rfl, q2, q3, q4, q5, q6, q7⟩
        | pan u =>
          simp only [hb, Option.some.injEq, Prod.mk.injEq] at h
          obtain ⟨rfl, rfl, rfl⟩ := h
          exact ⟨ι1, v, rfl, q2, q3, q4, q5, q6, q7⟩
    | cond c c1 c2 =>
      simp only [codeOk, Bool.and_eq_true] at hok
      have hc := operand_rel hS hR hok.1.1
      simp only [icode] at h
      split at h
      · rename_i e
        rw [e] at hc
        have he : a.eval c = .bool true := by cases hra : a.eval c <;> rw [hra] at hc <;> cases hc; rfl
        exact wp_cond_true he (ih.1 c1 ι H w T a x T' H' hS hR hok.1.2 (fun t ht => by have := hK t ht; simp only [keepsC, Bool.and_eq_true] at this; exact this.1) h)
      · rename_i e
        rw [e] at hc
        have he : a.eval c = .bool false := by cases hra : a.eval c <;> rw [hra] at hc <;> cases hc; rfl
        exact wp_cond_false he (ih.1 c2 ι H w T a x T' H' hS hR hok.2 (fun t ht => by have := hK t ht; simp only [keepsC, Bool.and_eq_true] at this; exact this.2) h)
      · simp at h
    | block id c =>
      simp only [icode] at h
      simp only [codeOk] at hok
      cases hb : icode J call k c T H with
      | none => simp [hb] at h
      | some r =>
        obtain ⟨x1, T1, H1⟩ := r
        refine wp_block (Code.wp_mono ?_ (ih.1 c ι H w T a x1 T1 H1 hS hR hok (fun t ht => hK t ht) hb))
        rintro e a1 w1 ⟨ι1, v, q1, q2, q3, q4, q5, q6, q7⟩
        subst q1
        cases x1 with
        | exit id' =>
          simp only [hb] at h
          simp only [toExit, Exit.inBlock]
          split at h
          · rename_i hid
            rw [if_pos hid]
            simp only [Option.some.injEq, Prod.mk.injEq] at h
            obtain ⟨rfl, rfl, rfl⟩ := h
            exact ⟨ι1, undef, rfl, q2, q3, q4, q5, q6, q7⟩
          · rename_i hid
            rw [if_neg hid]
            simp only [Option.some.injEq, Prod.mk.injEq] at h
            obtain ⟨rfl, rfl, rfl⟩ := h
            exact ⟨ι1, v, rfl, q2, q3, q4, q5, q6, q7⟩
        | normal =>
          simp only [hb, Option.some.injEq, Prod.mk.injEq] at h
          obtain ⟨rfl, rfl, rfl⟩ := h
          exact ⟨ι1, v, rfl, q2, q3, q4, q5, q6, q7⟩
        | ret =>
          simp only [hb, Option.some.injEq, Prod.mk.injEq] at h
          obtain ⟨rfl, rfl, rfl⟩ := h
          exact ⟨ι1, v, rfl, q2, q3, q4, q5, q6, q7⟩
        | pan u =>
          simp only [hb, Option.some.injEq, Prod.mk.injEq] at h
          obtain ⟨rfl, rfl, rfl⟩ := h
          exact ⟨ι1, v, rfl, q2, q3, q4, q5, q6, q7⟩
    | loop c =>
      intro b kk cs
      obtain ⟨e, a', w', h1, h2⟩ := hloop c ι H w T a x T' H' hS hR hok (fun t ht => hK t ht) h b kk cs
      exact ⟨e, a', w', h1, .of_steps (.one step_loop) h2⟩
    | exit id =>
      simp only [icode, Option.some.injEq, Prod.mk.injEq] at h
      obtain ⟨rfl, rfl, rfl⟩ := h
      exact wp_exit ⟨ι, undef, rfl, hS, Ext.refl _ _, Below.refl _ _, rfl, rfl, hR⟩
    | ret =>
      simp only [icode, Option.some.injEq, Prod.mk.injEq] at h
      obtain ⟨rfl, rfl, rfl⟩ := h
      exact wp_ret ⟨ι, undef, rfl, hS, Ext.refl _ _, Below.refl _ _, rfl, rfl, hR⟩
    | rangeFunc => simp [icode] at h
    | scope c =>
      simp only [icode] at h
      simp only [codeOk] at hok
      refine wp_scope_straight (Code.wp_mono ?_ (ih.1 c ι H w T a x T' H' hS hR hok (fun t ht => hK t ht) h))
      rintro e a1 w1 ⟨ι1, v, q1, q⟩
      subst q1
      cases x <;> exact ⟨ι1, v, rfl, q⟩
    | goto => simp [icode] at h
    | refuse => simp [icode] at h

theorem regsOf_at : ∀ (l : List Value) (i : Nat) (T : Regs) (t : Nat), (regsOf l i T).at t = if i ≤ t then (match l[t - i]? with | some v => v | none => T.at t) else T.at t := by
  intro l
  induction l with
  | nil => intro i T t; simp [regsOf]
  | cons v l ih =>
    intro i T t
    simp only [regsOf]
    rw [ih, at_set]
    by_cases h1 : i + 1 ≤ t
    · rw [if_pos h1, if_pos (show i ≤ t by omega), if_neg (show ¬ t = i by omega)]
      rw [show t - i = (t - (i + 1)) + 1 by omega, List.getElem?_cons_succ]
    · rw [if_neg h1]
      by_cases h2 : t = i
      · subst h2; simp
      · rw [if_neg h2, if_neg (by omega)]
theorem regsOf_rel {ι : Emb} {n N : Nat} {args args' : Array Value} (h : LRel ι n args.toList args'.toList) : RegsRel ι n (regsOf args.toList 0 .leaf) (args' ++ Array.replicate (N - args'.size) undef) := by
  intro t
  rw [regsOf_at]
  simp only [Nat.zero_le, if_true, Nat.sub_zero]
  cases hx : args.toList[t]? with
  | some v =>
    obtain ⟨y, hy, hr⟩ := h.get hx
    have hlt := (List.getElem?_eq_some_iff.1 hy).1
    simp at hlt
    have : (args' ++ Array.replicate (N - args'.size) undef).getD t undef = y := by
      rw [Array.getD_eq_getD_getElem?, Array.getElem?_append_left hlt, ← Array.getElem?_toList, hy]; rfl
    rw [this]; exact hr
  | none =>
    have hge : args'.size ≤ t := by
      have := List.getElem?_eq_none_iff.1 hx
      have := h.1
      simp at *; omega
    have : (args' ++ Array.replicate (N - args'.size) undef).getD t undef = undef := by
      rw [Array.getD_eq_getD_getElem?, Array.getElem?_append_right hge, Array.getElem?_replicate]
      split <;> rfl
    rw [this]; exact VRel.undef
def rreg : ResultVar → Tmp
  | .tmp t => t
  | .cell a _ => a
theorem results_list {ι : Emb} {H : IH} {w : World} {T : Regs} {tmps : Array Value} (hS : Sim J B ι H w) (g : ResultVar → Sem Value)
    (hg1 : ∀ t, g (.tmp t) = pure (tmps.getD t undef)) (hg2 : ∀ a t, g (.cell a t) = do loadVar t (← asAddr (tmps.getD a undef))) : ∀ (l : List ResultVar) (vs : List Value), (∀ r ∈ l, VRel ι H.next (T.at (rreg r)) (tmps.getD (rreg r) undef)) → l.mapM (iresult1 J T H) = some vs →
    ∃ us, (l.mapM g).run J.P w = .ok us w ∧ LRel ι H.next vs us := by
  intro l
  induction l with
  | nil => intro vs _ h; simp at h; subst h; exact ⟨[], rfl, .nil⟩
  | cons r l ih =>
    intro vs hR h
    rw [List.mapM_cons] at h ⊢
    cases e : iresult1 J T H r with
    | none => simp [e] at h
    | some v =>
      cases e2 : l.mapM (iresult1 J T H) with
      | none => simp [e, e2] at h
      | some vs2 =>
        simp [e, e2] at h
        subst h
        obtain ⟨us, h1, h2⟩ := ih vs2 (fun r hr => hR r (by simp [hr])) e2
        have one : ∃ u, (g r).run J.P w = .ok u w ∧ VRel ι H.next v u := by
          cases r with
          | tmp t =>
            simp only [iresult1, Option.some.injEq] at e
            subst e
            exact ⟨_, by rw [hg1]; rfl, hR (.tmp t) (by simp)⟩
          | cell a t =>
            simp only [iresult1] at e
            split at e
            · rename_i ad had
              have hr := hR _ (List.mem_cons_self)
              simp only [rreg] at hr
              rw [had] at hr
              cases hra : tmps.getD a undef <;> rw [hra] at hr <;> cases hr
              rename_i hA
              obtain ⟨v', h3, h4⟩ := iload_run hS hA e
              refine ⟨v', ?_, h4⟩
              rw [hg2, hra]
              rw [run_bind_ok (show (asAddr (.pointer (some _))).run J.P w = .ok _ w from rfl)]
              exact h3
            · simp at e
        obtain ⟨u, h3, h4⟩ := one
        exact ⟨u :: us, by rw [run_bind_ok h3, run_bind_ok h1]; rfl, .cons h4 h2⟩
theorem results_run' {ι : Emb} {H : IH} {w : World} {T : Regs} {tmps : Array Value} {fn : Func} {v : Value} (hS : Sim J B ι H w) (hR : ∀ r ∈ fn.results.toList, VRel ι H.next (T.at (rreg r)) (tmps.getD (rreg r) undef)) (h : iresults J fn T H = some v) :
    ∃ v', (results fn tmps).run J.P w = .ok v' w ∧ VRel ι H.next v v' := by
  unfold iresults at h
  unfold results
  rw [Array.mapM_eq_mapM_toList]
  split at h
  · rename_i u hu
    cases h
    obtain ⟨us, h1, h2⟩ := results_list hS (fun r => match r with | .tmp t => pure (tmps.getD t undef) | .cell a t => do loadVar t (← asAddr (tmps.getD a undef))) (fun t => rfl) (fun a t => rfl) _ _ hR hu
    have hl : us.length = 1 := by have := h2.1; simpa using this.symm
    match us, hl with
    | [y], _ =>
      refine ⟨y, ?_, h2.2 0 _ y rfl rfl⟩
      exact (run_bind_ok (run_map h1)).trans rfl
  · rename_i vs hne hvs
    cases h
    obtain ⟨us, h1, h2⟩ := results_list hS (fun r => match r with | .tmp t => pure (tmps.getD t undef) | .cell a t => do loadVar t (← asAddr (tmps.getD a undef))) (fun t => rfl) (fun a t => rfl) _ _ hR hvs
    refine ⟨.tuple us.toArray, ?_, .tuple (by simpa using h2.1) fun i x y hx hy => h2.2 i x y (by simpa using hx) (by simpa using hy)⟩
    refine (run_bind_ok (run_map h1)).trans ?_
    have hl : us.toArray.size ≠ 1 := by
      intro e
      have hl2 : vs.length = 1 := by have := h2.1; simp at e; omega
      match vs, hl2 with
      | [y], _ => exact hne y rfl
    rw [dif_neg hl]; rfl
  · simp at h
theorem results_run {ι : Emb} {H : IH} {w : World} {T : Regs} {tmps : Array Value} {fn : Func} {v : Value} (hS : Sim J B ι H w) (hR : RegsRel ι H.next T tmps) (h : iresults J fn T H = some v) :
    ∃ v', (results fn tmps).run J.P w = .ok v' w ∧ VRel ι H.next v v' := results_run' hS (fun _ _ => hR _) h

/-! ### Deferred calls: what they come to -/
inductive URel (ι : Emb) (n : Nat) : RS → FrameMode → Prop
  | ret : URel ι n .ret .returning
  | pan {v v' : Value} (h : VRel ι n v v') : URel ι n (.pan v) (.panicking [{ v := v', recovered := false }])
  | reco {v v' : Value} (h : VRel ι n v v') : URel ι n (.reco v) (.panicking [{ v := v', recovered := true }])
theorem URel.ext {ι ι' : Emb} {n n' : Nat} (he : Ext ι n ι' n') {u : RS} {m : FrameMode} (h : URel ι n u m) : URel ι' n' u m := by
  cases h with
  | ret => exact .ret
  | pan h => exact .pan (h.ext he)
  | reco h => exact .reco (h.ext he)
theorem URel.settle {ι : Emb} {n : Nat} {u : RS} {m : FrameMode} (h : URel ι n u m) : URel ι n u.settle (Go.settle m) := by
  cases h with
  | ret => exact .ret
  | pan h => exact .pan h
  | reco h => exact .ret
theorem URel.run {ι : Emb} {n : Nat} {u : RS} {m : FrameMode} (h : URel ι n u m) : m ≠ .run := by
  cases h <;> intro e <;> cases e
def SPost (J : Env) (B : Bd) (ι : Emb) (n : Nat) (w : World) (a : Act) (c₀ : Frame) (rest : List Frame) (x : IX) (T' : Regs) (H' : IH) (u' : RS) (e : Exit) (a' : Act) (cs' : List Frame) (w' : World) : Prop :=
  ∃ ι' m', e = toExit x undef ∧ (∀ v, x ≠ .pan v) ∧ Sim J B ι' H' w' ∧ Ext ι n ι' H'.next ∧ Below B w w' ∧ a'.defers = a.defers ∧ a'.tmps.size = a.tmps.size ∧ RegsRel ι' H'.next T' a'.tmps ∧ cs' = { c₀ with mode := m' } :: rest ∧ URel ι' H'.next u' m'
theorem SPost.trans {ι ι1 : Emb} {n n1 : Nat} {w w1 : World} {a a1 : Act} {c₀ : Frame} {m1 : FrameMode} {rest : List Frame} {x : IX} {T' : Regs} {H' : IH} {u' : RS} (h1 : Ext ι n ι1 n1) (h2 : Below B w w1) (h3 : a1.defers = a.defers) (h4 : a1.tmps.size = a.tmps.size) {e : Exit} {a' : Act} {cs' : List Frame} {w' : World}
    (h : SPost J B ι1 n1 w1 a1 { c₀ with mode := m1 } rest x T' H' u' e a' cs' w') : SPost J B ι n w a c₀ rest x T' H' u' e a' cs' w' := by
  obtain ⟨ι2, m, q0, q1, q2, q3, q4, q5, q6, q7, q8, q9⟩ := h
  exact ⟨ι2, m, q0, q1, q2, h1.trans q3, h2.trans q4, q5.trans h3, q6.trans h4, q7, q8, q9⟩
theorem wpS_mono {P : Program} {c : Code} {Q Q' : Exit → Act → List Frame → World → Prop} {a : Act} {cs : List Frame} {w : World} (hq : ∀ e a cs w, Q e a cs w → Q' e a cs w) (h : c.wpS P Q a cs w) : c.wpS P Q' a cs w :=
  fun b k h1 h2 => let ⟨e, a', cs', w', q, r⟩ := h b k h1 h2; ⟨e, a', cs', w', hq _ _ _ _ q, r⟩
theorem recover_run {P : Program} {ρ : Operand → Value} {o : Oper} (h : isRecover o = true) (w : World) : (execOp ρ o).run P w = .ok .recover w := by
  obtain ⟨dst, op, type, pos, after, guard⟩ := o
  cases op <;> simp only [isRecover] at h <;> try (cases h; done)
  rename_i c
  obtain ⟨callee, args, at_⟩ := c
  cases callee <;> try (simp at h; done)
  rename_i b
  cases b <;> first | rfl | (simp at h; done)
theorem upon_mono {J : Env} {o : Oper} {a : Act} {K K' : Act → World → Prop} {Q Q' : Exit → Act → World → Prop} (h : ∀ a w, K a w → K' a w) (hq : ∀ e a w, Q e a w → Q' e a w) {r : Result Next}
    (hh : o.upon J.P a K Q r) : o.upon J.P a K' Q' r := by
  cases r with
  | ok n w' =>
    cases n <;> simp only [Oper.upon] at hh ⊢ <;>
      first
        | exact h _ _ hh
        | exact Calls.mono hh (fun e w'' he => by cases e <;> first | exact h _ _ he | exact hq _ _ _ he | exact (let ⟨a0, w0, q⟩ := he; ⟨a0, w0, hq _ _ _ q⟩))
        | exact Rows.mono hh (fun _ _ he => h _ _ he)
  | halt x w' => cases x <;> simp only [Oper.upon] at hh ⊢ <;> first | exact hq _ _ _ hh | exact hh
theorem wpOpsS_mono {J : Env} {ops : Array Oper} {Q Q' : Exit → Act → List Frame → World → Prop} (hq : ∀ e a cs w, Q e a cs w → Q' e a cs w) : ∀ (l : List Nat) (a : Act) (cs : List Frame) (w : World), wpOpsS J.P ops Q l a cs w → wpOpsS J.P ops Q' l a cs w := by
  intro l
  induction l with
  | nil => intro a cs w h; exact hq _ _ _ _ h
  | cons i l ih =>
    intro a cs w h
    simp only [wpOpsS] at h ⊢
    split
    · rename_i e; rw [e] at h; exact ih _ _ _ h
    · rename_i o e
      rw [e] at h
      dsimp only at h
      split
      · rename_i hw
        rw [if_pos hw] at h
        split
        · rename_i w' hr
          rw [hr] at h
          dsimp only at h
          split
          · rename_i hrec; rw [hrec] at h; exact ih _ _ _ h
          · rename_i hrec; rw [hrec] at h; exact ih _ _ _ h
        · rename_i hne
          split at h
          · rename_i w' hr; exact absurd hr (hne w')
          · exact upon_mono (fun a w => ih a cs w) (fun e a w => hq e a cs w) h
      · rename_i hw
        rw [if_neg hw] at h
        exact ih _ _ _ h
theorem iopsS_wp {call : CallR} (hcall : ∀ B, CallSound J B call) (ops : Array Oper) : ∀ (l : List Oper) (k0 : Nat) (ι : Emb) (H : IH) (w : World) (T : Regs) (a : Act) (u : RS) (c₀ : Frame) (rest : List Frame) (x : IX) (T' : Regs) (H' : IH) (u' : RS),
    (∀ j, l[j]? = ops[k0 + j]?) → Sim J B ι H w → RegsRel ι H.next T a.tmps → URel ι H.next u c₀.mode → (∀ o ∈ l, opOk J a.tmps.size o = true) → iopsS J call ops l T H u = some (x, T', H', u') →
    wpOpsS J.P ops (SPost J B ι H.next w a c₀ rest x T' H' u') (List.range' k0 l.length) a (c₀ :: rest) w := by
  intro l
  induction l with
  | nil =>
    intro k0 ι H w T a u c₀ rest x T' H' u' _ hS hR hU _ h
    simp only [iopsS, Option.some.injEq, Prod.mk.injEq] at h
    obtain ⟨rfl, rfl, rfl, rfl⟩ := h
    exact ⟨ι, c₀.mode, rfl, (fun v hv => by cases hv), hS, Ext.refl _ _, Below.refl _ _, rfl, rfl, hR, rfl, hU⟩
  | cons o l ih =>
    intro k0 ι H w T a u c₀ rest x T' H' u' hl hS hR hU hok h
    have ho0 : ops[k0]? = some o := by simpa using (hl 0).symm
    have hl' : ∀ j, l[j]? = ops[k0 + 1 + j]? := fun j => by have := hl (j + 1); simpa [Nat.add_assoc, Nat.add_comm 1 j] using this
    have ho := hok o (by simp)
    have hok' : ∀ o' ∈ l, opOk J a.tmps.size o' = true := fun o' ho' => hok o' (by simp [ho'])
    have hd := dst_lt ho
    rw [List.length_cons, List.range'_succ]
    simp only [wpOpsS, ho0]
    rw [wanted_eq hR ops o]
    simp only [iopsS] at h
    have step : ∀ (v v' : Value) (ι1 : Emb) (H1 : IH) (w1 : World) (u1 : RS) (m1 : FrameMode), Sim J B ι1 H1 w1 → VRel ι1 H1.next v v' → Ext ι H.next ι1 H1.next → Below B w w1 → URel ι1 H1.next u1 m1 → iopsS J call ops l (putR T o.dst v) H1 u1 = some (x, T', H', u') →
        wpOpsS J.P ops (SPost J B ι H.next w a c₀ rest x T' H' u') (List.range' (k0 + 1) l.length) (a.put o.dst v') ({ c₀ with mode := m1 } :: rest) w1 := by
      intro v v' ι1 H1 w1 u1 m1 s1 s2 s3 s4 s5 s6
      have := ih (k0 + 1) ι1 H1 w1 (putR T o.dst v) (a.put o.dst v') u1 { c₀ with mode := m1 } rest x T' H' u' hl' s1 ((hR.ext s3).put s2 hd) s5 (fun o' ho' => by rw [put_size]; exact hok' o' ho') s6
      exact wpOpsS_mono (fun e a2 cs2 w2 p => p.trans s3 s4 (put_defers _ _ _) (put_size _ _ _)) _ _ _ _ this
    have self : ∀ m, m = c₀.mode → ({ c₀ with mode := m } : Frame) = c₀ := fun m hm => by subst hm; rfl
    by_cases hw : wantedR ops T o = true
    · rw [if_pos hw]
      rw [if_pos hw] at h
      by_cases hrec : isRecover o = true
      · rw [if_pos hrec] at h
        rw [recover_run hrec w]
        dsimp only
        generalize hm : c₀.mode = m at hU
        have hnil : ∀ u1, URel ι H.next u1 m → recoverD (c₀ :: rest) = none → iopsS J call ops l (putR T o.dst .nilIface) H u1 = some (x, T', H', u') →
            (match recoverD (c₀ :: rest) with
              | some (v, cs') => wpOpsS J.P ops (SPost J B ι H.next w a c₀ rest x T' H' u') (List.range' (k0 + 1) l.length) (a.put o.dst v) cs' w
              | none => wpOpsS J.P ops (SPost J B ι H.next w a c₀ rest x T' H' u') (List.range' (k0 + 1) l.length) (a.put o.dst .nilIface) (c₀ :: rest) w) := fun u1 h1 h2 h3 => by
          rw [h2]
          have := step .nilIface .nilIface ι H w u1 m hS .nilIface (Ext.refl _ _) (Below.refl _ _) h1 h3
          rw [self m hm.symm] at this
          exact this
        cases hU with
        | ret => exact hnil .ret .ret (by simp only [recoverD, hm]) h
        | reco hv => exact hnil _ (.reco hv) (by simp only [recoverD, hm]) h
        | pan hv =>
          rename_i v v'
          have h2 : recoverD (c₀ :: rest) = some (v', { c₀ with mode := .panicking [{ v := v', recovered := true }] } :: rest) := by simp only [recoverD, hm]
          rw [h2]
          exact step v v' ι H w (.reco v) _ hS hv (Ext.refl _ _) (Below.refl _ _) (.reco hv) h
      · rw [if_neg hrec] at h
        split at h
        · rename_i v H1 he
          have hop : o.wp J.P a w (fun a' w' => wpOpsS J.P ops (SPost J B ι H.next w a c₀ rest x T' H' u') (List.range' (k0 + 1) l.length) a' (c₀ :: rest) w') (fun e a' w' => SPost J B ι H.next w a c₀ rest x T' H' u' e a' (c₀ :: rest) w') := by
            refine exec_wp (hcall _) hS (operands_rel hS hR ho) he (fun v0 v' ι1 w1 e s1 s2 s3 s4 => ?_) (fun v0 v' ι1 w1 e s1 s2 s3 s4 => by cases e)
            cases e
            have := step v v' ι1 H1 w1 u c₀.mode s1 s2 s3 s4 (hU.ext s3) h
            rw [self _ rfl] at this
            exact this
          unfold Oper.wp at hop
          split
          · rename_i w' hr; rw [hr] at hop; exact hop.elim
          · exact hop
        · simp at h
    · rw [if_neg hw]
      rw [if_neg hw] at h
      have := step undef undef ι H w u c₀.mode hS VRel.undef (Ext.refl _ _) (Below.refl _ _) hU h
      rw [self _ rfl] at this
      exact this
theorem icodeS_wp {call : CallR} (hm : J.P.follows .mixedOrders = true) (hcall : ∀ B, CallSound J B call) (k : Nat) : ∀ (c : Code) (ι : Emb) (H : IH) (w : World) (T : Regs) (a : Act) (u : RS) (c₀ : Frame) (rest : List Frame) (x : IX) (T' : Regs) (H' : IH) (u' : RS),
    Sim J B ι H w → RegsRel ι H.next T a.tmps → URel ι H.next u c₀.mode → codeOk J a.tmps.size c = true → icodeS J call k c T H u = some (x, T', H', u') → c.wpS J.P (SPost J B ι H.next w a c₀ rest x T' H' u') a (c₀ :: rest) w := by
  have plain : ∀ (c : Code) (ι : Emb) (H : IH) (w : World) (T : Regs) (a : Act) (u : RS) (c₀ : Frame) (rest : List Frame) (x : IX) (T' : Regs) (H' : IH) (u' : RS),
      Sim J B ι H w → RegsRel ι H.next T a.tmps → URel ι H.next u c₀.mode → codeOk J a.tmps.size c = true →
      (match icode J call k c T H with
        | some (.pan _, _, _) => none
        | some (x, T', H') => some (x, T', H', u)
        | none => none) = some (x, T', H', u') → c.wpS J.P (SPost J B ι H.next w a c₀ rest x T' H' u') a (c₀ :: rest) w := by
    intro c ι H w T a u c₀ rest x T' H' u' hS hR hU hok h
    refine wpS_of_wp ?_
    cases he : icode J call k c T H with
    | none => rw [he] at h; cases h
    | some r =>
      obtain ⟨x1, T1, H1⟩ := r
      rw [he] at h
      have hx : x1 = x ∧ T1 = T' ∧ H1 = H' ∧ u = u' ∧ ∀ v, x1 ≠ .pan v := by
        cases x1 <;> simp at h ⊢ <;> exact h
      obtain ⟨rfl, rfl, rfl, rfl, hx⟩ := hx
      refine Code.wp_mono ?_ ((icode_wp (K := fun _ => False) hm hcall k).1 c ι H w T a x1 T1 H1 hS hR hok (fun _ h => h.elim) he)
      rintro e a' w' ⟨ι', v, q1, q2, q3, q4, q5, q6, q7⟩
      have hR' : RegsRel ι' H1.next T1 a'.tmps := by cases x1 <;> first | exact q7 | exact absurd rfl (hx _)
      have he' : e = toExit x1 undef := by rw [q1]; cases x1 <;> first | rfl | exact absurd rfl (hx _)
      exact ⟨ι', c₀.mode, he', hx, q2, q3, q4, q5, q6, hR', rfl, hU.ext q3⟩
  intro c
  induction c with
  | seq c1 c2 ih1 ih2 =>
    intro ι H w T a u c₀ rest x T' H' u' hS hR hU hok h
    simp only [codeOk, Bool.and_eq_true] at hok
    simp only [icodeS] at h
    cases hb : icodeS J call k c1 T H u with
    | none => simp [hb] at h
    | some r =>
      obtain ⟨x1, T1, H1, u1⟩ := r
      refine wpS_seq (wpS_mono ?_ (ih1 ι H w T a u c₀ rest x1 T1 H1 u1 hS hR hU hok.1 hb))
      rintro e a1 cs1 w1 ⟨ι1, m1, q1, q0, q2, q3, q4, q5, q6, q7, q8, q9⟩
      subst q1
      subst q8
      have stop : x1 ≠ .normal → x1 = x ∧ T1 = T' ∧ H1 = H' ∧ u1 = u' := fun hx => by
        rw [hb] at h
        cases x1 <;> simp at h hx ⊢ <;> exact h
      cases x1 with
      | normal =>
        simp only [hb] at h
        exact wpS_mono (fun e a2 cs2 w2 p => p.trans q3 q4 q5 q6) (ih2 ι1 H1 w1 T1 a1 u1 { c₀ with mode := m1 } rest x T' H' u' q2 q7 q9 (by rw [q6]; exact hok.2) h)
      | exit id =>
        obtain ⟨rfl, rfl, rfl, rfl⟩ := stop (by simp)
        exact ⟨ι1, m1, rfl, q0, q2, q3, q4, q5, q6, q7, rfl, q9⟩
      | ret =>
        obtain ⟨rfl, rfl, rfl, rfl⟩ := stop (by simp)
        exact ⟨ι1, m1, rfl, q0, q2, q3, q4, q5, q6, q7, rfl, q9⟩
      | pan v => exact absurd rfl (q0 v)
  | region id ops draw =>
    intro ι H w T a u c₀ rest x T' H' u' hS hR hU hok h
    cases draw with
    | true => exact plain _ ι H w T a u c₀ rest x T' H' u' hS hR hU hok (by simpa only [icodeS] using h)
    | false =>
      simp only [icodeS] at h
      simp only [codeOk, Bool.and_eq_true] at hok
      refine wpS_region ?_
      rw [List.range_eq_range', ← Array.length_toList]
      exact iopsS_wp hcall ops ops.toList 0 ι H w T a u c₀ rest x T' H' u' (fun j => by simp) hS hR hU (fun o ho => Array.all_eq_true'.1 hok.1 o (by simpa using ho)) h
  | _ =>
    intro ι H w T a u c₀ rest x T' H' u' hS hR hU hok h
    exact plain _ ι H w T a u c₀ rest x T' H' u' hS hR hU hok (by simpa only [icodeS] using h)
def DfRel (ι : Emb) (n : Nat) (d : FuncId × List Value) (d' : Deferred) : Prop :=
  ∃ captured args : Array Value, d' = { target := .fn (.func d.1) captured, args := args } ∧ LRel ι n d.2 (args ++ captured).toList
inductive DRel (J : Env) (ι : Emb) (n : Nat) : Defs → List Deferred → Prop
  | nil : DRel J ι n [] []
  | cons {d : FuncId × List Value} {d' : Deferred} {D : Defs} {ds : List Deferred} : hasBody J d.1 = true → DfRel ι n d d' → DRel J ι n D ds → DRel J ι n (d :: D) (d' :: ds)
theorem DRel.ext {ι ι' : Emb} {n n' : Nat} (he : Ext ι n ι' n') {D : Defs} {ds : List Deferred} (h : DRel J ι n D ds) : DRel J ι' n' D ds := by
  induction h with
  | nil => exact .nil
  | cons hb h _ ih =>
    obtain ⟨cap, args, h1, h2⟩ := h
    exact .cons hb ⟨cap, args, h1, h2.ext he⟩ ih
theorem invoke_enter {g : FuncId} (hb : hasBody J g = true) (cap args : Array Value) (w : World) : (invoke (.fn (.func g) cap) args).run J.P w = .ok (.enter g (args ++ cap)) w := by
  unfold hasBody at hb
  split at hb
  · rename_i fn hfn
    obtain ⟨h1, h2⟩ := J.fn_ok g fn hfn
    unfold invoke
    dsimp only
    unfold callFunc
    refine (run_bind_ok (show (program).run J.P w = .ok J.P w from rfl)).trans ?_
    simp only [h1, h2, Bool.false_eq_true, if_false]
    have : fn.body.isNone = false := by cases hx : fn.body <;> simp_all
    rw [this]
    rfl
  · cases hb
theorem icallD_sound (hm : J.P.follows .mixedOrders = true) {okf : FuncId → Bool} (hok : ∀ f fn c, okf f = true → J.fn f = some fn → fn.body = some c → codeOk J fn.ntmps c = true) {call : CallR} (hcall : ∀ B, CallSound J B call) (k : Nat) {g : FuncId} {args : List Value} {args' : Array Value} {u u' : RS} {H H' : IH} {ι : Emb} {w : World} {m : FrameMode}
    (hS : Sim J B ι H w) (hA : LRel ι H.next args args'.toList) (hU : URel ι H.next u m) (h : icallD J okf call k g args u H = some (H', u')) :
    CallsD J.P g args' m w fun e m' w' => ∃ v' ι', e = .returned v' ∧ Sim J B ι' H' w' ∧ Ext ι H.next ι' H'.next ∧ Below B w w' ∧ URel ι' H'.next u' m' := by
  unfold icallD at h
  split at h
  case isFalse => simp at h
  rename_i hf
  split at h
  case h_2 => simp at h
  rename_i fn hfn
  split at h
  case h_2 => simp at h
  rename_i c hc
  split at h
  case isFalse => simp at h
  rename_i hsz
  have hsz' : args'.size ≤ fn.ntmps := by have := hA.1; simp at this; omega
  have hts : (args' ++ Array.replicate (fn.ntmps - args'.size) undef).size = fn.ntmps := by simp; omega
  refine callsD_of_wpS (J.fn_ok g fn hfn).1 hc fun c₀ cs hc₀ => ?_
  have hR : RegsRel ι H.next (regsOf args 0 .leaf) (args' ++ Array.replicate (fn.ntmps - args'.size) undef) := regsOf_rel (args := args.toArray) (by simpa using hA)
  have key : ∀ (x : IX) (T' : Regs) (H1 : IH) (u1 : RS), (x = .normal ∨ x = .ret) → icodeS J call k c (regsOf args 0 .leaf) H u = some (x, T', H1, u1) → (iresults J fn T' H1).map (fun _ => (H1, u1)) = some (H', u') →
      c.wpS J.P (bodyPostS J.P fn c₀ cs fun e m' w' => ∃ v' ι', e = .returned v' ∧ Sim J B ι' H' w' ∧ Ext ι H.next ι' H'.next ∧ Below B w w' ∧ URel ι' H'.next u' m') { tmps := args' ++ Array.replicate (fn.ntmps - args'.size) undef, defers := [] } (c₀ :: cs) w := by
    intro x T' H1 u1 hx1 hx2 hx3
    cases hv : iresults J fn T' H1 with
    | none => simp [hv] at hx3
    | some v =>
      simp only [hv, Option.map_some, Option.some.injEq, Prod.mk.injEq] at hx3
      obtain ⟨rfl, rfl⟩ := hx3
      refine wpS_mono ?_ (icodeS_wp hm hcall k c ι H w _ { tmps := args' ++ Array.replicate (fn.ntmps - args'.size) undef, defers := [] } u c₀ cs x T' H1 u1 hS hR (by rw [hc₀]; exact hU) (by rw [hts]; exact hok g fn c hf hfn hc) hx2)
      rintro e a' cs' w' ⟨ι', m', q1, q0, q2, q3, q4, q5, q6, q7, q8, q9⟩
      obtain ⟨v', r1, r2⟩ := results_run q2 q7 hv
      subst q1
      rcases hx1 with rfl | rfl
      · exact ⟨q5, m', q8, v', r1, v', ι', rfl, q2, q3, q4, q9⟩
      · exact ⟨q5, m', q8, v', r1, v', ι', rfl, q2, q3, q4, q9⟩
  split at h
  · rename_i T' H1 u1 hx; exact key _ _ _ _ (.inl rfl) hx h
  · rename_i T' H1 u1 hx; exact key _ _ _ _ (.inr rfl) hx h
  · simp at h
theorem idefers_sound (hm : J.P.follows .mixedOrders = true) {okf : FuncId → Bool} (hok : ∀ f fn c, okf f = true → J.fn f = some fn → fn.body = some c → codeOk J fn.ntmps c = true) {call : CallR} (hcall : ∀ B, CallSound J B call) (k : Nat) {fn : Func} {tmps : Array Value} {R : Ending → World → Prop} {w0 : World} {ι0 : Emb} {n0 : Nat} :
    ∀ (D : Defs) (ds : List Deferred) (ι : Emb) (u : RS) (m : FrameMode) (H : IH) (w : World) (u' : RS) (H' : IH), DRel J ι H.next D ds → Sim J B ι H w → Ext ι0 n0 ι H.next → Below B w0 w → URel ι H.next u m → idefers J okf call k D u H = some (u', H') →
      (∀ ι' m' w', Sim J B ι' H' w' → Ext ι0 n0 ι' H'.next → Ext ι H.next ι' H'.next → Below B w0 w' → URel ι' H'.next u' m' → Leaves J.P fn tmps R [] m' w') → Leaves J.P fn tmps R ds m w := by
  intro D
  induction D with
  | nil =>
    intro ds ι u m H w u' H' hD hS hE hB hU h hfin
    cases hD
    simp only [idefers, Option.some.injEq, Prod.mk.injEq] at h
    obtain ⟨rfl, rfl⟩ := h
    exact hfin ι m w hS hE (Ext.refl _ _) hB hU
  | cons d D ih =>
    intro ds ι u m H w u' H' hD hS hE hB hU h hfin
    cases hD with
    | cons hb hd hD' =>
      obtain ⟨cap, args, rfl, hA⟩ := hd
      simp only [idefers] at h
      split at h
      · rename_i H1 u1 h1
        refine leaves_cons hU.run (invoke_enter hb cap args w) ((icallD_sound hm hok hcall k hS hA hU h1).mono fun e m1 w1 hp => ?_)
        obtain ⟨v', ι1, rfl, q2, q3, q4, q5⟩ := hp
        exact ih _ ι1 u1.settle (Go.settle m1) H1 w1 u' H' (hD'.ext q3) q2 (hE.trans q3) (hB.trans q4) q5.settle h fun ι' m' w' r1 r2 r3 r4 r5 => hfin ι' m' w' r1 r2 (q3.trans r3) r4 r5
      · simp at h
def DPost (J : Env) (B : Bd) (Ks : List Tmp) (ι : Emb) (n : Nat) (w : World) (a : Act) (x : IX) (T' : Regs) (H' : IH) (D' : Defs) (e : Exit) (a' : Act) (w' : World) : Prop :=
  ∃ ι' v', e = toExit x v' ∧ Sim J B ι' H' w' ∧ Ext ι n ι' H'.next ∧ Below B w w' ∧ DRel J ι' H'.next D' a'.defers ∧ a'.tmps.size = a.tmps.size ∧ match x with
    | .pan v => VRel ι' H'.next v v' ∧ ∀ t ∈ Ks, VRel ι' H'.next (T'.at t) (a'.tmps.getD t undef)
    | _ => RegsRel ι' H'.next T' a'.tmps
theorem DPost.trans {Ks : List Tmp} {ι ι1 : Emb} {n n1 : Nat} {w w1 : World} {a a1 : Act} {x : IX} {T' : Regs} {H' : IH} {D' : Defs} (h1 : Ext ι n ι1 n1) (h2 : Below B w w1) (h4 : a1.tmps.size = a.tmps.size) {e : Exit} {a' : Act} {w' : World}
    (h : DPost J B Ks ι1 n1 w1 a1 x T' H' D' e a' w') : DPost J B Ks ι n w a x T' H' D' e a' w' := by
  obtain ⟨ι2, v, q1, q2, q3, q4, q5, q6, q7⟩ := h
  exact ⟨ι2, v, q1, q2, h1.trans q3, h2.trans q4, q5, q6.trans h4, q7⟩
theorem defer_run {T : Regs} {a : Act} {o : Oper} {ι : Emb} {n : Nat} (hρ : ∀ x ∈ o.op.operands, VRel ι n (iev T x) (a.eval x)) (hd : isDefer o = true) {d : FuncId × List Value} (h : deferR T o = some d) (w : World) :
    ∃ d', (execOp a.eval o).run J.P w = .ok (.defer d') w ∧ DfRel ι n d d' := by
  obtain ⟨dst, op, type, pos, after, guard⟩ := o
  cases op <;> simp only [isDefer] at hd <;> try (cases hd; done)
  rename_i c
  obtain ⟨callee, args, at_⟩ := c
  simp only [deferR] at h
  cases callee <;> try (simp at h; done)
  rename_i f
  simp only at h
  have hf := hρ f (by simp [Op.operands, Call.operands])
  have hargs : LRel ι n (args.map (iev T)).toList (args.map a.eval).toList := by
    refine ⟨by simp, fun i x y hx hy => ?_⟩
    simp only [Array.toList_map, List.getElem?_map] at hx hy
    cases hz : args.toList[i]? with
    | none => rw [hz] at hx; cases hx
    | some z =>
      rw [hz] at hx hy
      cases hx; cases hy
      have hmem : z ∈ args := by simpa using List.mem_of_getElem? hz
      exact hρ z (by simp [Op.operands, Call.operands, hmem])
  split at h
  · rename_i g first cap hv
    cases h
    rw [hv] at hf
    generalize hra : a.eval f = y at hf
    cases hf with
    | func _ h1 h2 h3 h4 =>
      rename_i first' cap'
      refine ⟨{ target := .fn (.func g) cap', args := first' ++ args.map a.eval }, ?_, cap', _, rfl, ?_⟩
      · simp only [execOp, resolve, hra, Deferred.ofValue]
        rfl
      · have e1 : LRel ι n first.toList first'.toList := ⟨by simpa using h1, fun i x y hx hy => h2 i x y (by simpa using hx) (by simpa using hy)⟩
        have e2 : LRel ι n cap.toList cap'.toList := ⟨by simpa using h3, fun i x y hx hy => h4 i x y (by simpa using hx) (by simpa using hy)⟩
        simp only [Array.toList_append]
        exact (e1.append hargs).append e2
  · simp at h
theorem iopsD_wp {call : CallR} (hcall : ∀ B, CallSound J B call) (Ks : List Tmp) (ops : Array Oper) : ∀ (l : List Oper) (ι : Emb) (H : IH) (w : World) (T : Regs) (a : Act) (D : Defs) (x : IX) (T' : Regs) (H' : IH) (D' : Defs),
    Sim J B ι H w → RegsRel ι H.next T a.tmps → DRel J ι H.next D a.defers → (∀ o ∈ l, opOk J a.tmps.size o = true) → iopsD J call ops l T H D = some (x, T', H', D') →
    wpList J.P ops (DPost J B Ks ι H.next w a x T' H' D') l a w := by
  intro l
  induction l with
  | nil =>
    intro ι H w T a D x T' H' D' hS hR hD _ h
    simp only [iopsD, Option.some.injEq, Prod.mk.injEq] at h
    obtain ⟨rfl, rfl, rfl, rfl⟩ := h
    exact ⟨ι, undef, rfl, hS, Ext.refl _ _, Below.refl _ _, hD, rfl, hR⟩
  | cons o l ih =>
    intro ι H w T a D x T' H' D' hS hR hD hok h
    have ho := hok o (by simp)
    have hd := dst_lt ho
    simp only [iopsD] at h
    simp only [wpList, wanted_eq hR ops o]
    have step : ∀ (v v' : Value) (ι1 : Emb) (H1 : IH) (w1 : World) (D1 : Defs) (a1 : Act), a1.tmps = a.tmps → DRel J ι1 H1.next D1 a1.defers → Sim J B ι1 H1 w1 → VRel ι1 H1.next v v' → Ext ι H.next ι1 H1.next → Below B w w1 → iopsD J call ops l (putR T o.dst v) H1 D1 = some (x, T', H', D') →
        wpList J.P ops (DPost J B Ks ι H.next w a x T' H' D') l (a1.put o.dst v') w1 := by
      intro v v' ι1 H1 w1 D1 a1 ha1 hD1 s1 s2 s3 s4 s5
      have hR1 : RegsRel ι1 H1.next (putR T o.dst v) (a1.put o.dst v').tmps := RegsRel.put (by rw [ha1]; exact hR.ext s3) s2 (by rw [ha1]; exact hd)
      have := ih ι1 H1 w1 (putR T o.dst v) (a1.put o.dst v') D1 x T' H' D' s1 hR1 (by rw [put_defers]; exact hD1) (fun o' ho' => by rw [put_size, ha1]; exact hok o' (by simp [ho'])) s5
      exact wpList_mono (fun e a2 w2 p => p.trans s3 s4 (by rw [put_size, ha1])) l _ _ this
    split at h
    · rename_i hw
      rw [if_pos hw]
      left
      split at h
      · rename_i hdf
        split at h
        · rename_i d hdr
          split at h
          · rename_i hb
            obtain ⟨d', hr, hrel⟩ := defer_run (J := J) (operands_rel hS hR ho) hdf hdr w
            unfold Oper.wp
            rw [hr]
            exact step undef undef ι H w (d :: D) { a with defers := d' :: a.defers } rfl (.cons hb hrel hD) hS VRel.undef (Ext.refl _ _) (Below.refl _ _) h
          · simp at h
        · simp at h
      · split at h
        · rename_i v H1 he
          refine exec_wp (hcall _) hS (operands_rel hS hR ho) he (fun v0 v' ι1 w1 e s1 s2 s3 s4 => ?_) (fun v0 v' ι1 w1 e s1 s2 s3 s4 => by cases e)
          cases e
          exact step v v' ι1 H1 w1 D a rfl (hD.ext s3) s1 s2 s3 s4 h
        · rename_i v H1 he
          simp only [Option.some.injEq, Prod.mk.injEq] at h
          obtain ⟨rfl, rfl, rfl, rfl⟩ := h
          refine exec_wp (hcall _) hS (operands_rel hS hR ho) he (fun v0 v' ι1 w1 e s1 s2 s3 s4 => by cases e) (fun v0 v' ι1 w1 e s1 s2 s3 s4 => ?_)
          cases e
          exact ⟨ι1, v', rfl, s1, s3, s4, hD.ext s3, rfl, s2, fun t _ => (hR t).ext s3⟩
        · simp at h
    · rename_i hw
      rw [if_neg hw]
      exact step undef undef ι H w D a rfl hD hS VRel.undef (Ext.refl _ _) (Below.refl _ _) h
theorem icodeD_wp {call : CallR} (hm : J.P.follows .mixedOrders = true) (hcall : ∀ B, CallSound J B call) (k : Nat) (Ks : List Tmp) : ∀ (c : Code) (ι : Emb) (H : IH) (w : World) (T : Regs) (a : Act) (D : Defs) (x : IX) (T' : Regs) (H' : IH) (D' : Defs),
    Sim J B ι H w → RegsRel ι H.next T a.tmps → DRel J ι H.next D a.defers → codeOk J a.tmps.size c = true → icodeD J call k Ks c T H D = some (x, T', H', D') → c.wp J.P (DPost J B Ks ι H.next w a x T' H' D') a w := by
  have plain : ∀ (c : Code) (ι : Emb) (H : IH) (w : World) (T : Regs) (a : Act) (D : Defs) (x : IX) (T' : Regs) (H' : IH) (D' : Defs),
      Sim J B ι H w → RegsRel ι H.next T a.tmps → DRel J ι H.next D a.defers → codeOk J a.tmps.size c = true →
      (match icode J call k c T H with
        | some (.pan v, T', H') => if Ks.all (keepsC c) then some (.pan v, T', H', D) else none
        | some (x, T', H') => some (x, T', H', D)
        | none => none) = some (x, T', H', D') → c.wp J.P (DPost J B Ks ι H.next w a x T' H' D') a w := by
    intro c ι H w T a D x T' H' D' hS hR hD hok h
    cases he : icode J call k c T H with
    | none => rw [he] at h; cases h
    | some r =>
      obtain ⟨x1, T1, H1⟩ := r
      rw [he] at h
      have hx : x1 = x ∧ T1 = T' ∧ H1 = H' ∧ D = D' ∧ ((∃ v, x1 = .pan v) → Ks.all (keepsC c) = true) := by
        cases x1 <;> simp at h ⊢ <;> first | exact h | exact ⟨h.2.1, h.2.2.1, h.2.2.2.1, h.2.2.2.2, h.1⟩
      obtain ⟨rfl, rfl, rfl, rfl, hx⟩ := hx
      refine Code.wp_mono ?_ ((icode_wp (K := fun t => t ∈ Ks ∧ Ks.all (keepsC c) = true) hm hcall k).1 c ι H w T a x1 T1 H1 hS hR hok (fun t ht => List.all_eq_true.1 ht.2 t ht.1) he)
      rintro e a' w' ⟨ι', v, q1, q2, q3, q4, q5, q6, q7⟩
      refine ⟨ι', v, q1, q2, q3, q4, by rw [q5]; exact hD.ext q3, q6, ?_⟩
      cases x1 with
      | pan u => exact ⟨q7.1, fun t ht => q7.2 t ⟨ht, hx ⟨u, rfl⟩⟩⟩
      | _ => exact q7
  intro c
  induction c with
  | seq c1 c2 ih1 ih2 =>
    intro ι H w T a D x T' H' D' hS hR hD hok h
    simp only [codeOk, Bool.and_eq_true] at hok
    simp only [icodeD] at h
    cases hb : icodeD J call k Ks c1 T H D with
    | none => simp [hb] at h
    | some r =>
      obtain ⟨x1, T1, H1, D1⟩ := r
      refine wp_seq (Code.wp_mono ?_ (ih1 ι H w T a D x1 T1 H1 D1 hS hR hD hok.1 hb))
      rintro e a1 w1 ⟨ι1, v, q1, q2, q3, q4, q5, q6, q7⟩
      subst q1
      have stop : x1 ≠ .normal → x1 = x ∧ T1 = T' ∧ H1 = H' ∧ D1 = D' := fun hx => by
        rw [hb] at h
        cases x1 <;> simp at h hx ⊢ <;> exact h
      cases x1 with
      | normal =>
        simp only [hb] at h
        exact Code.wp_mono (fun e a2 w2 p => p.trans q3 q4 q6) (ih2 ι1 H1 w1 T1 a1 D1 x T' H' D' q2 q7 q5 (by rw [q6]; exact hok.2) h)
      | exit id =>
        obtain ⟨rfl, rfl, rfl, rfl⟩ := stop (by simp)
        exact ⟨ι1, v, rfl, q2, q3, q4, q5, q6, q7⟩
      | ret =>
        obtain ⟨rfl, rfl, rfl, rfl⟩ := stop (by simp)
        exact ⟨ι1, v, rfl, q2, q3, q4, q5, q6, q7⟩
      | pan u =>
        obtain ⟨rfl, rfl, rfl, rfl⟩ := stop (by simp)
        exact ⟨ι1, v, rfl, q2, q3, q4, q5, q6, q7⟩
  | region id ops draw =>
    intro ι H w T a D x T' H' D' hS hR hD hok h
    cases draw with
    | true => exact plain _ ι H w T a D x T' H' D' hS hR hD hok (by simpa only [icodeD] using h)
    | false =>
      simp only [icodeD] at h
      simp only [codeOk, Bool.and_eq_true] at hok
      exact wp_region_list (iopsD_wp hcall Ks ops ops.toList ι H w T a D x T' H' D' hS hR hD (fun o ho => Array.all_eq_true'.1 hok.1 o (by simpa using ho)) h)
  | _ =>
    intro ι H w T a D x T' H' D' hS hR hD hok h
    exact plain _ ι H w T a D x T' H' D' hS hR hD hok (by simpa only [icodeD] using h)
theorem mem_cellRegs {rs : List ResultVar} {r : ResultVar} (hr : r ∈ rs) (ha : allCells rs = true) : rreg r ∈ cellRegs rs := by
  have := List.all_eq_true.1 ha r hr
  cases r with
  | tmp t => simp at this
  | cell a t => exact List.mem_filterMap.2 ⟨.cell a t, hr, rfl⟩
theorem icallF_sound (hm : J.P.follows .mixedOrders = true) {okf : FuncId → Bool} (hok : ∀ f fn c, okf f = true → J.fn f = some fn → fn.body = some c → codeOk J fn.ntmps c = true) {call : CallR} (hcall : ∀ B, CallSound J B call) (k : Nat) {f : FuncId} {fn : Func} {c : Code} (hf : okf f = true) (hfn : J.fn f = some fn) (hc : fn.body = some c)
    {args args' : Array Value} (hsz : args.size ≤ fn.ntmps) {H H' : IH} {ι : Emb} {w : World} {r : IE} (hS : Sim J B ι H w) (hA : LRel ι H.next args.toList args'.toList) (h : icallF J okf call k fn c args H = some (r, H')) : Calls J.P f args' w (CallPost J B ι H.next w r H') := by
  have hsz' : args'.size ≤ fn.ntmps := by have := hA.1; simp at this; omega
  have hts : (args' ++ Array.replicate (fn.ntmps - args'.size) undef).size = fn.ntmps := by simp; omega
  refine calls_of_wp_defers (J.fn_ok f fn hfn).1 hc ?_
  have key : ∀ (x : IX) (T' : Regs) (H1 : IH) (D : Defs), icodeD J call k (cellRegs fn.results.toList) c (regsOf args.toList 0 .leaf) H [] = some (x, T', H1, D) →
      c.wp J.P (DPost J B (cellRegs fn.results.toList) ι H.next w { tmps := args' ++ Array.replicate (fn.ntmps - args'.size) undef, defers := [] } x T' H1 D) { tmps := args' ++ Array.replicate (fn.ntmps - args'.size) undef, defers := [] } w :=
    fun x T' H1 D hx => icodeD_wp hm hcall k (cellRegs fn.results.toList) c ι H w _ { tmps := args' ++ Array.replicate (fn.ntmps - args'.size) undef, defers := [] } [] x T' H1 D hS (regsOf_rel hA) .nil (by rw [hts]; exact hok f fn c hf hfn hc) hx
  have fin : ∀ (all : Bool) (T' : Regs) (H1 : IH) (D : Defs) (u : RS) (m : FrameMode) (ι1 : Emb) (a1 : Act) (w1 : World), iend J fn T' all (idefers J okf call k D u H1) = some (r, H') → Sim J B ι1 H1 w1 → Ext ι H.next ι1 H1.next → Below B w w1 → DRel J ι1 H1.next D a1.defers → URel ι1 H1.next u m →
      (all = true → ∀ x ∈ fn.results.toList, VRel ι1 H1.next (T'.at (rreg x)) (a1.tmps.getD (rreg x) undef)) → Leaves J.P fn a1.tmps (CallPost J B ι H.next w r H') a1.defers m w1 := by
    intro all T' H1 D u m ι1 a1 w1 h1 h2 h3 h4 h5 h6 h7
    cases hi : idefers J okf call k D u H1 with
    | none => rw [hi] at h1; simp [iend] at h1
    | some y =>
      obtain ⟨u', H2⟩ := y
      rw [hi] at h1
      refine idefers_sound hm hok hcall k D a1.defers ι1 u m H1 w1 u' H2 h5 h2 h3 h4 h6 hi fun ι' m' w' r1 r2 r3 r4 r5 => ?_
      cases r5 with
      | ret =>
        cases all with
        | false => simp [iend] at h1
        | true =>
          simp only [iend, if_true] at h1
          cases hv : iresults J fn T' H2 with
          | none => simp [hv] at h1
          | some v =>
            simp only [hv, Option.map_some, Option.some.injEq, Prod.mk.injEq] at h1
            obtain ⟨rfl, rfl⟩ := h1
            obtain ⟨v', g1, g2⟩ := results_run' r1 (fun x hx => (h7 rfl x hx).ext r3) hv
            exact ⟨v', g1, ι', r1, r2, r4, v', rfl, g2⟩
      | pan hv =>
        simp only [iend, Option.some.injEq, Prod.mk.injEq] at h1
        obtain ⟨rfl, rfl⟩ := h1
        exact ⟨ι', r1, r2, r4, _, rfl, hv⟩
      | reco hv => simp [iend] at h1
  unfold icallF at h
  split at h
  · rename_i T' H1 D hx
    refine Code.wp_mono ?_ (key _ _ _ _ hx)
    rintro e a1 w1 ⟨ι1, v, q1, q2, q3, q4, q5, q6, q7⟩
    subst q1
    exact fin true T' H1 D .ret .returning ι1 a1 w1 h q2 q3 q4 q5 .ret (fun _ x _ => q7 _)
  · rename_i T' H1 D hx
    refine Code.wp_mono ?_ (key _ _ _ _ hx)
    rintro e a1 w1 ⟨ι1, v, q1, q2, q3, q4, q5, q6, q7⟩
    subst q1
    exact fin true T' H1 D .ret .returning ι1 a1 w1 h q2 q3 q4 q5 .ret (fun _ x _ => q7 _)
  · rename_i v T' H1 D hx
    refine Code.wp_mono ?_ (key _ _ _ _ hx)
    rintro e a1 w1 ⟨ι1, v', q1, q2, q3, q4, q5, q6, q7⟩
    subst q1
    exact fin _ T' H1 D (.pan v) _ ι1 a1 w1 h q2 q3 q4 q5 (.pan q7.1) (fun ha x hx => q7.2 _ (mem_cellRegs hx ha))
  · simp at h
theorem icall_sound (hm : J.P.follows .mixedOrders = true) {okf : FuncId → Bool} (hok : ∀ f fn c, okf f = true → J.fn f = some fn → fn.body = some c → codeOk J fn.ntmps c = true) : ∀ k B, CallSound J B (icall J okf k) := by
  intro k
  induction k with
  | zero => intro B f args args' H ι w r H' _ _ h; simp [icall] at h
  | succ k ih =>
    intro B f args args' H ι w r H' hS hA h
    simp only [icall] at h
    split at h
    · rename_i v hv
      cases h
      obtain ⟨h1, h2, h3⟩ := J.hook_ok f args.toList v hv
      have he : args = args' := by
        apply Array.ext'
        apply List.ext_getElem? 
        intro i
        cases hx : args.toList[i]? with
        | none =>
          have h4 := List.getElem?_eq_none_iff.1 hx
          have h5 := hA.1
          rw [List.getElem?_eq_none_iff.2 (by omega)]
        | some x =>
          obtain ⟨y, hy, hr⟩ := hA.get hx
          rw [hy, flat_eq hr (List.all_eq_true.1 h2 x (List.mem_of_getElem? hx))]
      subst he
      have h4 := h3 w (Env.keep_inv hS.keep)
      rw [Array.toArray_toList] at h4
      exact h4.mono fun e w' ⟨h5, h6⟩ => ⟨ι, hS.more h6, Ext.refl _ _, ⟨h6.os, h6.tape, h6.output, h6.size, fun k hk => h6.block k (hS.base.lt hk)⟩, v, h5, VRel.ofFlat h1⟩
    split at h
    case isFalse => simp at h
    rename_i hf
    split at h
    case h_2 => simp at h
    rename_i fn hfn
    split at h
    case h_2 => simp at h
    rename_i c hc
    split at h
    case isFalse => simp at h
    rename_i hsz
    split at h
    · exact icallF_sound hm hok ih k hf hfn hc hsz hS hA h
    have hsz' : args'.size ≤ fn.ntmps := by have := hA.1; simp at this; omega
    have hts : (args' ++ Array.replicate (fn.ntmps - args'.size) undef).size = fn.ntmps := by simp; omega
    refine calls_of_wp (J.fn_ok f fn hfn).1 hc ?_
    have key : ∀ (x : IX) (T' : Regs) (H1 : IH), icode J (icall J okf k) k c (regsOf args.toList 0 .leaf) H = some (x, T', H1) →
        c.wp J.P (CodePost J B (fun _ => False) ι H.next w { tmps := args' ++ Array.replicate (fn.ntmps - args'.size) undef, defers := [] } x T' H1) { tmps := args' ++ Array.replicate (fn.ntmps - args'.size) undef, defers := [] } w :=
      fun x T' H1 hx => (icode_wp hm ih k).1 c ι H w _ { tmps := args' ++ Array.replicate (fn.ntmps - args'.size) undef, defers := [] } x T' H1 hS (regsOf_rel hA) (by rw [hts]; exact hok f fn c hf hfn hc) (fun _ h => h.elim) hx
    have ret : ∀ (x : IX) (T' : Regs) (H1 : IH), (x = .normal ∨ x = .ret) → icode J (icall J okf k) k c (regsOf args.toList 0 .leaf) H = some (x, T', H1) → (iresults J fn T' H1).map (fun v => (IE.ret v, H1)) = some (r, H') →
        c.wp J.P (bodyPost J.P fn (CallPost J B ι H.next w r H')) { tmps := args' ++ Array.replicate (fn.ntmps - args'.size) undef, defers := [] } w := by
      intro x T' H1 hx1 hx2 hx3
      cases hv : iresults J fn T' H1 with
      | none => simp [hv] at hx3
      | some v =>
        simp only [hv, Option.map_some, Option.some.injEq, Prod.mk.injEq] at hx3
        obtain ⟨rfl, rfl⟩ := hx3
        refine Code.wp_mono ?_ (key x T' H1 hx2)
        rintro e a' w' ⟨ι', u, q1, q2, q3, q4, q5, q6, q7⟩
        rcases hx1 with rfl | rfl
        · obtain ⟨v', r1, r2⟩ := results_run q2 q7 hv
          subst q1
          exact ⟨q5, v', r1, ι', q2, q3, q4, v', rfl, r2⟩
        · obtain ⟨v', r1, r2⟩ := results_run q2 q7 hv
          subst q1
          exact ⟨q5, v', r1, ι', q2, q3, q4, v', rfl, r2⟩
    split at h
    · rename_i T' H1 hx; exact ret _ _ _ (.inl rfl) hx h
    · rename_i T' H1 hx; exact ret _ _ _ (.inr rfl) hx h
    · rename_i v T' H1 hx
      cases h
      refine Code.wp_mono ?_ (key _ _ _ hx)
      rintro e a' w' ⟨ι', u, q1, q2, q3, q4, q5, q6, q7⟩
      subst q1
      exact ⟨q5, ι', q2, q3, q4, u, rfl, q7.1⟩
    · simp at h
end
end Go.Proofs.YtchlbfmjnhgpgaaGreat.Idl
namespace Go.Proofs.YtchlbfmjnhgpgaaGreat.Idl
open Go Go.RowKit

def Tr.AllAt {α : Type} (p : Nat → α → Prop) (f : Nat → Nat) : Tr α → Prop
  | .leaf => True
  | .node v l r => (match v with | some x => p (f 0) x | none => True) ∧ Tr.AllAt p (fun m => f (2 * m + 1)) l ∧ Tr.AllAt p (fun m => f (2 * m + 2)) r
theorem Tr.allAt {α : Type} {p : Nat → α → Prop} : ∀ (t : Tr α) (f : Nat → Nat), Tr.AllAt p f t → ∀ n x, t.get n = some x → p (f n) x := by
  intro t
  induction t with
  | leaf => intro f _ n x h; simp [Tr.get] at h
  | node v l r ihl ihr =>
    intro f h n x hx
    obtain ⟨h1, h2, h3⟩ := h
    simp only [Tr.get] at hx
    by_cases e : n = 0
    · subst e
      rw [if_pos rfl] at hx
      subst hx
      exact h1
    · rw [if_neg e] at hx
      by_cases e1 : n % 2 = 1
      · rw [if_pos e1] at hx
        have := ihl _ h2 _ _ hx
        rw [show 2 * (n / 2) + 1 = n by omega] at this
        exact this
      · rw [if_neg e1] at hx
        have := ihr _ h3 _ _ hx
        rw [show 2 * ((n - 1) / 2) + 2 = n by omega] at this
        exact this
def TyOk (P : Program) (t : Nat) (i : TyI) : Prop :=
  P.underlying t = some i.und ∧ ∃ inf, P.info? t = some inf ∧ inf.size = i.size ∧ inf.bytes = i.bytes ∧ ∀ z, i.zero = some z → inf.zero = some z ∧ flat z = true
theorem tyOk_mk {P : Program} {t s b : Nat} {d : TypeDesc} {z : Value} (h1 : P.underlying t = some d) (h2 : (P.info? t).map (fun i => (i.size, i.bytes, i.zero)) = some (s, b, some z)) (h3 : flat z = true) : TyOk P t ⟨d, s, b, some z⟩ := by
  refine ⟨h1, ?_⟩
  cases e : P.info? t with
  | none => simp [e] at h2
  | some inf =>
    simp only [e, Option.map_some, Option.some.injEq, Prod.mk.injEq] at h2
    obtain ⟨rfl, rfl, h⟩ := h2
    exact ⟨inf, rfl, rfl, rfl, fun y hy => by cases hy; exact ⟨h, h3⟩⟩
def FnOk (P : Program) (f : Nat) (x : Func) : Prop := P.funcs[f]? = some x ∧ (x.name == "runtime.NumGoroutine") = false
def bodyOk (J : Env) (fn : Func) : Bool :=
  match fn.body with
  | some c => codeOk J fn.ntmps c
  | none => true
end Go.Proofs.YtchlbfmjnhgpgaaGreat.Idl
namespace Go.Proofs.YtchlbfmjnhgpgaaGreat.Idl
open Go Go.RowKit

section
variable (J : Env) (call : CallR) (k : Nat) (T : Regs) (H : IH)
theorem icode_region (i : Nat) (ops : Array Oper) : icode J call (k + 1) (.region i ops false) T H = iops J call ops ops.toList T H := rfl
theorem icode_draw (i : Nat) (ops : Array Oper) : icode J call (k + 1) (.region i ops true) T H = idraw J call (arrange J ops) T H := rfl
def andThen (r : Option (IX × Regs × IH)) (f : Regs → IH → Option (IX × Regs × IH)) : Option (IX × Regs × IH) :=
  match r with
  | some (.normal, T', H') => f T' H'
  | r => r
theorem icode_seq (a b : Code) : icode J call (k + 1) (.seq a b) T H = andThen (icode J call k a T H) fun T' H' => icode J call k b T' H' := by
  simp only [icode]; rfl
theorem icode_loop (c : Code) : icode J call (k + 1) (.loop c) T H = andThen (icode J call k c T H) fun T' H' => icode J call k (.loop c) T' H' := by
  simp only [icode]; rfl
def branch (v : Value) (a b : Option (IX × Regs × IH)) : Option (IX × Regs × IH) :=
  match v with
  | .bool true => a
  | .bool false => b
  | _ => none
theorem icode_cond (c : Operand) (x y : Code) : icode J call (k + 1) (.cond c x y) T H = branch (iev T c) (icode J call k x T H) (icode J call k y T H) := rfl
def blockOut (id : Nat) (r : Option (IX × Regs × IH)) : Option (IX × Regs × IH) :=
  match r with
  | some (.exit id', T', H') => if id' = id then some (.normal, T', H') else some (.exit id', T', H')
  | r => r
theorem icode_block (id : Nat) (c : Code) : icode J call (k + 1) (.block id c) T H = blockOut id (icode J call k c T H) := by
  simp only [icode]; rfl
theorem blockOut_normal (id : Nat) : blockOut id (some (.normal, T, H)) = some (.normal, T, H) := rfl
theorem blockOut_exit (id id' : Nat) : blockOut id (some (.exit id', T, H)) = if id' = id then some (.normal, T, H) else some (.exit id', T, H) := rfl
theorem blockOut_ret (id : Nat) : blockOut id (some (.ret, T, H)) = some (.ret, T, H) := rfl
theorem blockOut_pan (id : Nat) (v : Value) : blockOut id (some (.pan v, T, H)) = some (.pan v, T, H) := rfl
def fin (J : Env) (rs : List ResultVar) (T : Regs) (H : IH) : Option Value :=
  match rs.mapM (iresult1 J T H) with
  | some [v] => some v
  | some vs => some (.tuple vs.toArray)
  | none => none
def finish (J : Env) (rs : List ResultVar) (r : Option (IX × Regs × IH)) : Option (IE × IH) :=
  match r with
  | some (.normal, T', H') => (fin J rs T' H').map fun v => (.ret v, H')
  | some (.ret, T', H') => (fin J rs T' H').map fun v => (.ret v, H')
  | some (.pan v, _, H') => some (.pan v, H')
  | _ => none
theorem finish_normal (rs : List ResultVar) : finish J rs (some (.normal, T, H)) = (fin J rs T H).map fun v => (.ret v, H) := rfl
theorem finish_ret (rs : List ResultVar) : finish J rs (some (.ret, T, H)) = (fin J rs T H).map fun v => (.ret v, H) := rfl
theorem finish_pan (rs : List ResultVar) (v : Value) : finish J rs (some (.pan v, T, H)) = some (.pan v, H) := rfl
theorem icall_body (okf : FuncId → Bool) (f : FuncId) (args : Array Value) (fn : Func) (c : Code) (h0 : okf f = true) (h1 : J.fn f = some fn) (h2 : fn.body = some c) (h3 : args.size ≤ fn.ntmps) (h4 : J.hook f args.toList = none) (h5 : J.dfr f = false) :
    icall J okf (k + 1) f args H = finish J fn.results.toList (icode J (icall J okf k) k c (regsOf args.toList 0 .leaf) H) := by
  simp only [icall, h0, h1, h2, h3, h4, h5, if_true]
  rfl
theorem icall_dfr (okf : FuncId → Bool) (f : FuncId) (args : Array Value) (fn : Func) (c : Code) (h0 : okf f = true) (h1 : J.fn f = some fn) (h2 : fn.body = some c) (h3 : args.size ≤ fn.ntmps) (h4 : J.hook f args.toList = none) (h5 : J.dfr f = true) :
    icall J okf (k + 1) f args H = icallF J okf (icall J okf k) k fn c args H := by
  simp only [icall, h0, h1, h2, h3, h4, h5, if_true]
theorem at_leaf (t : Nat) : Regs.at .leaf t = undef := rfl
def opStep (o : Oper) (r : Option (IE × IH)) (T : Regs) (f : Regs → IH → Option (IX × Regs × IH)) : Option (IX × Regs × IH) :=
  match r with
  | some (.ret v, H') => f (putR T o.dst v) H'
  | some (.pan v, H') => some (.pan v, T, H')
  | none => none
theorem iops_cons (ops : Array Oper) (o : Oper) (r : List Oper) : iops J call ops (o :: r) T H =
    if wantedR ops T o then opStep o (iexec J call o T H) T (fun T' H' => iops J call ops r T' H') else iops J call ops r (putR T o.dst undef) H := by
  simp only [iops, opStep]
  split
  · split <;> simp_all
  · rfl
def orStep (call : CallR) (r : Option OR) : Option (IE × IH) :=
  match r with
  | some (.val v H') => some (.ret v, H')
  | some (.pan v H') => some (.pan v, H')
  | some (.enter f args H') => call f args H'
  | none => none
theorem iexec_eq (o : Oper) : iexec J call o T H = orStep call (iop J o T H) := by
  unfold iexec orStep
  split <;> simp_all
theorem orStep_val (v : Value) : orStep call (some (.val v H)) = some (.ret v, H) := rfl
theorem orStep_pan (v : Value) : orStep call (some (.pan v H)) = some (.pan v, H) := rfl
theorem orStep_enter (f : FuncId) (args : Array Value) : orStep call (some (.enter f args H)) = call f args H := rfl
end

/-! ### More fuel -/
def Mono (call call' : CallR) : Prop := ∀ f args H r, call f args H = some r → call' f args H = some r
theorem iexec_mono {J : Env} {call call' : CallR} (h : Mono call call') {o : Oper} {T : Regs} {H : IH} {r : IE × IH} (hx : iexec J call o T H = some r) : iexec J call' o T H = some r := by
  rw [iexec_eq] at hx ⊢
  cases hi : iop J o T H with
  | none => simp [hi, orStep] at hx
  | some y => cases y <;> simp only [hi, orStep] at hx ⊢ <;> first | exact hx | exact h _ _ _ _ hx
theorem iops_mono {J : Env} {call call' : CallR} (h : Mono call call') (ops : Array Oper) : ∀ (l : List Oper) (T : Regs) (H : IH) (r : IX × Regs × IH), iops J call ops l T H = some r → iops J call' ops l T H = some r := by
  intro l
  induction l with
  | nil => intro T H r hx; exact hx
  | cons o l ih =>
    intro T H r hx
    rw [iops_cons] at hx ⊢
    split
    · rename_i hw
      rw [if_pos hw] at hx
      cases he : iexec J call o T H with
      | none => simp [he, opStep] at hx
      | some y =>
        rw [iexec_mono h he]
        rw [he] at hx
        obtain ⟨e, H'⟩ := y
        cases e with
        | ret v => exact ih _ _ _ hx
        | pan v => exact hx
    · rename_i hw
      rw [if_neg hw] at hx
      exact ih _ _ _ hx
theorem drun_mono {J : Env} {call call' : CallR} (h : Mono call call') (ops : Array Oper) : ∀ (l : List Oper) (s : DSt) (r : DSt × Option Value), drun J call ops l s = some r → drun J call' ops l s = some r := by
  intro l
  induction l with
  | nil => intro s r hx; exact hx
  | cons o l ih =>
    intro s r hx
    simp only [drun] at hx ⊢
    split
    · rename_i hw
      rw [if_pos hw] at hx
      cases he : iexec J call o s.T s.H with
      | none => simp [he] at hx
      | some y =>
        rw [iexec_mono h he]
        rw [he] at hx
        obtain ⟨e, H'⟩ := y
        cases e with
        | ret v => exact ih _ _ hx
        | pan v => exact hx
    · rename_i hw
      rw [if_neg hw] at hx
      exact ih _ _ hx
theorem idraw_mono {J : Env} {call call' : CallR} (h : Mono call call') (ops : Array Oper) (T : Regs) (H : IH) (r : IX × Regs × IH) (hx : idraw J call ops T H = some r) : idraw J call' ops T H = some r := by
  unfold idraw at hx ⊢
  cases he : drun J call ops ops.toList ⟨T, H, [], [H]⟩ with
  | none => simp [he] at hx
  | some y => rw [drun_mono h ops _ _ _ he]; rw [he] at hx; exact hx
theorem icode_mono {J : Env} {call call' : CallR} (h : Mono call call') : ∀ (k : Nat) (c : Code) (T : Regs) (H : IH) (r : IX × Regs × IH) (k' : Nat), k ≤ k' → icode J call k c T H = some r → icode J call' k' c T H = some r := by
  intro k
  induction k with
  | zero => intro c T H r k' _ hx; simp [icode] at hx
  | succ k ih =>
    intro c T H r k' hk hx
    obtain ⟨k', rfl⟩ : ∃ j, k' = j + 1 := ⟨k' - 1, by omega⟩
    have hk : k ≤ k' := by omega
    have two : ∀ (a : Code) (f f' : Regs → IH → Option (IX × Regs × IH)), (∀ T H r, f T H = some r → f' T H = some r) → andThen (icode J call k a T H) f = some r → andThen (icode J call' k' a T H) f' = some r := by
      intro a f f' hf hx
      cases he : icode J call k a T H with
      | none => simp [he, andThen] at hx
      | some y =>
        rw [ih a T H y k' hk he]
        rw [he] at hx
        obtain ⟨e, T', H'⟩ := y
        cases e <;> first | exact hf _ _ _ hx | exact hx
    cases c with
    | seq a b => rw [icode_seq] at hx ⊢; exact two a _ _ (fun T H r => ih b T H r k' hk) hx
    | loop a => rw [icode_loop] at hx ⊢; exact two a _ _ (fun T H r => ih (.loop a) T H r k' hk) hx
    | cond c x y =>
      rw [icode_cond] at hx ⊢
      cases hv : iev T c with
      | bool b =>
        rw [hv] at hx
        cases b with
        | true => exact ih x T H r k' hk hx
        | false => exact ih y T H r k' hk hx
      | _ => rw [hv] at hx; simp [branch] at hx
    | block id a =>
      rw [icode_block] at hx ⊢
      cases he : icode J call k a T H with
      | none => simp [he, blockOut] at hx
      | some y => rw [ih a T H y k' hk he]; rw [he] at hx; exact hx
    | scope a => exact ih a T H r k' hk hx
    | region id ops draw => cases draw with
      | true => rw [icode_draw] at hx ⊢; exact idraw_mono h (arrange J ops) T H r hx
      | false => rw [icode_region] at hx ⊢; exact iops_mono h ops _ T H r hx
    | _ => exact hx
theorem iopsS_mono {J : Env} {call call' : CallR} (h : Mono call call') (ops : Array Oper) : ∀ (l : List Oper) (T : Regs) (H : IH) (u : RS) (r : IX × Regs × IH × RS), iopsS J call ops l T H u = some r → iopsS J call' ops l T H u = some r := by
  intro l
  induction l with
  | nil => intro T H u r hx; exact hx
  | cons o l ih =>
    intro T H u r hx
    simp only [iopsS] at hx ⊢
    by_cases hw : wantedR ops T o = true
    · rw [if_pos hw] at hx ⊢
      by_cases hr : isRecover o = true
      · rw [if_pos hr] at hx ⊢
        cases u <;> exact ih _ _ _ _ hx
      · rw [if_neg hr] at hx ⊢
        cases he : iexec J call o T H with
        | none => simp [he] at hx
        | some y =>
          rw [iexec_mono h he]
          rw [he] at hx
          obtain ⟨e, H'⟩ := y
          cases e with
          | ret v => exact ih _ _ _ _ hx
          | pan v => simp at hx
    · rw [if_neg hw] at hx ⊢
      exact ih _ _ _ _ hx
theorem icodeS_mono {J : Env} {call call' : CallR} (h : Mono call call') {k k' : Nat} (hk : k ≤ k') : ∀ (c : Code) (T : Regs) (H : IH) (u : RS) (r : IX × Regs × IH × RS), icodeS J call k c T H u = some r → icodeS J call' k' c T H u = some r := by
  have plain : ∀ (c : Code) (T : Regs) (H : IH) (u : RS) (r : IX × Regs × IH × RS),
      (match icode J call k c T H with
        | some (.pan _, _, _) => none
        | some (x, T', H') => some (x, T', H', u)
        | none => none) = some r →
      (match icode J call' k' c T H with
        | some (.pan _, _, _) => none
        | some (x, T', H') => some (x, T', H', u)
        | none => none) = some r := fun c T H u r hx => by
    cases he : icode J call k c T H with
    | none => simp [he] at hx
    | some y => rw [icode_mono h k c T H y k' hk he]; rw [he] at hx; exact hx
  intro c
  induction c with
  | seq a b iha ihb =>
    intro T H u r hx
    simp only [icodeS] at hx ⊢
    cases he : icodeS J call k a T H u with
    | none => simp [he] at hx
    | some y =>
      rw [iha _ _ _ _ he]
      rw [he] at hx
      obtain ⟨e, T', H', u'⟩ := y
      cases e <;> first | exact ihb _ _ _ _ hx | exact hx
  | region id ops draw =>
    intro T H u r hx
    cases draw with
    | true => simp only [icodeS] at hx ⊢; exact plain _ _ _ _ _ hx
    | false => simp only [icodeS] at hx ⊢; exact iopsS_mono h _ _ _ _ _ _ hx
  | _ => intro T H u r hx; simp only [icodeS] at hx ⊢; exact plain _ _ _ _ _ hx
theorem iopsD_mono {J : Env} {call call' : CallR} (h : Mono call call') (ops : Array Oper) : ∀ (l : List Oper) (T : Regs) (H : IH) (D : Defs) (r : IX × Regs × IH × Defs), iopsD J call ops l T H D = some r → iopsD J call' ops l T H D = some r := by
  intro l
  induction l with
  | nil => intro T H D r hx; exact hx
  | cons o l ih =>
    intro T H D r hx
    simp only [iopsD] at hx ⊢
    by_cases hw : wantedR ops T o = true
    · rw [if_pos hw] at hx ⊢
      by_cases hd : isDefer o = true
      · rw [if_pos hd] at hx ⊢
        cases hq : deferR T o with
        | none => simp [hq] at hx
        | some d =>
          simp only [hq] at hx ⊢
          by_cases hb : hasBody J d.1 = true
          · rw [if_pos hb] at hx ⊢; exact ih _ _ _ _ hx
          · rw [if_neg hb] at hx; simp at hx
      · rw [if_neg hd] at hx ⊢
        cases he : iexec J call o T H with
        | none => simp [he] at hx
        | some y =>
          rw [iexec_mono h he]
          rw [he] at hx
          obtain ⟨e, H'⟩ := y
          cases e with
          | ret v => exact ih _ _ _ _ hx
          | pan v => exact hx
    · rw [if_neg hw] at hx ⊢
      exact ih _ _ _ _ hx
theorem icodeD_mono {J : Env} {call call' : CallR} (h : Mono call call') {k k' : Nat} (hk : k ≤ k') (Ks : List Tmp) : ∀ (c : Code) (T : Regs) (H : IH) (D : Defs) (r : IX × Regs × IH × Defs), icodeD J call k Ks c T H D = some r → icodeD J call' k' Ks c T H D = some r := by
  have plain : ∀ (c : Code) (T : Regs) (H : IH) (D : Defs) (r : IX × Regs × IH × Defs),
      (match icode J call k c T H with
        | some (.pan v, T', H') => if Ks.all (keepsC c) then some (IX.pan v, T', H', D) else none
        | some (x, T', H') => some (x, T', H', D)
        | none => none) = some r →
      (match icode J call' k' c T H with
        | some (.pan v, T', H') => if Ks.all (keepsC c) then some (IX.pan v, T', H', D) else none
        | some (x, T', H') => some (x, T', H', D)
        | none => none) = some r := fun c T H D r hx => by
    cases he : icode J call k c T H with
    | none => simp [he] at hx
    | some y => rw [icode_mono h k c T H y k' hk he]; rw [he] at hx; exact hx
  intro c
  induction c with
  | seq a b iha ihb =>
    intro T H D r hx
    simp only [icodeD] at hx ⊢
    cases he : icodeD J call k Ks a T H D with
    | none => simp [he] at hx
    | some y =>
      rw [iha _ _ _ _ he]
      rw [he] at hx
      obtain ⟨e, T', H', D'⟩ := y
      cases e <;> first | exact ihb _ _ _ _ hx | exact hx
  | region id ops draw =>
    intro T H D r hx
    cases draw with
    | true => simp only [icodeD] at hx ⊢; exact plain _ _ _ _ _ hx
    | false => simp only [icodeD] at hx ⊢; exact iopsD_mono h _ _ _ _ _ _ hx
  | _ => intro T H D r hx; simp only [icodeD] at hx ⊢; exact plain _ _ _ _ _ hx
theorem icallD_mono {J : Env} {okf : FuncId → Bool} {call call' : CallR} (h : Mono call call') {k k' : Nat} (hk : k ≤ k') {g : FuncId} {args : List Value} {u : RS} {H : IH} {r : IH × RS} (hx : icallD J okf call k g args u H = some r) : icallD J okf call' k' g args u H = some r := by
  unfold icallD at hx ⊢
  split
  · rename_i h0
    rw [if_pos h0] at hx
    cases hf : J.fn g with
    | none => simp [hf] at hx
    | some fn =>
      simp only [hf] at hx ⊢
      cases hb : fn.body with
      | none => simp [hb] at hx
      | some c =>
        simp only [hb] at hx ⊢
        split
        · rename_i h3
          rw [if_pos h3] at hx
          cases he : icodeS J call k c (regsOf args 0 .leaf) H u with
          | none => simp [he] at hx
          | some y => rw [icodeS_mono h hk _ _ _ _ _ he]; rw [he] at hx; exact hx
        · rename_i h3; rw [if_neg h3] at hx; simp at hx
  · rename_i h0; rw [if_neg h0] at hx; simp at hx
theorem idefers_mono {J : Env} {okf : FuncId → Bool} {call call' : CallR} (h : Mono call call') {k k' : Nat} (hk : k ≤ k') : ∀ (D : Defs) (u : RS) (H : IH) (r : RS × IH), idefers J okf call k D u H = some r → idefers J okf call' k' D u H = some r := by
  intro D
  induction D with
  | nil => intro u H r hx; exact hx
  | cons d D ih =>
    intro u H r hx
    simp only [idefers] at hx ⊢
    cases he : icallD J okf call k d.1 d.2 u H with
    | none => simp [he] at hx
    | some y => rw [icallD_mono h hk he]; rw [he] at hx; exact ih _ _ _ hx
theorem icallF_mono {J : Env} {okf : FuncId → Bool} {call call' : CallR} (h : Mono call call') {k k' : Nat} (hk : k ≤ k') {fn : Func} {c : Code} {args : Array Value} {H : IH} {r : IE × IH} (hx : icallF J okf call k fn c args H = some r) : icallF J okf call' k' fn c args H = some r := by
  unfold icallF at hx ⊢
  have key : ∀ (all : Bool) (T : Regs) (D : Defs) (u : RS) (H' : IH), iend J fn T all (idefers J okf call k D u H') = some r → iend J fn T all (idefers J okf call' k' D u H') = some r := fun all T D u H' hx => by
    cases he : idefers J okf call k D u H' with
    | none => simp [he, iend] at hx
    | some y => rw [idefers_mono h hk _ _ _ _ he]; rw [he] at hx; exact hx
  cases he : icodeD J call k (cellRegs fn.results.toList) c (regsOf args.toList 0 .leaf) H [] with
  | none => simp [he] at hx
  | some y =>
    rw [icodeD_mono h hk _ _ _ _ _ _ he]
    rw [he] at hx
    obtain ⟨x, T', H', D⟩ := y
    cases x <;> first | exact key _ _ _ _ _ hx | exact hx
theorem icall_mono {J : Env} {okf : FuncId → Bool} : ∀ (k k' : Nat), k ≤ k' → Mono (icall J okf k) (icall J okf k') := by
  intro k
  induction k with
  | zero => intro k' _ f args H r hx; simp [icall] at hx
  | succ k ih =>
    intro k' hk f args H r hx
    obtain ⟨k', rfl⟩ : ∃ j, k' = j + 1 := ⟨k' - 1, by omega⟩
    have hk : k ≤ k' := by omega
    simp only [icall] at hx ⊢
    cases hh : J.hook f args.toList with
    | some v => simp only [hh] at hx ⊢; exact hx
    | none =>
    simp only [hh] at hx ⊢
    split
    · rename_i h0
      rw [if_pos h0] at hx
      cases hf : J.fn f with
      | none => simp [hf] at hx
      | some fn =>
        simp only [hf] at hx ⊢
        cases hb : fn.body with
        | none => simp [hb] at hx
        | some c =>
          simp only [hb] at hx ⊢
          split
          · rename_i h3
            rw [if_pos h3] at hx
            split
            · rename_i h5
              rw [if_pos h5] at hx
              exact icallF_mono (ih k' hk) hk hx
            rename_i h5
            rw [if_neg h5] at hx
            cases he : icode J (icall J okf k) k c (regsOf args.toList 0 .leaf) H with
            | none => simp [he] at hx
            | some y =>
              rw [icode_mono (ih k' hk) k c _ H y k' hk he]
              rw [he] at hx; exact hx
          · rename_i h3
            rw [if_neg h3] at hx
            simp at hx
    · rename_i h0
      rw [if_neg h0] at hx
      simp at hx
end Go.Proofs.YtchlbfmjnhgpgaaGreat.Idl
namespace Go.Proofs.YtchlbfmjnhgpgaaGreat.Idl
open Go Go.RowKit

/-! ### Code -/
section
variable (J : Env) (call : CallR) (k : Nat) (T : Regs) (H : IH)
def seqNext (J : Env) (call : CallR) (k : Nat) (b : Code) (r : Option (IX × Regs × IH)) : Option (IX × Regs × IH) :=
  match r with
  | some (.normal, T', H') => icode J call k b T' H'
  | r => r
@[simp] theorem run_skip : icode J call (k + 1) .skip T H = some (.normal, T, H) := rfl
@[simp] theorem run_label (l : Nat) : icode J call (k + 1) (.label l) T H = some (.normal, T, H) := rfl
@[simp] theorem run_exit (i : Nat) : icode J call (k + 1) (.exit i) T H = some (.exit i, T, H) := rfl
@[simp] theorem run_ret : icode J call (k + 1) .ret T H = some (.ret, T, H) := rfl
@[simp] theorem run_region (i : Nat) (ops : List Oper) : icode J call (k + 1) (.region i ops.toArray false) T H = iops J call ops.toArray ops T H := by simp [icode]
@[simp] theorem run_seq (a b : Code) : icode J call (k + 1) (.seq a b) T H = seqNext J call k b (icode J call k a T H) := by simp only [icode]; rfl
@[simp] theorem seq_normal (b : Code) : seqNext J call k b (some (.normal, T, H)) = icode J call k b T H := rfl
@[simp] theorem seq_exit (b : Code) (i : Nat) : seqNext J call k b (some (.exit i, T, H)) = some (.exit i, T, H) := rfl
@[simp] theorem seq_ret (b : Code) : seqNext J call k b (some (.ret, T, H)) = some (.ret, T, H) := rfl
@[simp] theorem seq_pan (b : Code) (v : Value) : seqNext J call k b (some (.pan v, T, H)) = some (.pan v, T, H) := rfl
def condNext (J : Env) (call : CallR) (k : Nat) (x y : Code) (T : Regs) (H : IH) (v : Value) : Option (IX × Regs × IH) :=
  match v with
  | .bool true => icode J call k x T H
  | .bool false => icode J call k y T H
  | _ => none
@[simp] theorem run_cond (c : Operand) (x y : Code) : icode J call (k + 1) (.cond c x y) T H = condNext J call k x y T H (iev T c) := rfl
@[simp] theorem cond_t (x y : Code) : condNext J call k x y T H (.bool true) = icode J call k x T H := rfl
@[simp] theorem cond_f (x y : Code) : condNext J call k x y T H (.bool false) = icode J call k y T H := rfl
@[simp] theorem run_block (id : Nat) (c : Code) : icode J call (k + 1) (.block id c) T H = blockOut id (icode J call k c T H) := by simp only [icode]; rfl
attribute [simp] blockOut_normal blockOut_exit blockOut_ret blockOut_pan finish_normal finish_ret finish_pan
/-! ### Regions -/
def opRes (J : Env) (call : CallR) (ops : Array Oper) (r : List Oper) (d : Option Tmp) (T : Regs) (x : Option (IE × IH)) : Option (IX × Regs × IH) :=
  match x with
  | some (.ret v, H') => iops J call ops r (putR T d v) H'
  | some (.pan v, H') => some (.pan v, T, H')
  | none => none
def opGo (J : Env) (call : CallR) (ops : Array Oper) (r : List Oper) (o : Oper) (T : Regs) (H : IH) (b : Bool) : Option (IX × Regs × IH) :=
  match b with
  | true => opRes J call ops r o.dst T (orStep call (iop J o T H))
  | false => iops J call ops r (putR T o.dst undef) H
@[simp] theorem ops_nil (ops : Array Oper) : iops J call ops [] T H = some (.normal, T, H) := rfl
@[simp] theorem ops_cons (ops : Array Oper) (o : Oper) (r : List Oper) : iops J call ops (o :: r) T H = opGo J call ops r o T H (wantedR ops T o) := by
  rw [iops_cons, iexec_eq]
  cases wantedR ops T o <;> rfl
@[simp] theorem go_true (ops : Array Oper) (r : List Oper) (o : Oper) : opGo J call ops r o T H true = opRes J call ops r o.dst T (orStep call (iop J o T H)) := rfl
@[simp] theorem go_false (ops : Array Oper) (r : List Oper) (o : Oper) : opGo J call ops r o T H false = iops J call ops r (putR T o.dst undef) H := rfl
@[simp] theorem res_ret (ops : Array Oper) (r : List Oper) (d : Option Tmp) (v : Value) : opRes J call ops r d T (some (.ret v, H)) = iops J call ops r (putR T d v) H := rfl
@[simp] theorem res_pan (ops : Array Oper) (r : List Oper) (d : Option Tmp) (v : Value) : opRes J call ops r d T (some (.pan v, H)) = some (.pan v, T, H) := rfl
attribute [simp] orStep_val orStep_pan orStep_enter
@[simp] theorem put_none (v : Value) : putR T none v = T := rfl
@[simp] theorem put_some (d : Tmp) (v : Value) : putR T (some d) v = T.set d v := rfl
attribute [simp] at_leaf
@[simp] theorem at_set_eq (t : Nat) (v : Value) : Regs.at (Tr.set T t v) t = v := by rw [at_set, if_pos rfl]
@[simp] theorem at_set_ne (d t : Nat) (v : Value) (h : (t = d) = False) : Regs.at (Tr.set T d v) t = T.at t := by rw [at_set, if_neg (by simp [h])]
@[simp] theorem iev_tmp (t : Tmp) : iev T (.tmp t) = T.at t := id rfl
@[simp] theorem iev_const (v : Value) : iev T (.const v) = v := id rfl
@[simp] theorem iev_global (g : Nat) : iev T (.global g) = .pointer (some ⟨g, 0, none⟩) := id rfl
@[simp] theorem iev_func (f : FuncId) : iev T (.func f) = .func (.func f) #[] #[] := id rfl
def guardB (v : Value) (want : Bool) : Bool :=
  match v with
  | .bool b => b == want
  | _ => false
@[simp] theorem guardB_bool (b want : Bool) : guardB (.bool b) want = (b == want) := rfl
@[simp] theorem wanted_none (ops : Array Oper) (dst : Option Tmp) (op : Op) (type : TypeId) (pos : String) (after : Array Edge) : wantedR ops T ⟨dst, op, type, pos, after, none⟩ = true := rfl
@[simp] theorem wanted_some (ops : List Oper) (dst : Option Tmp) (op : Op) (type : TypeId) (pos : String) (after : Array Edge) (j : Nat) (want : Bool) :
    wantedR ops.toArray T ⟨dst, op, type, pos, after, some (j, want)⟩ = (match (ops[j]?).bind (·.dst) with | some d => guardB (T.at d) want | none => false) := by
  simp only [wantedR, List.getElem?_toArray]
  rfl

/-! ### Operations -/
section
variable (dst : Option Tmp) (type : TypeId) (pos : String) (after : Array Edge) (guard : Option (Nat × Bool))
@[simp] theorem iop_move (x : Operand) : iop J ⟨dst, .move x, type, pos, after, guard⟩ T H = some (.val (iev T x) H) := rfl
@[simp] theorem iop_assign (x : Operand) : iop J ⟨dst, .assign x, type, pos, after, guard⟩ T H = some (.val (iev T x) H) := rfl
def pickR (c a b : Value) (H : IH) : Option OR :=
  match c with
  | .bool true => some (.val a H)
  | .bool false => some (.val b H)
  | _ => none
@[simp] theorem iop_pick (c a b : Operand) : iop J ⟨dst, .pick c a b, type, pos, after, guard⟩ T H = pickR (iev T c) (iev T a) (iev T b) H := rfl
@[simp] theorem pick_t (a b : Value) : pickR (.bool true) a b H = some (.val a H) := rfl
@[simp] theorem pick_f (a b : Value) : pickR (.bool false) a b H = some (.val b H) := rfl
@[simp] theorem iop_alloc (e : TypeId) : iop J ⟨dst, .alloc e, type, pos, after, guard⟩ T H = (J.zero e).map fun z => .val (inew H e z.cells.toList).1 (inew H e z.cells.toList).2 := rfl
@[simp] theorem iop_box (e : TypeId) (x : Operand) : iop J ⟨dst, .box e x, type, pos, after, guard⟩ T H = (J.size e).map fun _ => .val (inew H e (iev T x).cells.toList).1 (inew H e (iev T x).cells.toList).2 := rfl
@[simp] theorem iop_build (t : TypeId) (ps : Array (Nat × Operand)) : iop J ⟨dst, .build t ps, type, pos, after, guard⟩ T H = OR.ofVal H (ibuild J t (iparts T ps)) := rfl
@[simp] theorem iop_buildSlice (t : TypeId) (n : Nat) (ps : Array (Nat × Operand)) : iop J ⟨dst, .buildSlice t n ps, type, pos, after, guard⟩ T H = OR.ofPair (ibuildSlice J t n (iparts T ps) H) := rfl
def loadR (J : Env) (t : TypeId) (a : Value) (H : IH) : Option OR :=
  match a with
  | .pointer (some ad) => OR.ofVal H (iload J t ad H)
  | _ => none
@[simp] theorem iop_load (t : TypeId) (a : Operand) : iop J ⟨dst, .load t a, type, pos, after, guard⟩ T H = loadR J t (iev T a) H := rfl
@[simp] theorem load_ptr (t : TypeId) (a : Addr) : loadR J t (.pointer (some a)) H = OR.ofVal H (iload J t a H) := rfl
def storeR (J : Env) (t : TypeId) (a v : Value) (H : IH) : Option OR :=
  match a with
  | .pointer (some ad) => OR.ofHeap (istore J t ad v H)
  | _ => none
@[simp] theorem iop_store (t : TypeId) (a x : Operand) : iop J ⟨dst, .store t a x, type, pos, after, guard⟩ T H = storeR J t (iev T a) (iev T x) H := rfl
@[simp] theorem store_ptr (t : TypeId) (a : Addr) (v : Value) : storeR J t (.pointer (some a)) v H = OR.ofHeap (istore J t a v H) := rfl
def nilCheckR (v : Value) (H : IH) : Option OR :=
  match v with
  | .pointer (some a) => some (.val (.pointer (some a)) H)
  | .func (.func g) first captured => some (.val (.func (.func g) first captured) H)
  | _ => none
@[simp] theorem iop_nilCheck (x : Operand) : iop J ⟨dst, .nilCheck x, type, pos, after, guard⟩ T H = nilCheckR (iev T x) H := rfl
@[simp] theorem nilCheck_ptr (a : Addr) : nilCheckR (.pointer (some a)) H = some (.val (.pointer (some a)) H) := rfl
@[simp] theorem nilCheck_func (g : FuncId) (xs ys : Array Value) : nilCheckR (.func (.func g) xs ys) H = some (.val (.func (.func g) xs ys) H) := rfl
@[simp] theorem ofVal_some (v : Value) : OR.ofVal H (some v) = some (.val v H) := rfl
@[simp] theorem ofPair_some (v : Value) : OR.ofPair (some (v, H)) = some (.val v H) := rfl
@[simp] theorem ofHeap_some : OR.ofHeap (some H) = some (.val undef H) := rfl
@[simp] theorem iop_makeFunc (g : FuncId) (first captured : Array Operand) : iop J ⟨dst, .makeFunc (.func g) first captured, type, pos, after, guard⟩ T H = some (.val (.func (.func g) (first.map (iev T)) (captured.map (iev T))) H) := rfl
@[simp] theorem iop_makeMap (t : TypeId) : iop J ⟨dst, .makeMap t none, type, pos, after, guard⟩ T H = some (.val (.map (some H.next)) (H.push (.map [] false))) := rfl
@[simp] theorem iop_makeSlice (t : TypeId) (l c : Operand) : iop J ⟨dst, .makeSlice t l c, type, pos, after, guard⟩ T H = OR.ofPair (imakeSlice J t (iev T l) (iev T c) H) := rfl
@[simp] theorem iop_slice (t : TypeId) (x : Operand) (lo hi mx : Option Operand) : iop J ⟨dst, .slice t x lo hi mx, type, pos, after, guard⟩ T H = OR.ofVal H (islice J t (iev T x) (lo.map (iev T)) (hi.map (iev T)) (mx.map (iev T)) H) := rfl
@[simp] theorem iop_fieldAddr (s : TypeId) (x : Operand) (f : Nat) : iop J ⟨dst, .fieldAddr s x f, type, pos, after, guard⟩ T H = OR.ofVal H (ifieldAddr J s (iev T x) f) := rfl
@[simp] theorem iop_field (s : TypeId) (x : Operand) (f : Nat) : iop J ⟨dst, .field s x f, type, pos, after, guard⟩ T H = OR.ofVal H (ifield J s (iev T x) f) := rfl
@[simp] theorem iop_indexAddr (t : TypeId) (x i : Operand) : iop J ⟨dst, .indexAddr t x i, type, pos, after, guard⟩ T H = OR.ofVal H (iindexAddr J t (iev T x) (iev T i)) := rfl
@[simp] theorem iop_index (t : TypeId) (x i : Operand) : iop J ⟨dst, .index t x i, type, pos, after, guard⟩ T H = OR.ofVal H (iindex J t (iev T x) (iev T i)) := rfl
@[simp] theorem iop_lookup (t : TypeId) (x i : Operand) (ok : Bool) : iop J ⟨dst, .lookup t x i ok, type, pos, after, guard⟩ T H = OR.ofVal H (ilookup J t (iev T x) (iev T i) ok H) := rfl
@[simp] theorem iop_mapUpdate (t : TypeId) (m k v : Operand) : iop J ⟨dst, .mapUpdate t m k v, type, pos, after, guard⟩ T H = OR.ofHeap (imapUpdate J t (iev T m) (iev T k) (iev T v) H) := rfl
@[simp] theorem iop_insert (t : TypeId) (m k v : Operand) : iop J ⟨dst, .insert t m k v, type, pos, after, guard⟩ T H = OR.ofHeap (imapUpdate J t (iev T m) (iev T k) (iev T v) H) := rfl
def extractR (v : Value) (i : Nat) (H : IH) : Option OR :=
  match v with
  | .tuple vs => OR.ofVal H (vs[i]?)
  | _ => none
@[simp] theorem iop_extract (x : Operand) (i : Nat) : iop J ⟨dst, .extract x i, type, pos, after, guard⟩ T H = extractR (iev T x) i H := rfl
@[simp] theorem extract_tuple (vs : List Value) (i : Nat) : extractR (.tuple vs.toArray) i H = OR.ofVal H (vs[i]?) := by simp [extractR]
def funcR (J : Env) (f : Value) (args : Array Value) (o : Oper) (T : Regs) (H : IH) : Option OR :=
  match f with
  | .func (.func g) first captured => if hasBody J g then some (.enter g (first ++ args ++ captured) H) else if J.ident g then identR (first ++ args ++ captured).toList H else ipure J o T H
  | _ => none
@[simp] theorem iop_callf (f : Operand) (args : Array Operand) (at_ : Array TypeId) : iop J ⟨dst, .call ⟨.value f, args, at_⟩, type, pos, after, guard⟩ T H = funcR J (iev T f) (args.map (iev T)) ⟨dst, .call ⟨.value f, args, at_⟩, type, pos, after, guard⟩ T H := rfl
@[simp] theorem func_ident (g : FuncId) (v : Value) (o : Oper) (h : hasBody J g = false) (hi : J.ident g = true) : funcR J (.func (.func g) #[] #[]) #[v] o T H = some (.val v H) := by simp [funcR, h, hi, identR]
@[simp] theorem func_body (g : FuncId) (first captured args : Array Value) (o : Oper) (h : hasBody J g = true) : funcR J (.func (.func g) first captured) args o T H = some (.enter g (first ++ args ++ captured) H) := by simp [funcR, h]
def lenR (J : Env) (t : TypeId) (x : Value) (H : IH) : Option OR :=
  match J.und t, x with
  | some (.slice _), .slice _ n _ => some (.val (.int .i64 n) H)
  | some (.map _ _), .map (some r) => match H.get r with
    | some (.map es _) => some (.val (.int .i64 es.length) H)
    | _ => none
  | some .string, .string s => some (.val (.int .i64 s.size) H)
  | _, _ => none
theorem iop_len' (x : Operand) (t : TypeId) (r : OR) (h : lenR J t (iev T x) H = some r) : iop J ⟨dst, .call ⟨.builtin .len, #[x], #[t]⟩, type, pos, after, guard⟩ T H = some r := by
  unfold lenR at h
  simp only [iop, icall0]
  simp only [List.getElem?_toArray, List.getElem?_cons_zero]
  split at h
  · rename_i e a n c hu hx
    rw [hu, hx]; exact h
  · rename_i e kk r' hu hx
    rw [hu, hx]; exact h
  · rename_i s hu hx
    cases h
    rw [hu, hx]
    have e1 : execOp (iev T) ⟨dst, .call ⟨.builtin .len, #[x], #[t]⟩, type, pos, after, guard⟩ = (do pure (.value (← Builtin.len_ #[t] type #[.string s])) : Sem Next) := by
      simp only [execOp, resolve]
      simp [hx]
      rfl
    have e2 : pureRun J.P (execOp (iev T) ⟨dst, .call ⟨.builtin .len, #[x], #[t]⟩, type, pos, after, guard⟩) = some (.value (.int .i64 s.size)) := by
      rw [e1]
      show pureRun J.P (Sem.bind _ _) = _
      have hu' := J.und_ok hu
      simp [Builtin.len_, underlying, program, bind, Sem.bind, pureRun, hu', pure, goInt]
    simp only [ipure, e2]
    simp [Op.operands, Call.operands, hx, flat, flatN]
  · simp at h
end
end
end Go.Proofs.YtchlbfmjnhgpgaaGreat.Idl
namespace Go.Proofs.YtchlbfmjnhgpgaaGreat.Idl
open Go Go.RowKit

section
variable (J : Env) (T : Regs) (H : IH) (dst : Option Tmp) (type : TypeId) (pos : String) (after : Array Edge) (guard : Option (Nat × Bool))
def pureR (r : Option Value) (H : IH) : Option OR :=
  match r with
  | some v => if flat v then some (.val v H) else none
  | none => none
def binR (J : Env) (op : BinOp) (t : TypeId) (x y : Operand) (a b : Value) (H : IH) : Option OR :=
  match op, nilEq a b with
  | .eql, some r => if fitsNil J t a && fitsNil J t b then some (.val (.bool r) H) else none
  | .neq, some r => if fitsNil J t a && fitsNil J t b then some (.val (.bool (!r)) H) else none
  | _, _ => if flat a && flat b then pureR (pureRun J.P (do eqGuard op t x y a b; binOp op t a b)) H else none
theorem pureRun_bind {α β : Type} (P : Program) (s : Sem α) (f : α → Sem β) : pureRun P (s >>= f) = (pureRun P s).bind fun a => pureRun P (f a) := by
  show pureRun P (Sem.bind s f) = _
  induction s with
  | pure a => rfl
  | program k ih => exact ih P
  | mark m k ih => exact ih
  | _ => rfl
@[simp] theorem iop_binOp (op : BinOp) (t yt : TypeId) (x y : Operand) : iop J ⟨dst, .binOp op t x y yt, type, pos, after, guard⟩ T H = binR J op t x y (iev T x) (iev T y) H := by
  have hp : ipure J ⟨dst, .binOp op t x y yt, type, pos, after, guard⟩ T H = if flat (iev T x) && flat (iev T y) then pureR (pureRun J.P (do eqGuard op t x y (iev T x) (iev T y); binOp op t (iev T x) (iev T y))) H else none := by
    unfold ipure
    have h1 : ((⟨dst, .binOp op t x y yt, type, pos, after, guard⟩ : Oper).op.operands.all fun z => flat (iev T z)) = (flat (iev T x) && flat (iev T y)) := by simp [Op.operands]
    rw [h1]
    split
    · have h2 : execOp (iev T) ⟨dst, .binOp op t x y yt, type, pos, after, guard⟩ = (do pure (Next.value (← (do eqGuard op t x y (iev T x) (iev T y); binOp op t (iev T x) (iev T y)))) : Sem Next) := rfl
      rw [h2, pureRun_bind]
      unfold pureR
      cases pureRun J.P (do eqGuard op t x y (iev T x) (iev T y); binOp op t (iev T x) (iev T y)) <;> rfl
    · rfl
  unfold binR
  simp only [iop, hp]
  rfl
theorem binR_pure {op : BinOp} {t : TypeId} {x y : Operand} {a b : Value} {v : Value} (hn : nilEq a b = none) (hf : (flat a && flat b) = true) (hg : eqGuard op t x y a b = pure ()) (hb : pureRun J.P (binOp op t a b) = some v) (hv : flat v = true) :
    binR J op t x y a b H = some (.val v H) := by
  unfold binR
  rw [hn]
  have : pureR (pureRun J.P (do eqGuard op t x y a b; binOp op t a b)) H = some (.val v H) := by
    rw [hg]
    show pureR (pureRun J.P (binOp op t a b)) H = _
    rw [hb]; simp [pureR, hv]
  cases op <;> simp [hf, this]
section
variable (t : TypeId) (x y : Operand) (k : IntKind) (a b : Int)
@[simp] theorem bin_add : binR J .add t x y (.int k a) (.int k b) H = some (.val (.int k (k.wrap (a + b))) H) := binR_pure J H rfl rfl rfl (by simp [binOp, Op.intArith, pure, pureRun]) rfl
@[simp] theorem bin_sub : binR J .sub t x y (.int k a) (.int k b) H = some (.val (.int k (k.wrap (a - b))) H) := binR_pure J H rfl rfl rfl (by simp [binOp, Op.intArith, pure, pureRun]) rfl
@[simp] theorem bin_mul : binR J .mul t x y (.int k a) (.int k b) H = some (.val (.int k (k.wrap (a * b))) H) := binR_pure J H rfl rfl rfl (by simp [binOp, Op.intArith, pure, pureRun]) rfl
@[simp] theorem bin_quo (h : (b = 0) = False) : binR J .quo t x y (.int k a) (.int k b) H = some (.val (.int k (k.wrap (a.tdiv b))) H) := binR_pure J H rfl rfl rfl (by simp [binOp, Op.intDiv, pure, pureRun, h]) rfl
@[simp] theorem bin_rem (h : (b = 0) = False) : binR J .rem t x y (.int k a) (.int k b) H = some (.val (.int k (a.tmod b)) H) := binR_pure J H rfl rfl rfl (by simp [binOp, Op.intDiv, pure, pureRun, h]) rfl
@[simp] theorem bin_lss : binR J .lss t x y (.int k a) (.int k b) H = some (.val (.bool (decide (a < b))) H) := binR_pure J H rfl rfl rfl (by simp [binOp, Op.intCmp, pure, pureRun]) rfl
@[simp] theorem bin_leq : binR J .leq t x y (.int k a) (.int k b) H = some (.val (.bool (decide (a ≤ b))) H) := binR_pure J H rfl rfl rfl (by simp [binOp, Op.intCmp, pure, pureRun]) rfl
@[simp] theorem bin_gtr : binR J .gtr t x y (.int k a) (.int k b) H = some (.val (.bool (decide (b < a))) H) := binR_pure J H rfl rfl rfl (by simp [binOp, Op.intCmp, pure, pureRun]) rfl
@[simp] theorem bin_geq : binR J .geq t x y (.int k a) (.int k b) H = some (.val (.bool (decide (b ≤ a))) H) := binR_pure J H rfl rfl rfl (by simp [binOp, Op.intCmp, pure, pureRun]) rfl
@[simp] theorem bin_eql : binR J .eql t x y (.int k a) (.int k b) H = some (.val (.bool (decide (a = b))) H) := binR_pure J H rfl rfl rfl (by simp [binOp, Op.intCmp, pure, pureRun]; rfl) rfl
@[simp] theorem bin_neq : binR J .neq t x y (.int k a) (.int k b) H = some (.val (.bool (!decide (a = b))) H) := binR_pure J H rfl rfl rfl (by simp [binOp, Op.intCmp, pure, pureRun, bne]; rfl) rfl
@[simp] theorem bin_shl (k2 : IntKind) (h : (b < 0) = False) : binR J .shl t x y (.int k a) (.int k2 b) H = some (.val (.int k (k.wrap (a * 2 ^ min b.toNat k.bits))) H) := binR_pure J H rfl rfl rfl (by simp [binOp, Op.shift, pure, pureRun, h]) rfl
@[simp] theorem bin_shr (k2 : IntKind) (h : (b < 0) = False) : binR J .shr t x y (.int k a) (.int k2 b) H = some (.val (.int k (a.fdiv (2 ^ min b.toNat k.bits))) H) := binR_pure J H rfl rfl rfl (by simp [binOp, Op.shift, pure, pureRun, h]) rfl
end
section
variable (t : TypeId) (x y : Operand) (s u : ByteArray)
theorem toList_eq (s u : ByteArray) : (s.toList == u.toList) = decide (s = u) := by
  rw [← beq_toListBytes, Bool.eq_iff_iff, decide_eq_true_eq]
  exact ⟨ba_eq, fun h => by rw [h]; exact ba_self _⟩
@[simp] theorem bin_seql : binR J .eql t x y (.string s) (.string u) H = some (.val (.bool (decide (s = u))) H) := binR_pure J H rfl rfl rfl (by simp [binOp, Op.stringOp, pure, pureRun, toList_eq]) rfl
@[simp] theorem bin_sneq : binR J .neq t x y (.string s) (.string u) H = some (.val (.bool (!decide (s = u))) H) := binR_pure J H rfl rfl rfl (by simp [binOp, Op.stringOp, pure, pureRun, toList_eq]) rfl
@[simp] theorem bin_sadd (h : (((s.size + u.size : Nat) : Int) > 9223372036854775807) = False) : binR J .add t x y (.string s) (.string u) H = some (.val (.string (s ++ u)) H) :=
  binR_pure J H rfl rfl rfl (by
    have h' : ¬ (((s.size + u.size : Nat) : Int) > IntKind.i64.max) := by
      rw [show IntKind.i64.max = 9223372036854775807 from rfl]; simpa using h
    simp only [binOp, Op.stringOp]
    rw [if_neg h']
    rfl) rfl
end
@[simp] theorem bin_beql (t : TypeId) (x y : Operand) (a b : Bool) (h : J.und t = some .bool) : binR J .eql t x y (.bool a) (.bool b) H = some (.val (.bool (a == b)) H) := binR_pure J H rfl rfl rfl (by
    simp only [binOp, Op.equal, Op.maxDepth]
    rw [pureRun_bind]
    have : pureRun J.P (Op.equalIn 10000 t (.bool a) (.bool b)) = some (a == b) := by
      show pureRun J.P (Op.equalIn (9999 + 1) t (.bool a) (.bool b)) = _
      unfold Op.equalIn
      rw [pureRun_bind]
      have : pureRun J.P (underlying t) = some .bool := by
        unfold underlying
        rw [pureRun_bind]
        simp [program, pureRun, J.und_ok h, pure]
      rw [this]; rfl
    rw [this]; rfl) rfl
@[simp] theorem bin_nil_eql (t : TypeId) (x y : Operand) (a b : Value) (r : Bool) (h : nilEq a b = some r) (hf : (fitsNil J t a && fitsNil J t b) = true) : binR J .eql t x y a b H = some (.val (.bool r) H) := by
  unfold binR
  rw [h]; simp only [hf, if_true]
@[simp] theorem bin_nil_neq (t : TypeId) (x y : Operand) (a b : Value) (r : Bool) (h : nilEq a b = some r) (hf : (fitsNil J t a && fitsNil J t b) = true) : binR J .neq t x y a b H = some (.val (.bool (!r)) H) := by
  unfold binR
  rw [h]; simp only [hf, if_true]
theorem iop_len_string (x : Operand) (t : TypeId) (s : ByteArray) (hx : iev T x = .string s) (hu : J.und t = some .string) : iop J ⟨dst, .call ⟨.builtin .len, #[x], #[t]⟩, type, pos, after, guard⟩ T H = some (.val (.int .i64 s.size) H) :=
  iop_len' J T H dst type pos after guard x t _ (by simp [lenR, hx, hu])
theorem iop_len_slice (x : Operand) (t e : TypeId) (a : Option Addr) (n c : Nat) (hx : iev T x = .slice a n c) (hu : J.und t = some (.slice e)) : iop J ⟨dst, .call ⟨.builtin .len, #[x], #[t]⟩, type, pos, after, guard⟩ T H = some (.val (.int .i64 n) H) :=
  iop_len' J T H dst type pos after guard x t _ (by simp [lenR, hx, hu])
def lenV (J : Env) (t : TypeId) (v : Value) : Option Value :=
  match v with
  | .string s => if (J.und t matches some .string) then some (.int .i64 s.size) else none
  | .slice _ n _ => if (J.und t matches some (.slice _)) then some (.int .i64 n) else none
  | _ => none
theorem iop_len (x : Operand) (t : TypeId) (v : Value) (h : lenV J t (iev T x) = some v) : iop J ⟨dst, .call ⟨.builtin .len, #[x], #[t]⟩, type, pos, after, guard⟩ T H = some (.val v H) := by
  unfold lenV at h
  split at h
  · rename_i s hx
    split at h
    · rename_i hu
      cases h
      exact iop_len_string J T H dst type pos after guard x t s hx hu
    · simp at h
  · rename_i a n c hx
    split at h
    · rename_i hu
      cases h
      exact iop_len_slice J T H dst type pos after guard x t _ a n c hx hu
    · simp at h
  · simp at h
@[simp] theorem iop_append (x y : Operand) (at_ : Array TypeId) : iop J ⟨dst, .call ⟨.builtin .append, #[x, y], at_⟩, type, pos, after, guard⟩ T H = OR.ofPair (iappend J at_ (iev T x) (iev T y) H) := by
  simp [iop, icall0]
@[simp] theorem iop_unsafeString (x y : Operand) (pt : TypeId) (at_ : Array TypeId) (h : at_[0]? = some pt) : iop J ⟨dst, .call ⟨.builtin .unsafeString, #[x, y], at_⟩, type, pos, after, guard⟩ T H = OR.ofPair (iunsafeString J pt (iev T x) (iev T y) H) := by
  simp [iop, icall0, h]
@[simp] theorem iop_sliceData (x : Operand) (at_ : Array TypeId) : iop J ⟨dst, .call ⟨.builtin .unsafeSliceData, #[x], at_⟩, type, pos, after, guard⟩ T H = OR.ofVal H (isliceData (iev T x)) := by
  simp [iop, icall0]
@[simp] theorem iop_copy (x y : Operand) (at_ : Array TypeId) : iop J ⟨dst, .call ⟨.builtin .copy, #[x, y], at_⟩, type, pos, after, guard⟩ T H = OR.ofPair (icopy J at_ (iev T x) (iev T y) H) := by
  simp [iop, icall0]
end
end Go.Proofs.YtchlbfmjnhgpgaaGreat.Idl
namespace Go.Proofs.YtchlbfmjnhgpgaaGreat.Idl
open Go Go.RowKit

section
variable {α : Type}
open Classical in
noncomputable def lim (f : Nat → Option α) : Option α := if h : ∃ k v, f k = some v then f (Classical.choose h) else none
def MonoS (f : Nat → Option α) : Prop := ∀ k k', k ≤ k' → ∀ v, f k = some v → f k' = some v
theorem lim_of {f : Nat → Option α} (hm : MonoS f) {k : Nat} {v : α} (h : f k = some v) : lim f = some v := by
  have he : ∃ k v, f k = some v := ⟨k, v, h⟩
  unfold lim
  rw [dif_pos he]
  obtain ⟨u, hu⟩ := Classical.choose_spec he
  rw [hu]
  rcases Nat.le_total k (Classical.choose he) with h1 | h1
  · rw [hm _ _ h1 v h] at hu; exact hu.symm
  · rw [hm _ _ h1 u hu] at h; exact h
theorem of_lim {f : Nat → Option α} (hm : MonoS f) {v : α} (h : lim f = some v) : ∃ k, ∀ j, k ≤ j → f j = some v := by
  unfold lim at h
  split at h
  · exact ⟨_, fun j hj => hm _ _ hj v h⟩
  · simp at h
theorem opt_ext {a b : Option α} (h1 : ∀ v, a = some v → b = some v) (h2 : ∀ v, b = some v → a = some v) : a = b := by
  cases a with
  | some v => exact (h1 v rfl).symm
  | none => cases b with
    | some v => exact h2 v rfl
    | none => rfl
end

noncomputable def cal (J : Env) (okf : FuncId → Bool) (f : FuncId) (args : Array Value) (H : IH) : Option (IE × IH) := lim fun k => icall J okf k f args H
noncomputable def run (J : Env) (okf : FuncId → Bool) (c : Code) (T : Regs) (H : IH) : Option (IX × Regs × IH) := lim fun k => icode J (icall J okf k) k c T H
section
variable {J : Env} {okf : FuncId → Bool}
theorem cal_mono (f : FuncId) (args : Array Value) (H : IH) : MonoS fun k => icall J okf k f args H := fun k k' hk v h => icall_mono k k' hk f args H v h
theorem run_mono (c : Code) (T : Regs) (H : IH) : MonoS fun k => icode J (icall J okf k) k c T H := fun k k' hk v h => icode_mono (icall_mono k k' hk) k c T H v k' hk h
theorem cal_of {k : Nat} {f : FuncId} {args : Array Value} {H : IH} {r : IE × IH} (h : icall J okf k f args H = some r) : cal J okf f args H = some r := lim_of (cal_mono f args H) h
theorem of_cal {f : FuncId} {args : Array Value} {H : IH} {r : IE × IH} (h : cal J okf f args H = some r) : ∃ k, ∀ j, k ≤ j → icall J okf j f args H = some r := of_lim (cal_mono f args H) h
theorem run_of {k1 k2 : Nat} {c : Code} {T : Regs} {H : IH} {r : IX × Regs × IH} (h : icode J (icall J okf k1) k2 c T H = some r) : run J okf c T H = some r :=
  lim_of (run_mono c T H) (k := max k1 k2) (icode_mono (icall_mono k1 _ (Nat.le_max_left _ _)) k2 c T H r _ (Nat.le_max_right _ _) h)
theorem of_run {c : Code} {T : Regs} {H : IH} {r : IX × Regs × IH} (h : run J okf c T H = some r) : ∃ k, ∀ k1 k2, k ≤ k1 → k ≤ k2 → icode J (icall J okf k1) k2 c T H = some r := by
  obtain ⟨k, hk⟩ := of_lim (run_mono c T H) h
  exact ⟨k, fun k1 k2 h1 h2 => icode_mono (icall_mono k k1 h1) k c T H r k2 h2 (hk k (Nat.le_refl _))⟩
theorem mono_cal (k : Nat) : Mono (icall J okf k) (cal J okf) := fun _ _ _ _ h => cal_of h
theorem of_iexec {o : Oper} {T : Regs} {H : IH} {r : IE × IH} (h : iexec J (cal J okf) o T H = some r) : ∃ k, ∀ j, k ≤ j → iexec J (icall J okf j) o T H = some r := by
  rw [iexec_eq] at h
  cases hi : iop J o T H with
  | none => simp [hi, orStep] at h
  | some y =>
    cases y with
    | enter f args H' =>
      rw [hi] at h
      obtain ⟨k, hk⟩ := of_cal (r := r) h
      exact ⟨k, fun j hj => by rw [iexec_eq, hi]; exact hk j hj⟩
    | _ => exact ⟨0, fun j _ => by rw [iexec_eq, hi]; rw [hi] at h; exact h⟩
theorem of_iops (ops : Array Oper) : ∀ (l : List Oper) (T : Regs) (H : IH) (r : IX × Regs × IH), iops J (cal J okf) ops l T H = some r → ∃ k, ∀ j, k ≤ j → iops J (icall J okf j) ops l T H = some r := by
  intro l
  induction l with
  | nil => intro T H r h; exact ⟨0, fun _ _ => h⟩
  | cons o l ih =>
    intro T H r h
    rw [iops_cons] at h
    by_cases hw : wantedR ops T o = true
    · rw [if_pos hw] at h
      cases he : iexec J (cal J okf) o T H with
      | none => simp [he, opStep] at h
      | some y =>
        obtain ⟨k1, hk1⟩ := of_iexec he
        rw [he] at h
        obtain ⟨e, H'⟩ := y
        cases e with
        | ret v =>
          obtain ⟨k2, hk2⟩ := ih _ _ _ h
          refine ⟨max k1 k2, fun j hj => ?_⟩
          rw [iops_cons, if_pos hw, hk1 j (by omega)]
          exact hk2 j (by omega)
        | pan v =>
          refine ⟨k1, fun j hj => ?_⟩
          rw [iops_cons, if_pos hw, hk1 j hj]
          exact h
    · rw [if_neg hw] at h
      obtain ⟨k2, hk2⟩ := ih _ _ _ h
      refine ⟨k2, fun j hj => ?_⟩
      rw [iops_cons, if_neg hw]
      exact hk2 j hj
theorem of_drun (ops : Array Oper) : ∀ (l : List Oper) (s : DSt) (r : DSt × Option Value), drun J (cal J okf) ops l s = some r → ∃ k, ∀ j, k ≤ j → drun J (icall J okf j) ops l s = some r := by
  intro l
  induction l with
  | nil => intro s r h; exact ⟨0, fun _ _ => h⟩
  | cons o l ih =>
    intro s r h
    simp only [drun] at h
    by_cases hw : wantedR ops s.T o = true
    · rw [if_pos hw] at h
      cases he : iexec J (cal J okf) o s.T s.H with
      | none => simp [he] at h
      | some y =>
        obtain ⟨k1, hk1⟩ := of_iexec he
        rw [he] at h
        obtain ⟨e, H'⟩ := y
        cases e with
        | ret v =>
          obtain ⟨k2, hk2⟩ := ih _ _ h
          refine ⟨max k1 k2, fun j hj => ?_⟩
          simp only [drun]
          rw [if_pos hw, hk1 j (by omega)]
          exact hk2 j (by omega)
        | pan v =>
          refine ⟨k1, fun j hj => ?_⟩
          simp only [drun]
          rw [if_pos hw, hk1 j hj]
          exact h
    · rw [if_neg hw] at h
      obtain ⟨k2, hk2⟩ := ih _ _ h
      refine ⟨k2, fun j hj => ?_⟩
      simp only [drun]
      rw [if_neg hw]
      exact hk2 j hj
theorem of_idraw {ops : Array Oper} {T : Regs} {H : IH} {r : IX × Regs × IH} (h : idraw J (cal J okf) ops T H = some r) : ∃ k, ∀ j, k ≤ j → idraw J (icall J okf j) ops T H = some r := by
  unfold idraw at h
  cases he : drun J (cal J okf) ops ops.toList ⟨T, H, [], [H]⟩ with
  | none => simp [he] at h
  | some y =>
    obtain ⟨k, hk⟩ := of_drun ops _ _ _ he
    refine ⟨k, fun j hj => ?_⟩
    unfold idraw
    rw [hk j hj]
    rw [he] at h; exact h
end

/-! ### Code, as equations -/
section
variable (J : Env) (okf : FuncId → Bool) (T : Regs) (H : IH)
theorem run_of1 (c : Code) (x : Option (IX × Regs × IH)) (h : ∀ k, icode J (icall J okf k) (k + 1) c T H = x) : run J okf c T H = x := by
  refine opt_ext (fun v hv => ?_) (fun v hv => ?_)
  · obtain ⟨k, hk⟩ := of_run hv
    rw [← h k]; exact hk k (k + 1) (Nat.le_refl _) (by omega)
  · exact run_of (k1 := 0) (k2 := 1) ((h 0).trans hv)
@[simp] theorem r_skip : run J okf .skip T H = some (.normal, T, H) := run_of1 _ _ _ _ _ _ fun _ => rfl
@[simp] theorem r_label (l : Nat) : run J okf (.label l) T H = some (.normal, T, H) := run_of1 _ _ _ _ _ _ fun _ => rfl
@[simp] theorem r_exit (i : Nat) : run J okf (.exit i) T H = some (.exit i, T, H) := run_of1 _ _ _ _ _ _ fun _ => rfl
@[simp] theorem r_ret : run J okf .ret T H = some (.ret, T, H) := run_of1 _ _ _ _ _ _ fun _ => rfl
theorem r_region' (i : Nat) (ops : Array Oper) : run J okf (.region i ops false) T H = iops J (cal J okf) ops ops.toList T H := by
  refine opt_ext (fun v hv => ?_) (fun v hv => ?_)
  · obtain ⟨k, hk⟩ := of_run hv
    exact iops_mono (mono_cal k) _ _ _ _ _ (hk k (k + 1) (Nat.le_refl _) (by omega))
  · obtain ⟨k, hk⟩ := of_iops _ _ _ _ _ hv
    exact run_of (k1 := k) (k2 := 1) (hk k (Nat.le_refl _))
@[simp] theorem r_region (i : Nat) (ops : List Oper) : run J okf (.region i ops.toArray false) T H = iops J (cal J okf) ops.toArray ops T H := by rw [r_region']
theorem r_draw (i : Nat) (ops : Array Oper) : run J okf (.region i ops true) T H = idraw J (cal J okf) (arrange J ops) T H := by
  refine opt_ext (fun v hv => ?_) (fun v hv => ?_)
  · obtain ⟨k, hk⟩ := of_run hv
    exact idraw_mono (mono_cal k) _ _ _ _ (hk k (k + 1) (Nat.le_refl _) (by omega))
  · obtain ⟨k, hk⟩ := of_idraw hv
    exact run_of (k1 := k) (k2 := 1) (hk k (Nat.le_refl _))
noncomputable def rseq (J : Env) (okf : FuncId → Bool) (b : Code) (r : Option (IX × Regs × IH)) : Option (IX × Regs × IH) :=
  match r with
  | some (.normal, T', H') => run J okf b T' H'
  | r => r
@[simp] theorem rs_normal (b : Code) : rseq J okf b (some (.normal, T, H)) = run J okf b T H := rfl
@[simp] theorem rs_exit (b : Code) (i : Nat) : rseq J okf b (some (.exit i, T, H)) = some (.exit i, T, H) := rfl
@[simp] theorem rs_ret (b : Code) : rseq J okf b (some (.ret, T, H)) = some (.ret, T, H) := rfl
@[simp] theorem rs_pan (b : Code) (v : Value) : rseq J okf b (some (.pan v, T, H)) = some (.pan v, T, H) := rfl
theorem r_two (c a b : Code) (h : ∀ k call, icode J call (k + 1) c T H = andThen (icode J call k a T H) fun T' H' => icode J call k b T' H') : run J okf c T H = rseq J okf b (run J okf a T H) := by
  refine opt_ext (fun v hv => ?_) (fun v hv => ?_)
  · obtain ⟨k, hk⟩ := of_run hv
    have h1 := hk k (k + 1) (Nat.le_refl _) (by omega)
    rw [h] at h1
    cases he : icode J (icall J okf k) k a T H with
    | none => simp [he, andThen] at h1
    | some y =>
      rw [run_of he]
      rw [he] at h1
      obtain ⟨e, T', H'⟩ := y
      cases e <;> first | exact run_of h1 | exact h1
  · cases ha : run J okf a T H with
    | none => simp [ha, rseq] at hv
    | some y =>
      rw [ha] at hv
      obtain ⟨k1, hk1⟩ := of_run ha
      obtain ⟨e, T', H'⟩ := y
      cases e with
      | normal =>
        obtain ⟨k2, hk2⟩ := of_run hv
        refine run_of (k1 := max k1 k2) (k2 := max k1 k2 + 1) ?_
        rw [h, hk1 _ _ (by omega) (by omega)]
        exact hk2 _ _ (by omega) (by omega)
      | _ =>
        refine run_of (k1 := k1) (k2 := k1 + 1) ?_
        rw [h, hk1 _ _ (by omega) (by omega)]
        exact hv
@[simp] theorem r_seq (a b : Code) : run J okf (.seq a b) T H = rseq J okf b (run J okf a T H) := r_two J okf T H _ a b fun k call => icode_seq J call k T H a b
theorem r_loop (c : Code) : run J okf (.loop c) T H = rseq J okf (.loop c) (run J okf c T H) := r_two J okf T H _ c (.loop c) fun k call => icode_loop J call k T H c
noncomputable def rcond (J : Env) (okf : FuncId → Bool) (x y : Code) (T : Regs) (H : IH) (v : Value) : Option (IX × Regs × IH) :=
  match v with
  | .bool true => run J okf x T H
  | .bool false => run J okf y T H
  | _ => none
@[simp] theorem rc_t (x y : Code) : rcond J okf x y T H (.bool true) = run J okf x T H := rfl
@[simp] theorem rc_f (x y : Code) : rcond J okf x y T H (.bool false) = run J okf y T H := rfl
@[simp] theorem r_cond (c : Operand) (x y : Code) : run J okf (.cond c x y) T H = rcond J okf x y T H (iev T c) := by
  refine opt_ext (fun v hv => ?_) (fun v hv => ?_)
  · obtain ⟨k, hk⟩ := of_run hv
    have h1 := hk k (k + 1) (Nat.le_refl _) (by omega)
    rw [icode_cond] at h1
    cases hc : iev T c with
    | bool b =>
      rw [hc] at h1
      cases b <;> exact run_of h1
    | _ => rw [hc] at h1; simp [branch] at h1
  · cases hc : iev T c with
    | bool b =>
      rw [hc] at hv
      cases b <;>
      · obtain ⟨k, hk⟩ := of_run hv
        refine run_of (k1 := k) (k2 := k + 1) ?_
        rw [icode_cond, hc]
        exact hk _ _ (Nat.le_refl _) (Nat.le_refl _)
    | _ => rw [hc] at hv; simp [rcond] at hv
@[simp] theorem r_block (id : Nat) (c : Code) : run J okf (.block id c) T H = blockOut id (run J okf c T H) := by
  refine opt_ext (fun v hv => ?_) (fun v hv => ?_)
  · obtain ⟨k, hk⟩ := of_run hv
    have h1 := hk k (k + 1) (Nat.le_refl _) (by omega)
    rw [icode_block] at h1
    cases he : icode J (icall J okf k) k c T H with
    | none => simp [he, blockOut] at h1
    | some y => rw [run_of he, ← he]; exact h1
  · cases ha : run J okf c T H with
    | none => simp [ha, blockOut] at hv
    | some y =>
      rw [ha] at hv
      obtain ⟨k, hk⟩ := of_run ha
      refine run_of (k1 := k) (k2 := k + 1) ?_
      rw [icode_block, hk _ _ (Nat.le_refl _) (Nat.le_refl _)]
      exact hv
@[simp] theorem r_scope (c : Code) : run J okf (.scope c) T H = run J okf c T H := by
  refine opt_ext (fun v hv => ?_) (fun v hv => ?_)
  · obtain ⟨k, hk⟩ := of_run hv
    exact run_of (k1 := k) (k2 := k) (hk k (k + 1) (Nat.le_refl _) (by omega))
  · obtain ⟨k, hk⟩ := of_run hv
    exact run_of (k1 := k) (k2 := k + 1) (hk k k (Nat.le_refl _) (Nat.le_refl _))
theorem cal_body (f : FuncId) (args : Array Value) (rs : List ResultVar) (c : Code) (h : ∀ k, icall J okf (k + 1) f args H = finish J rs (icode J (icall J okf k) k c (regsOf args.toList 0 .leaf) H)) :
    cal J okf f args H = finish J rs (run J okf c (regsOf args.toList 0 .leaf) H) := by
  refine opt_ext (fun v hv => ?_) (fun v hv => ?_)
  · obtain ⟨k, hk⟩ := of_cal hv
    have h1 := hk (k + 1) (by omega)
    rw [h] at h1
    cases he : icode J (icall J okf k) k c (regsOf args.toList 0 .leaf) H with
    | none => simp [he, finish] at h1
    | some y => rw [run_of he, ← he]; exact h1
  · cases ha : run J okf c (regsOf args.toList 0 .leaf) H with
    | none => simp [ha, finish] at hv
    | some y =>
      rw [ha] at hv
      obtain ⟨k, hk⟩ := of_run ha
      refine cal_of (k := k + 1) ?_
      rw [h, hk _ _ (Nat.le_refl _) (Nat.le_refl _)]
      exact hv
end

/-! ### Drawn regions -/
section
variable (J : Env) (call : CallR) (T : Regs) (H : IH)
noncomputable def idrawP := @idraw
noncomputable def dOut (J : Env) (call : CallR) (ops : List Oper) (T : Regs) (H : IH) (r : Option (IX × Regs × IH)) : Option (IX × Regs × IH) :=
  match r with
  | some (.pan _, _, _) => idrawP J call ops.toArray T H
  | r => r
@[simp] theorem dOut_normal (ops : List Oper) (T' : Regs) (H' : IH) : dOut J call ops T H (some (.normal, T', H')) = some (.normal, T', H') := rfl
theorem dcheck_nil {ops : Array Oper} (h : pairs J ops = []) (vs : List (Regs × Value)) (hs : List IH) : dcheck J ops vs hs = true := by
  unfold dcheck
  split
  · rfl
  · rw [h]; rfl
/-! and with memory looked at -/
def dFin (J : Env) (ops : List Oper) (r : Option (DSt × Option Value)) : Option (IX × Regs × IH) :=
  match r with
  | some (s, none) => if dcheck J ops.toArray s.vs s.hs then some (.normal, s.T, s.H) else none
  | some (s, some v) =>
    if dcheck J ops.toArray s.vs s.hs && effAt J ops.toArray s.vs.length && (List.range ops.toArray.size).all (fun j => decide (j ≤ s.vs.length) || waitsFor (waits ops.toArray) j s.vs.length) then some (.pan v, s.T, s.H) else none
  | none => none
@[simp] theorem dFin_normal {ops : List Oper} {ps : List (Nat × Nat)} (h : pairs J ops.toArray = ps) (T' : Regs) (H' : IH) (vs : List (Regs × Value)) (hs : List IH) (ho : ps.all (oblig J ops.toArray vs hs) = true) :
    dFin J ops (some (⟨T', H', vs, hs⟩, none)) = some (.normal, T', H') := by
  have : dcheck J ops.toArray vs hs = true := by
    unfold dcheck
    split
    · rfl
    · rw [h]; exact ho
  simp [dFin, this]
def dGo (J : Env) (call : CallR) (ops : Array Oper) (r : List Oper) (o : Oper) (T : Regs) (H : IH) (vs : List (Regs × Value)) (hs : List IH) (b : Bool) : Option (DSt × Option Value) :=
  match b with
  | true => match orStep call (iop J o T H) with
    | some (.ret v, H') => drun J call ops r ⟨putR T o.dst v, H', vs ++ [(T, v)], if isEff J o then hs ++ [H'] else hs⟩
    | some (.pan v, H') => some (⟨T, H', vs, hs⟩, some v)
    | none => none
  | false => drun J call ops r ⟨putR T o.dst undef, H, vs ++ [(T, undef)], if isEff J o then hs ++ [H] else hs⟩
def dRes (J : Env) (call : CallR) (ops : Array Oper) (r : List Oper) (o : Oper) (T : Regs) (vs : List (Regs × Value)) (hs : List IH) (x : Option (IE × IH)) : Option (DSt × Option Value) :=
  match x with
  | some (.ret v, H') => drun J call ops r ⟨putR T o.dst v, H', vs ++ [(T, v)], if isEff J o then hs ++ [H'] else hs⟩
  | some (.pan v, H') => some (⟨T, H', vs, hs⟩, some v)
  | none => none
@[simp] theorem drun_nil (ops : Array Oper) (s : DSt) : drun J call ops [] s = some (s, none) := rfl
@[simp] theorem drun_cons (ops : Array Oper) (o : Oper) (r : List Oper) (vs : List (Regs × Value)) (hs : List IH) : drun J call ops (o :: r) ⟨T, H, vs, hs⟩ = dGo J call ops r o T H vs hs (wantedR ops T o) := by
  simp only [drun]
  unfold dGo
  cases wantedR ops T o
  · rfl
  · simp only [if_true, iexec_eq]
    rfl
@[simp] theorem dGo_true (ops : Array Oper) (o : Oper) (r : List Oper) (vs : List (Regs × Value)) (hs : List IH) : dGo J call ops r o T H vs hs true = dRes J call ops r o T vs hs (orStep call (iop J o T H)) := rfl
@[simp] theorem dGo_false (ops : Array Oper) (o : Oper) (r : List Oper) (vs : List (Regs × Value)) (hs : List IH) : dGo J call ops r o T H vs hs false = drun J call ops r ⟨putR T o.dst undef, H, vs ++ [(T, undef)], if isEff J o then hs ++ [H] else hs⟩ := rfl
@[simp] theorem dRes_ret (ops : Array Oper) (o : Oper) (r : List Oper) (vs : List (Regs × Value)) (hs : List IH) (v : Value) : dRes J call ops r o T vs hs (some (.ret v, H)) = drun J call ops r ⟨putR T o.dst v, H, vs ++ [(T, v)], if isEff J o then hs ++ [H] else hs⟩ := rfl
end
end Go.Proofs.YtchlbfmjnhgpgaaGreat.Idl
namespace Go.Proofs.YtchlbfmjnhgpgaaGreat.Idl
open Go Go.RowKit

theorem Tr.setF_setF {α : Type} (x y : α) : ∀ (k : Nat) (t : Tr α) (n : Nat), n < k → Tr.setF y k (Tr.setF x k t n) n = Tr.setF y k t n := by
  intro k
  induction k with
  | zero => intro t n h; omega
  | succ k ih =>
    intro t n h
    cases t with
    | leaf =>
      simp only [Tr.setF]
      by_cases h0 : n = 0
      · simp [h0, Tr.setF]
      · by_cases h1 : n % 2 = 1
        · simp only [h0, h1, if_true, if_false, Tr.setF]
          rw [ih _ _ (by omega)]
        · simp only [h0, h1, if_false, Tr.setF]
          rw [ih _ _ (by omega)]
    | node v l r =>
      simp only [Tr.setF]
      by_cases h0 : n = 0
      · simp [h0, Tr.setF]
      · by_cases h1 : n % 2 = 1
        · simp only [h0, h1, if_true, if_false, Tr.setF]
          rw [ih _ _ (by omega)]
        · simp only [h0, h1, if_false, Tr.setF]
          rw [ih _ _ (by omega)]
namespace IH
@[simp] theorem set_set (H : IH) (b : Nat) (x y : Blk) : (H.set b x).set b y = H.set b y := by
  unfold IH.set Tr.set
  simp only [Tr.setF_setF x y (b + 1) H.t b (by omega)]
@[simp] theorem get_set_same (H : IH) (b : Nat) (x : Blk) : (H.set b x).get b = some x := by rw [get_set, if_pos rfl]
@[simp] theorem get_push_same (H : IH) (x : Blk) : (H.push x).get H.next = some x := by rw [get_push, if_pos rfl]
theorem get_push_other (H : IH) (c : Nat) (x : Blk) (h : c < H.next) : (H.push x).get c = H.get c := by rw [get_push, if_neg (by omega)]
end IH

section
variable (J : Env) (H : IH)
@[simp] theorem add_addr (b off n : Nat) : Addr.add ⟨b, off, none⟩ n = ⟨b, off + n, none⟩ := add_plain b off n
def cellOf (x : Option Blk) (off : Nat) : Option Value :=
  match x with
  | some (.cells cs _ _) => cs[off]?
  | _ => none
@[simp] theorem cellOf_cells (cs : List Value) (e : TypeId) (pr : Bool) (off : Nat) : cellOf (some (.cells cs e pr)) off = cs[off]? := rfl
@[simp] theorem icell_eq (b off : Nat) : icell H ⟨b, off, none⟩ = cellOf (H.get b) off := by
  simp only [icell, cellOf]
  split <;> simp_all
def cellsOf (x : Option Blk) (off n : Nat) : Option (List Value) :=
  match x with
  | some (.cells cs _ _) => if off + n ≤ cs.length then some ((cs.drop off).take n) else none
  | _ => none
@[simp] theorem cellsOf_cells (cs : List Value) (e : TypeId) (pr : Bool) (off n : Nat) : cellsOf (some (.cells cs e pr)) off n = if off + n ≤ cs.length then some ((cs.drop off).take n) else none := rfl
@[simp] theorem icells_eq (b off n : Nat) : icells H ⟨b, off, none⟩ n = cellsOf (H.get b) off n := by
  simp only [icells, cellsOf]
  split <;> simp_all
def putOf (H : IH) (b off : Nat) (vs : List Value) (x : Option Blk) : Option IH :=
  match x with
  | some (.cells cs e false) => if off + vs.length ≤ cs.length ∧ vs ≠ [] ∧ vs.all plain1 then some (H.set b (.cells (overlay cs off vs) e false)) else none
  | _ => none
@[simp] theorem putOf_cells (b off : Nat) (vs cs : List Value) (e : TypeId) : putOf H b off vs (some (.cells cs e false)) = if off + vs.length ≤ cs.length ∧ vs ≠ [] ∧ vs.all plain1 then some (H.set b (.cells (overlay cs off vs) e false)) else none := rfl
@[simp] theorem iput_eq (b off : Nat) (vs : List Value) : iput H ⟨b, off, none⟩ vs = putOf H b off vs (H.get b) := by
  simp only [iput, putOf]
  split <;> simp_all
def loadT (J : Env) (t : TypeId) (H : IH) (a : Addr) (x : Option Bool) : Option Value :=
  match x with
  | some true => match J.size t with
    | some n => (icells H a n).map fun cs => .agg cs.toArray
    | none => none
  | some false => icell H a
  | none => none
@[simp] theorem iload_eq (t : TypeId) (a : Addr) : iload J t a H = loadT J t H a (isAggT J t) := rfl
@[simp] theorem loadT_plain (t : TypeId) (a : Addr) : loadT J t H a (some false) = icell H a := rfl
theorem loadT_agg (t n : Nat) (a : Addr) (h : J.size t = some n) : loadT J t H a (some true) = (icells H a n).map fun cs => .agg cs.toArray := by simp [loadT, h]
def idxS (s : ByteArray) (i : Int) : Option Value := if 0 ≤ i then (s[i.toNat]?).map fun b => .int .u8 b.toNat else none
@[simp] theorem index_string (t : TypeId) (s : ByteArray) (k : IntKind) (i : Int) (h : J.und t = some .string) : iindex J t (.string s) (.int k i) = idxS s i := by
  simp [iindex, h, idxS]
def sliceS (s : ByteArray) (l h : Option Nat) : Option Value :=
  match l, h with
  | some l, some h => if l ≤ h ∧ h ≤ s.size then some (.string (s.extract l h)) else none
  | _, _ => none
@[simp] theorem slice_string (t : TypeId) (s : ByteArray) (lo hi : Option Value) (h : J.und t = some .string) : islice J t (.string s) lo hi none H = sliceS s (ibound lo 0) (ibound hi s.size) := by
  simp only [islice, h, sliceS]
  split <;> rename_i h1 <;> split <;> simp_all
@[simp] theorem bound_none (d : Nat) : ibound none d = some d := rfl
@[simp] theorem bound_nat (k : IntKind) (n d : Nat) : ibound (some (.int k (n : Int))) d = some n := by simp [ibound]
/-! A 64-bit reckoning that does not wrap. -/
theorem wrap64 (n : Int) (h1 : -9223372036854775808 ≤ n) (h2 : n ≤ 9223372036854775807) : IntKind.i64.wrap n = n := by
  simp [IntKind.wrap, IntKind.bits, IntKind.signed]
  omega
end

noncomputable def iopP := @iop
def lenQ (x : Option Value) (H : IH) (f : Option OR) : Option OR :=
  match x with
  | some v => some (.val v H)
  | none => f
@[simp] theorem lenQ_some (v : Value) (H : IH) (f : Option OR) : lenQ (some v) H f = some (.val v H) := rfl
section
variable (J : Env) (T : Regs) (H : IH) (dst : Option Tmp) (type : TypeId) (pos : String) (after : Array Edge) (guard : Option (Nat × Bool))
@[simp] theorem iop_len_q (x : Operand) (t : TypeId) : iop J ⟨dst, .call ⟨.builtin .len, #[x], #[t]⟩, type, pos, after, guard⟩ T H =
    lenQ (lenV J t (iev T x)) H (iopP J ⟨dst, .call ⟨.builtin .len, #[x], #[t]⟩, type, pos, after, guard⟩ T H) := by
  cases h : lenV J t (iev T x) with
  | some v => exact iop_len J T H dst type pos after guard x t v h
  | none => rfl
@[simp] theorem lenV_string (t : TypeId) (s : ByteArray) (h : J.und t = some .string) : lenV J t (.string s) = some (.int .i64 s.size) := by simp [lenV, h]
def lenS (d : Option TypeDesc) (n : Nat) : Option Value :=
  match d with
  | some (.slice _) => some (.int .i64 n)
  | _ => none
@[simp] theorem lenS_slice (e : TypeId) (n : Nat) : lenS (some (.slice e)) n = some (.int .i64 n) := rfl
@[simp] theorem lenV_slice (t : TypeId) (a : Option Addr) (n c : Nat) : lenV J t (.slice a n c) = lenS (J.und t) n := by
  unfold lenV lenS
  dsimp only
  split <;> split <;> simp_all
end
end Go.Proofs.YtchlbfmjnhgpgaaGreat.Idl
namespace Go.Proofs.YtchlbfmjnhgpgaaGreat.Idl
open Go Go.RowKit

section
variable (J : Env) (T : Regs) (H : IH) (dst : Option Tmp) (type : TypeId) (pos : String) (after : Array Edge) (guard : Option (Nat × Bool))
theorem ipure_of {o : Oper} {v : Value} (hf : (o.op.operands.all fun x => flat (iev T x)) = true) (h : pureRun J.P (execOp (iev T) o) = some (.value v)) (hv : flat v = true) : ipure J o T H = some (.val v H) := by
  unfold ipure
  rw [if_pos hf, h]
  simp [hv]
def notR (v : Value) (H : IH) : Option OR :=
  match v with
  | .bool b => some (.val (.bool (!b)) H)
  | _ => none
@[simp] theorem notR_bool (b : Bool) : notR (.bool b) H = some (.val (.bool (!b)) H) := rfl
theorem iop_not (t : TypeId) (x : Operand) (b : Bool) (h : iev T x = .bool b) : iop J ⟨dst, .unOp .not t x, type, pos, after, guard⟩ T H = some (.val (.bool (!b)) H) := by
  show ipure J _ T H = _
  refine ipure_of J T H (by simp [Op.operands, h, flat, flatN]) ?_ rfl
  simp only [execOp, h]
  rfl
def isB (v : Value) : Option Bool :=
  match v with
  | .bool b => some b
  | _ => none
def notQ (x : Option Bool) (H : IH) (f : Option OR) : Option OR :=
  match x with
  | some b => some (.val (.bool (!b)) H)
  | none => f
@[simp] theorem notQ_some (b : Bool) (f : Option OR) : notQ (some b) H f = some (.val (.bool (!b)) H) := rfl
@[simp] theorem isB_bool (b : Bool) : isB (.bool b) = some b := rfl
@[simp] theorem iop_not_q (t : TypeId) (x : Operand) : iop J ⟨dst, .unOp .not t x, type, pos, after, guard⟩ T H = notQ (isB (iev T x)) H (iopP J ⟨dst, .unOp .not t x, type, pos, after, guard⟩ T H) := by
  cases h : iev T x with
  | bool b => exact iop_not J T H dst type pos after guard t x b h
  | _ => rfl
theorem iop_conv (src d : TypeId) (x : Operand) (k0 k k2 : IntKind) (n : Int) (hx : iev T x = .int k n) (hs : J.und src = some (.int k0)) (hd : J.und d = some (.int k2)) :
    iop J ⟨dst, .convert src d x, type, pos, after, guard⟩ T H = some (.val (.int k2 (k2.wrap n)) H) := by
  have hi : iconvert J src d (iev T x) H = none := by simp only [iconvert, hs, hd, hx]
  have hp : ipure J ⟨dst, .convert src d x, type, pos, after, guard⟩ T H = some (.val (.int k2 (k2.wrap n)) H) := by
    refine ipure_of J T H (by simp [Op.operands, hx, flat, flatN]) ?_ rfl
    simp only [execOp, hx]
    have e : pureRun J.P (convert src d (.int k n)) = some (.int k2 (k2.wrap n)) := by
      unfold convert
      rw [pureRun_bind]
      have h1 : ∀ t u, J.und t = some u → pureRun J.P (underlying t) = some u := fun t u h => by
        unfold underlying
        rw [pureRun_bind]
        simp [program, pureRun, J.und_ok h, pure]
      rw [h1 _ _ hs]
      simp only [Option.bind_some]
      rw [pureRun_bind, h1 _ _ hd]
      simp only [Option.bind_some]
      rfl
    rw [pureRun_bind, e]; rfl
  simp only [iop, hi, hp]
def convQ (_J : Env) (s d : Option TypeDesc) (v : Value) : Option Value :=
  match s, d, v with
  | some (.int _), some (.int k2), .int _ n => some (.int k2 (k2.wrap n))
  | _, _, _ => none
@[simp] theorem convQ_int (k1 k2 k : IntKind) (n : Int) : convQ J (some (.int k1)) (some (.int k2)) (.int k n) = some (.int k2 (k2.wrap n)) := rfl
def convR (x : Option (Value × IH)) (f : Option OR) : Option OR :=
  match x with
  | some (v, H') => some (.val v H')
  | none => f
@[simp] theorem convR_some (v : Value) (H' : IH) (f : Option OR) : convR (some (v, H')) f = some (.val v H') := rfl
@[simp] theorem convR_none (f : Option OR) : convR none f = f := rfl
@[simp] theorem iconvert_int (s d : TypeId) (k : IntKind) (n : Int) : iconvert J s d (.int k n) H = none := by
  unfold iconvert
  split <;> simp_all
@[simp] theorem iop_convR (src d : TypeId) (x : Operand) : iop J ⟨dst, .convert src d x, type, pos, after, guard⟩ T H = convR (iconvert J src d (iev T x) H) (lenQ (convQ J (J.und src) (J.und d) (iev T x)) H (iopP J ⟨dst, .convert src d x, type, pos, after, guard⟩ T H)) := by
  cases hi : iconvert J src d (iev T x) H with
  | some p => simp only [iop, hi]; rfl
  | none =>
    simp only [convR_none]
    cases h : convQ J (J.und src) (J.und d) (iev T x) with
    | none => rfl
    | some v =>
      unfold convQ at h
      split at h
      · rename_i k1 k2 k n h1 h2 h3
        cases h
        exact iop_conv J T H dst type pos after guard src d x k1 k k2 n h3 h1 h2
      · simp at h
end
end Go.Proofs.YtchlbfmjnhgpgaaGreat.Idl
namespace Go.Proofs.YtchlbfmjnhgpgaaGreat.Idl
open Go Go.RowKit

def BsAt (_J : Env) (e : TypeId) (H : IH) (v : Value) (l : List Int) (lo : Nat) : Prop :=
  (v = .slice none 0 0 ∧ l = []) ∨ ∃ b, lo ≤ b ∧ b < H.next ∧ v = .slice (some ⟨b, 0, none⟩) l.length capU ∧ H.get b = some (.cells (l.map (Value.int .u8)) e false)
structure BT (J : Env) (st e : TypeId) : Prop where
  und : J.und st = some (.slice e)
  size : J.size e = some 1
  bytes : J.bytes e = some 1
  zero : J.zero e = some (.int .u8 0)
  byte : J.und e = some (.int .u8)
theorem take_map (l : List Int) : List.take l.length (l.map (Value.int IntKind.u8)) = l.map (Value.int IntKind.u8) := by
  have := List.take_length (l := l.map (Value.int IntKind.u8))
  rwa [List.length_map] at this
theorem bytesOf_ints (l : List Int) : bytesOfCells (l.map (Value.int .u8)) = some (l.map fun n => UInt8.ofNat n.toNat) := by
  induction l with
  | nil => rfl
  | cons n l ih => simp [bytesOfCells, ih]
section
variable {J : Env} {st e : TypeId} (hT : BT J st e)
include hT
def strOf (l : List Int) : ByteArray := ⟨(l.map fun n => UInt8.ofNat n.toNat).toArray⟩
theorem conv_bytes {H : IH} {v : Value} {l : List Int} {lo : Nat} {d : TypeId} (hv : BsAt J e H v l lo) (hd : J.und d = some .string) : iconvert J st d v H = some (.string (strOf l), H) := by
  rcases hv with ⟨rfl, rfl⟩ | ⟨b, h1, h2, rfl, h4⟩
  · simp [iconvert, hT.und, hd, hT.byte]; rfl
  · have hm := bytesOf_ints l
    simp [iconvert, hT.und, hd, hT.byte, h4, hm, strOf, take_map]
end
end Go.Proofs.YtchlbfmjnhgpgaaGreat.Idl
namespace Go.Proofs.YtchlbfmjnhgpgaaGreat.Idl
open Go Go.RowKit

section
variable (J : Env) (T : Regs) (H : IH) (dst : Option Tmp) (type : TypeId) (pos : String) (after : Array Edge) (guard : Option (Nat × Bool))
def orI (k : IntKind) (a b : Int) : Int := k.wrap ((BitVec.ofInt k.bits a ||| BitVec.ofInt k.bits b).toNat : Int)
def andI (k : IntKind) (a b : Int) : Int := k.wrap ((BitVec.ofInt k.bits a &&& BitVec.ofInt k.bits b).toNat : Int)
def andnI (k : IntKind) (a b : Int) : Int := k.wrap ((BitVec.ofInt k.bits a &&& ~~~ BitVec.ofInt k.bits b).toNat : Int)
def xorI (k : IntKind) (a b : Int) : Int := k.wrap ((BitVec.ofInt k.bits a ^^^ BitVec.ofInt k.bits b).toNat : Int)
section
variable (t : TypeId) (x y : Operand) (k : IntKind) (a b : Int)
@[simp] theorem bin_or : binR J .or t x y (.int k a) (.int k b) H = some (.val (.int k (orI k a b)) H) := binR_pure J H rfl rfl rfl (by simp [binOp, Op.intBits, pure, pureRun]; rfl) rfl
@[simp] theorem bin_and : binR J .and t x y (.int k a) (.int k b) H = some (.val (.int k (andI k a b)) H) := binR_pure J H rfl rfl rfl (by simp [binOp, Op.intBits, pure, pureRun]; rfl) rfl
@[simp] theorem bin_andNot : binR J .andNot t x y (.int k a) (.int k b) H = some (.val (.int k (andnI k a b)) H) := binR_pure J H rfl rfl rfl (by simp only [binOp, Op.intBits, pure, pureRun, ne_eq, not_true_eq_false, if_false]; rfl) rfl
@[simp] theorem bin_xor : binR J .xor t x y (.int k a) (.int k b) H = some (.val (.int k (xorI k a b)) H) := binR_pure J H rfl rfl rfl (by simp [binOp, Op.intBits, pure, pureRun]; rfl) rfl
end
def notI (k : IntKind) (n : Int) : Int := xorI k (if k.signed then -1 else k.max) n
def isI (v : Value) : Option Value :=
  match v with
  | .int k n => some (.int k (notI k n))
  | _ => none
@[simp] theorem isI_int (k : IntKind) (n : Int) : isI (.int k n) = some (.int k (notI k n)) := rfl
theorem iop_xor (t : TypeId) (x : Operand) (k : IntKind) (n : Int) (h : iev T x = .int k n) : iop J ⟨dst, .unOp .xor t x, type, pos, after, guard⟩ T H = some (.val (.int k (notI k n)) H) := by
  show ipure J _ T H = _
  refine ipure_of J T H (by simp [Op.operands, h, flat, flatN]) ?_ rfl
  simp only [execOp, h]
  rfl
@[simp] theorem iop_xor_q (t : TypeId) (x : Operand) : iop J ⟨dst, .unOp .xor t x, type, pos, after, guard⟩ T H = lenQ (isI (iev T x)) H (iopP J ⟨dst, .unOp .xor t x, type, pos, after, guard⟩ T H) := by
  cases h : iev T x with
  | int k n => exact iop_xor J T H dst type pos after guard t x k n h
  | _ => rfl
end
end Go.Proofs.YtchlbfmjnhgpgaaGreat.Idl
namespace Go.Proofs.YtchlbfmjnhgpgaaGreat.Idl
open Go Go.RowKit

inductive Dat (J : Env) {K : Type} (H : IH) : TypeId → List Value → DataW K → Prop
  | bool {t : TypeId} (b : Bool) : J.und t = some .bool → Dat J H t [.bool b] (.lit (.bool b))
  | int {t : TypeId} {k : IntKind} {n : Int} : J.und t = some (.int k) → (Lit.int k n).wf = true → Dat J H t [.int k n] (.lit (.int k n))
  | string {t : TypeId} {s : ByteArray} : J.und t = some .string → s.size ≤ maxLen → Dat J H t [.string s] (.lit (.string s.data.toList))
  | nil {t e : TypeId} : J.und t = some (.slice e) → Dat J H t [.slice none 0 0] .nil
  | slice {t e : TypeId} {n b len : Nat} {cs : List Value} {ds rest : List (DataW K)} : J.und t = some (.slice e) → J.size e = some n → 0 < n → b < H.next → (0 < len → H.get b = some (.cells cs e true)) → cs.length = len * n → ds.length = len → len ≤ maxLen →
      (∀ i d, ds[i]? = some d → Dat J H e ((cs.drop (i * n)).take n) d) → Dat J H t [.slice (some ⟨b, 0, none⟩) len capU] (.slice ds rest)
  | struct {t : TypeId} {fs : Array Field} {cs : List Value} {ds : List (DataW K)} : J.und t = some (.struct fs) → J.size t = some cs.length → ds.length = fs.size →
      (∀ (i : Nat) (f : Field), fs[i]? = some f → ∃ n, J.size f.type = some n ∧ f.offset + n ≤ cs.length) →
      (∀ (i : Nat) (f : Field) (d : DataW K) (n : Nat), fs[i]? = some f → ds[i]? = some d → J.size f.type = some n → Dat J H f.type ((cs.drop f.offset).take n) d) → Dat J H t cs (.agg ds)
  | array {t e : TypeId} {m n : Nat} {cs : List Value} {ds : List (DataW K)} : J.und t = some (.array m e) → J.size e = some n → cs.length = m * n → ds.length = m →
      (∀ i d, ds[i]? = some d → Dat J H e ((cs.drop (i * n)).take n) d) → Dat J H t cs (.agg ds)
def Keeps (H H' : IH) : Prop := H.next ≤ H'.next ∧ ∀ b x, H.get b = some x → H'.get b = some x
theorem Keeps.refl (H : IH) : Keeps H H := ⟨Nat.le_refl _, fun _ _ h => h⟩
theorem Keeps.trans {H H' H'' : IH} (h : Keeps H H') (h' : Keeps H' H'') : Keeps H H'' := ⟨Nat.le_trans h.1 h'.1, fun b x hx => h'.2 b x (h.2 b x hx)⟩
theorem Dat.keeps {J : Env} {K : Type} {H H' : IH} (hk : Keeps H H') {t : TypeId} {cs : List Value} {d : DataW K} (h : Dat J H t cs d) : Dat J H' t cs d := by
  induction h with
  | bool b h => exact .bool b h
  | int h1 h2 => exact .int h1 h2
  | string h1 h2 => exact .string h1 h2
  | nil h => exact .nil h
  | slice h1 h2 h3 h8 h4 h5 h6 h7 _ ih => exact .slice h1 h2 h3 (Nat.lt_of_lt_of_le h8 hk.1) (fun h => hk.2 _ _ (h4 h)) h5 h6 h7 ih
  | struct h1 h2 h3 h4 _ ih => exact .struct h1 h2 h3 h4 ih
  | array h1 h2 h3 h4 _ ih => exact .array h1 h2 h3 h4 ih

def plainFs (J : Env) (p : TypeId → Bool) : List Field → Nat → Nat → Bool
  | [], o, n => o == n
  | f :: r, o, n => f.offset == o && p f.type && (match J.size f.type with | some s => plainFs J p r (o + s) n | none => false)
def plainT (J : Env) : Nat → TypeId → Bool
  | 0, _ => false
  | k + 1, t => match J.und t, J.size t with
    | some .bool, some n => n == 1
    | some (.int _), some n => n == 1
    | some .string, some n => n == 1
    | some (.slice e), some n => n == 1 && (match J.size e with | some s => s != 0 && plainT J k e | none => false)
    | some (.struct fs), some n => plainFs J (plainT J k) fs.toList 0 n
    | some (.array m e), some n => (match J.size e with | some s => n == m * s && plainT J k e | none => false)
    | _, _ => false

section
variable {J : Env} {B : Bd} {w : World} {K : Type} {enc : TypeId × Value → K} {held : Bool}
theorem cellsOf_eq {t : TypeId} {n : Nat} (h : J.size t = some n) : J.P.cellsOf t = n := by
  obtain ⟨i, h1, h2⟩ := J.size_ok h
  unfold Program.cellsOf
  rw [h1]; exact h2
theorem cells_heap {a : Addr} {n : Nat} {cs : List Value} (h : w.cells? 0 a n = some cs) (hn : 0 < n) : ∃ rc re fr, w.heap[a.block]? = some (.cells rc re fr) ∧ a.spot = none ∧ a.off + n ≤ rc.size ∧ cs.length = n ∧ ∀ i, i < n → rc[a.off + i]? = cs[i]? := by
  obtain ⟨_, hl, hc⟩ := World.cells?_some h
  have h0 := hc 0 hn
  rw [List.getElem?_eq_getElem (by omega)] at h0
  unfold World.cell? at h0
  have hsp : a.spot = none := by
    cases hs : a.spot with
    | none => rfl
    | some s =>
      have : (a.add 0).spot.isSome = true := by unfold Addr.add; simp [hs]
      rw [this] at h0
      split at h0 <;> simp at h0
  have hadd : ∀ i, a.add i = ⟨a.block, a.off + i, none⟩ := fun i => by obtain ⟨ab, ao, asp⟩ := a; simp only at hsp; subst hsp; unfold Addr.add; split <;> simp_all
  rw [hadd] at h0
  simp only at h0
  cases hh : w.heap[a.block]? with
  | none => rw [hh] at h0; cases h0
  | some o =>
    cases o with
    | cells rc re fr =>
      have key : ∀ i, i < n → rc[a.off + i]? = cs[i]? := fun i hi => by
        have := hc i hi
        rw [hadd] at this
        unfold World.cell? at this
        simp only [hh] at this
        simpa using this
      refine ⟨rc, re, fr, rfl, hsp, ?_, hl, key⟩
      have := key (n - 1) (by omega)
      rw [List.getElem?_eq_getElem (by omega)] at this
      have := (Array.getElem?_eq_some_iff.1 this).1
      omega
    | _ => rw [hh] at h0; cases h0
theorem Sim.pushRO {ι : Emb} {H : IH} (hS : Sim J B ι H w) {rb ro esz : Nat} {rc : Array Value} {re e : TypeId} {fr : Nat × Nat} (hb : w.heap[rb]? = some (.cells rc re fr)) (hB : rb < B.lo) (hx : ¬ B.ex rb) {cs : List Value}
    (hc : ∀ (i : Nat) (v : Value), cs[i]? = some v → ∃ v', rc[ro + i]? = some v' ∧ VRel ι H.next v v') (he : J.size e = some esz) :
    ∃ ι', Sim J B ι' (H.push (.cells cs e true)) w ∧ Ext ι H.next ι' (H.next + 1) ∧ ι' H.next = ⟨rb, ro, esz, rc.size⟩ := by
  refine ⟨fun b => if b = H.next then ⟨rb, ro, esz, rc.size⟩ else ι b, ?_, ⟨by omega, fun b hb => if_neg (by omega)⟩, if_pos rfl⟩
  have hext : Ext ι H.next (fun b => if b = H.next then ⟨rb, ro, esz, rc.size⟩ else ι b) (H.next + 1) := ⟨by omega, fun b hb => if_neg (by omega)⟩
  have hold : ∀ b x, (H.push (.cells cs e true)).get b = some x → b ≠ H.next → H.get b = some x := fun b x hx hne => by rw [IH.get_push, if_neg hne] at hx; exact hx
  have hnew : ∀ x, (H.push (.cells cs e true)).get H.next = some x → x = .cells cs e true := fun x hx => by rw [IH.get_push, if_pos rfl] at hx; exact (Option.some.inj hx).symm
  constructor
  · exact hS.base
  · intro g hg
    obtain ⟨h1, h2, h3⟩ := hS.glob g hg
    refine ⟨by simp; omega, ?_, ?_⟩ <;> rw [if_neg (by omega)] <;> assumption
  · intro b x hx
    by_cases hne : b = H.next
    · simp [hne]
    · have := hS.lt b x (hold b x hx hne); simp; omega
  · intro b cs' e' pr hx
    by_cases hne : b = H.next
    · subst hne
      cases hnew _ hx
      refine ⟨rc, re, fr, by rw [if_pos rfl]; exact hb, fun i v hv => ?_, by rw [if_pos rfl], by rw [if_pos rfl]; exact he, fun h => by cases h⟩
      rw [if_pos rfl]
      obtain ⟨v', q1, q2⟩ := hc i v hv
      exact ⟨v', q1, q2.ext hext⟩
    · obtain ⟨rc', re', fr', q1, q2, q3⟩ := hS.cells b cs' e' pr (hold b _ hx hne)
      refine ⟨rc', re', fr', by rw [if_neg hne]; exact q1, fun i v hv => ?_, by rw [if_neg hne]; exact q3⟩
      rw [if_neg hne]
      obtain ⟨v', r1, r2⟩ := q2 i v hv
      exact ⟨v', r1, r2.ext hext⟩
  · intro b cs' e' hx
    by_cases hne : b = H.next
    · subst hne; cases hnew _ hx
    · rw [if_neg hne]; exact hS.rows b cs' e' (hold b _ hx hne)
  · intro b es pr hx
    by_cases hne : b = H.next
    · subst hne; cases hnew _ hx
    · rw [if_neg hne]
      obtain ⟨res, clk, q1, q2, q3, q4⟩ := hS.maps b es pr (hold b _ hx hne)
      exact ⟨res, clk, q1, q2, fun i en hen => by obtain ⟨r, r1, r2, r3⟩ := q3 i en hen; exact ⟨r, r1, r2.ext hext, r3.ext hext⟩, q4⟩
  · intro b s p hx
    by_cases hne : b = H.next
    · subst hne; cases hnew _ hx
    · rw [if_neg hne]; exact hS.iters b s p (hold b _ hx hne)
  · exact hS.keep
  · have wr : ∀ b x, H.get b = some x → writable x = true → B.own (ι b).rb := fun b x hx hw => by
      cases x with
      | cells cs' e' pr =>
        obtain ⟨_, _, _, _, _, _, _, q⟩ := hS.cells b cs' e' pr hx
        exact (q (by simpa [writable] using hw)).1
      | map es pr =>
        obtain ⟨_, _, _, _, _, q⟩ := hS.maps b es pr hx
        exact q (by simpa [writable] using hw)
      | iter s p => exact (hS.iters b s p hx).2
      | dead => simp [writable] at hw
    intro b b' x x' hx hx' ha ha' hne hw
    by_cases h1 : b = H.next
    · subst h1
      cases hnew _ hx
      have h2 : b' ≠ H.next := fun h => hne h.symm
      have hw' : writable x' = true := by simpa [writable] using hw
      have := wr b' x' (hold b' x' hx' h2) hw'
      rw [if_pos rfl, if_neg h2]
      show rb ≠ _
      have := this.1
      omega
    · by_cases h2 : b' = H.next
      · subst h2
        cases hnew _ hx'
        have hw' : writable x = true := by simpa [writable] using hw
        have := wr b x (hold b x hx h1) hw'
        rw [if_neg h1, if_pos rfl]
        show _ ≠ rb
        have := this.1
        omega
      · rw [if_neg h1, if_neg h2]
        exact hS.apart b b' x x' (hold b x hx h1) (hold b' x' hx' h2) ha ha' hne hw
  · intro b x hb ha
    by_cases h1 : b = H.next
    · subst h1
      rw [if_pos rfl]; exact hx
    · rw [if_neg h1]; exact hS.out b x (hold b x hb h1) ha
theorem keeps_push {ι : Emb} {H : IH} (hS : Sim J B ι H w) (x : Blk) : Keeps H (H.push x) :=
  ⟨by simp, fun b y hy => by rw [IH.get_push, if_neg (by have := hS.lt b y hy; omega)]; exact hy⟩

theorem Sim.pushDead {ι : Emb} {H : IH} (hS : Sim J B ι H w) : Sim J B ι (H.push .dead) w := by
  have hext : Ext ι H.next ι (H.push .dead).next := ⟨by simp, fun _ _ => rfl⟩
  have hold : ∀ b x, (H.push .dead).get b = some x → x ≠ .dead → H.get b = some x := fun b x hx hne => by
    rw [IH.get_push] at hx
    split at hx
    · exact absurd (Option.some.inj hx).symm hne
    · exact hx
  constructor
  · exact hS.base
  · intro g hg
    obtain ⟨h1, h2, h3⟩ := hS.glob g hg
    exact ⟨by simp; omega, h2, h3⟩
  · intro b x hx
    rw [IH.get_push] at hx
    split at hx
    · simp; omega
    · have := hS.lt b x hx; simp; omega
  · intro b cs e pr hx
    obtain ⟨rc, re, fr, q1, q2, q3⟩ := hS.cells b cs e pr (hold b _ hx (by simp))
    exact ⟨rc, re, fr, q1, fun i v hv => let ⟨v', r1, r2⟩ := q2 i v hv; ⟨v', r1, r2.ext hext⟩, q3⟩
  · intro b cs e hx; exact hS.rows b cs e (hold b _ hx (by simp))
  · intro b es pr hx
    obtain ⟨res, clk, q1, q2, q3, q4⟩ := hS.maps b es pr (hold b _ hx (by simp))
    exact ⟨res, clk, q1, q2, fun i en hen => by obtain ⟨r, r1, r2, r3⟩ := q3 i en hen; exact ⟨r, r1, r2.ext hext, r3.ext hext⟩, q4⟩
  · intro b s p hx; exact hS.iters b s p (hold b _ hx (by simp))
  · exact hS.keep
  · intro b b' x x' hx hx' ha ha' hne hw
    exact hS.apart b b' x x' (hold b x hx (by rintro rfl; cases ha)) (hold b' x' hx' (by rintro rfl; cases ha')) ha ha' hne hw
  · intro b x hb ha
    exact hS.out b x (hold b x hb (by rintro rfl; cases ha)) ha

def Lays (J : Env) (B : Bd) (w : World) (enc : TypeId × Value → K) (held : Bool) (t : TypeId) : Prop :=
  ∀ (m : Nat) (cs : List Value) (x : DataW K × List MemPlace) (ι : Emb) (H : IH), DataW.trod enc J.P w 0 (fun _ => true) held m t cs = some x → Sim J B ι H w →
    ∃ (ι' : Emb) (H' : IH) (cs' : List Value), Sim J B ι' H' w ∧ Ext ι H.next ι' H'.next ∧ Keeps H H' ∧ LRel ι' H'.next cs' cs ∧ Dat J H' t cs' x.1 ∧ J.size t = some cs'.length
theorem lays_many {e : TypeId} {n : Nat} (hsz : J.size e = some n) (he : Lays J B w enc held e) (m : Nat) (row : Nat → List Value) (y : Nat → DataW K × List MemPlace) : ∀ (len : Nat) (ι : Emb) (H : IH), (∀ i, i < len → DataW.trod enc J.P w 0 (fun _ => true) held m e (row i) = some (y i)) →
    Sim J B ι H w → ∃ (ι' : Emb) (H' : IH) (cs' : List Value), Sim J B ι' H' w ∧ Ext ι H.next ι' H'.next ∧ Keeps H H' ∧ cs'.length = len * n ∧ (∀ i, i < len → LRel ι' H'.next ((cs'.drop (i * n)).take n) (row i)) ∧ ∀ i, i < len → Dat J H' e ((cs'.drop (i * n)).take n) (y i).1 := by
  intro len
  induction len with
  | zero => intro ι H _ hS; exact ⟨ι, H, [], hS, Ext.refl _ _, Keeps.refl _, by simp, fun i hi => by omega, fun i hi => by omega⟩
  | succ len ih =>
    intro ι H hy hS
    obtain ⟨ι1, H1, cs1, q1, q2, q3, q4, q5, q6⟩ := ih ι H (fun i hi => hy i (by omega)) hS
    obtain ⟨ι2, H2, cs2, r1, r2, r3, r4, r5, r6⟩ := he m _ _ ι1 H1 (hy len (by omega)) q1
    have h2 : cs2.length = n := by rw [hsz] at r6; exact (Option.some.inj r6).symm
    have cut : ∀ i, i < len → ((cs1 ++ cs2).drop (i * n)).take n = (cs1.drop (i * n)).take n := fun i hi => by
      have h3 : (i + 1) * n ≤ len * n := Nat.mul_le_mul_right n (by omega)
      rw [Nat.add_mul] at h3
      rw [List.drop_append_of_le_length (by omega), List.take_append_of_le_length (by rw [List.length_drop]; omega)]
    have cut2 : ((cs1 ++ cs2).drop (len * n)).take n = cs2 := by
      rw [List.drop_append, List.drop_of_length_le (by omega), List.nil_append, q4, Nat.sub_self, List.drop_zero, List.take_of_length_le (by omega)]
    refine ⟨ι2, H2, cs1 ++ cs2, r1, q2.trans r2, q3.trans r3, by rw [List.length_append, q4, h2, Nat.add_mul]; omega, fun i hi => ?_, fun i hi => ?_⟩
    · by_cases h : i < len
      · rw [cut i h]; exact (q5 i h).ext r2
      · obtain rfl : i = len := by omega
        rw [cut2]; exact r4
    · by_cases h : i < len
      · rw [cut i h]; exact (q6 i h).keeps r3
      · obtain rfl : i = len := by omega
        rw [cut2]; exact r5
theorem lays_fields {p : TypeId → Bool} (hp : ∀ t, p t = true → Lays J B w enc held t) (m : Nat) (cs : List Value) : ∀ (fs : List Field) (o n : Nat) (xs : List (DataW K × List MemPlace)) (ι : Emb) (H : IH), plainFs J p fs o n = true → n ≤ cs.length → xs.length = fs.length →
    (∀ (i : Nat) (f : Field), fs[i]? = some f → DataW.trod enc J.P w 0 (fun _ => true) held m f.type ((cs.drop f.offset).take (J.P.cellsOf f.type)) = xs[i]?) →
    Sim J B ι H w → ∃ (ι' : Emb) (H' : IH) (cs' : List Value), Sim J B ι' H' w ∧ Ext ι H.next ι' H'.next ∧ Keeps H H' ∧ o + cs'.length = n ∧ LRel ι' H'.next cs' ((cs.drop o).take (n - o)) ∧
      ∀ (i : Nat) (f : Field) (x : DataW K × List MemPlace), fs[i]? = some f → xs[i]? = some x → ∃ s, J.size f.type = some s ∧ o ≤ f.offset ∧ f.offset + s ≤ n ∧ Dat J H' f.type ((cs'.drop (f.offset - o)).take s) x.1 := by
  intro fs
  induction fs with
  | nil =>
    intro o n xs ι H h hn hl _ hS
    simp only [plainFs, beq_iff_eq] at h
    subst h
    exact ⟨ι, H, [], hS, Ext.refl _ _, Keeps.refl _, by simp, by rw [Nat.sub_self, List.take_zero]; exact LRel.nil, fun i f x hf => by simp at hf⟩
  | cons f fs ih =>
    intro o n xs ι H h hn hl hx hS
    simp only [plainFs, Bool.and_eq_true, beq_iff_eq] at h
    obtain ⟨⟨h1, h2⟩, h3⟩ := h
    split at h3
    case h_2 => cases h3
    rename_i s hs
    cases xs with
    | nil => simp at hl
    | cons x xs =>
      have hx0 := hx 0 f rfl
      rw [cellsOf_eq hs] at hx0
      obtain ⟨ι1, H1, cs1, q1, q2, q3, q4, q5, q6⟩ := hp _ h2 m _ x ι H hx0 hS
      obtain ⟨ι2, H2, cs2, r1, r2, r3, r4, r5, r6⟩ := ih (o + s) n xs ι1 H1 h3 hn (by simpa using hl) (fun i g hg => hx (i + 1) g (by simpa using hg)) q1
      have hl1 : cs1.length = s := by rw [hs] at q6; exact (Option.some.inj q6).symm
      refine ⟨ι2, H2, cs1 ++ cs2, r1, q2.trans r2, q3.trans r3, by rw [List.length_append]; omega, ?_, fun i g y hg hy => ?_⟩
      · have e : (cs.drop o).take (n - o) = (cs.drop f.offset).take s ++ (cs.drop (o + s)).take (n - (o + s)) := by
          rw [h1, show n - o = s + (n - (o + s)) by omega, List.take_add, List.drop_drop]
        rw [e]
        exact (q4.ext r2).append r5
      · cases i with
        | zero =>
          obtain rfl : f = g := by simpa using hg
          obtain rfl : x = y := by simpa using hy
          refine ⟨s, hs, by omega, by omega, ?_⟩
          rw [h1, Nat.sub_self, List.drop_zero, List.take_append_of_le_length (by omega), List.take_of_length_le (by omega)]
          exact q5.keeps r3
        | succ i =>
          obtain ⟨s', k1, k2, k3, k4⟩ := r6 i g y (by simpa using hg) (by simpa using hy)
          refine ⟨s', k1, by omega, k3, ?_⟩
          rw [List.drop_append, List.drop_of_length_le (by omega), List.nil_append, hl1, show g.offset - o - s = g.offset - (o + s) by omega]
          exact k4
theorem lays (hB : B = Bd.at w.heap.size) : ∀ (k : Nat) (t : TypeId), plainT J k t = true → Lays J B w enc held t := by
  intro k
  induction k with
  | zero => intro t h; simp [plainT] at h
  | succ k ih =>
    intro t h m cs x ι H htr hS
    simp only [plainT] at h
    split at h
    · -- bool
      rename_i n hu hn
      obtain ⟨b, rfl, rfl⟩ := DataW.trod_bool (J.und_ok hu) htr
      obtain rfl : n = 1 := by simpa using h
      exact ⟨ι, H, _, hS, Ext.refl _ _, Keeps.refl _, .cons (.bool b) .nil, .bool b hu, hn⟩
    · rename_i kk n hu hn
      obtain ⟨i, rfl, rfl, hw⟩ := DataW.trod_int (J.und_ok hu) htr
      obtain rfl : n = 1 := by simpa using h
      exact ⟨ι, H, _, hS, Ext.refl _ _, Keeps.refl _, .cons (.int _ _) .nil, .int hu hw, hn⟩
    · rename_i n hu hn
      obtain ⟨s, rfl, rfl, hw⟩ := DataW.trod_string (J.und_ok hu) htr
      obtain rfl : n = 1 := by simpa using h
      exact ⟨ι, H, _, hS, Ext.refl _ _, Keeps.refl _, .cons (.string _) .nil, .string hu hw, hn⟩
    · -- slices
      rename_i e n hu hn
      simp only [Bool.and_eq_true, beq_iff_eq] at h
      obtain ⟨rfl, h⟩ := h
      split at h
      case h_2 => cases h
      rename_i s hs
      simp only [Bool.and_eq_true, bne_iff_ne, ne_eq] at h
      obtain ⟨hs0, hpl⟩ := h
      have hcell := cellsOf_eq hs
      rcases DataW.trod_slice (J.und_ok hu) htr with ⟨rfl, rfl⟩ | ⟨a, len, cap, elems, rest, m', _, rfl, rfl, _, hlc, hcm, hlen, hel, hsp, _⟩
      · exact ⟨ι, H, _, hS, Ext.refl _ _, Keeps.refl _, .cons .sliceN .nil, .nil hu, hn⟩
      · have hsp := hsp rfl
        rw [hcell] at hel hsp
        by_cases hc0 : cap = 0
        · subst hc0
          obtain rfl : len = 0 := by omega
          refine ⟨ι, H.push .dead, [.slice (some ⟨H.next, 0, none⟩) 0 capU], hS.pushDead, ⟨by simp, fun _ _ => rfl⟩, keeps_push hS _, .cons (.slice0 (.inr rfl)) .nil, ?_, hn⟩
          exact .slice (cs := []) hu hs (by omega) (by simp) (fun h => by omega) (by simp) (by simpa using hlen) (by unfold maxLen; omega) fun i d hd => by
            have : (elems.map (·.1)).length = 0 := by simpa using hlen
            rw [List.length_eq_zero_iff.1 this] at hd
            simp at hd
        · -- the row that each element reads
          have hrow : ∀ i, i < cap → ∃ r, w.cells? 0 (a.add (i * s)) s = some r := fun i hi => by
            by_cases h1 : i < len
            · have := hel i h1
              rw [List.getElem?_eq_getElem (by omega)] at this
              obtain ⟨r, hr, _⟩ := Option.bind_eq_some_iff.1 this
              exact ⟨r, hr⟩
            · have := hsp.2 (i - len) (by omega)
              rw [List.getElem?_eq_getElem (by omega), show len + (i - len) = i by omega] at this
              obtain ⟨r, hr, _⟩ := Option.bind_eq_some_iff.1 this
              exact ⟨r, hr⟩
          obtain ⟨r0, hr0⟩ := hrow 0 (by omega)
          obtain ⟨rc, re, fr, hh, hspot0, hb0, _, _⟩ := cells_heap hr0 (by omega)
          have hspot : a.spot = none := by
            unfold Addr.add at hspot0
            cases ha : a.spot with
            | none => rfl
            | some q => simp [ha] at hspot0
          have hadd : ∀ i, a.add i = ⟨a.block, a.off + i, none⟩ := fun i => by obtain ⟨ab, ao, asp⟩ := a; simp only at hspot; subst hspot; unfold Addr.add; split <;> simp_all
          have hat : ∀ i, i < cap → ∃ r, w.cells? 0 (a.add (i * s)) s = some r ∧ a.off + i * s + s ≤ rc.size ∧ r.length = s ∧ ∀ j, j < s → rc[a.off + i * s + j]? = r[j]? := fun i hi => by
            obtain ⟨r, hr⟩ := hrow i hi
            obtain ⟨rc', re', fr', q1, _, q3, q4, q5⟩ := cells_heap hr (by omega)
            rw [hadd] at q1 q3 q5 hh
            simp only at q1 q3 q5 hh
            rw [hh] at q1
            cases q1
            exact ⟨r, hr, q3, q4, q5⟩
          rw [hadd] at hh
          simp only at hh
          have hblk : a.block < B.lo := by rw [hB]; exact (Array.getElem?_eq_some_iff.1 hh).1
          have hend : a.off + cap * s ≤ rc.size := by
            obtain ⟨r, _, q, _⟩ := hat (cap - 1) (by omega)
            have e1 : (cap - 1) * s + s = cap * s := by
              rw [← Nat.succ_mul]
              congr 1
              omega
            omega
          -- the elements
          obtain ⟨row, hrw⟩ : ∃ row : Nat → List Value, ∀ i, i < cap → w.cells? 0 (a.add (i * s)) s = some (row i) := ⟨fun i => (w.cells? 0 (a.add (i * s)) s).getD [], fun i hi => by obtain ⟨r, hr⟩ := hrow i hi; simp [hr]⟩
          obtain ⟨y, hy⟩ : ∃ y : Nat → DataW K × List MemPlace, ∀ i, i < len → elems[i]? = some (y i) := ⟨fun i => elems.getD i (.nil, []), fun i hi => by (have : i < elems.length := by omega); simp [this]⟩
          obtain ⟨ι1, H1, cs1, q1, q2, q3, q4, q5, q6⟩ := lays_many hs (ih e hpl) m' row y len ι H (fun i hi => by
            have := hel i hi
            rw [hrw i (by omega), hy i hi] at this
            simpa using this) hS
          obtain ⟨ι2, r1, r2, r3⟩ := q1.pushRO (ro := a.off) (e := e) (esz := s) (cs := cs1) hh hblk (by rw [hB]; exact id) (fun j v hv => by
            have hj : j < len * s := by rw [← q4]; exact (List.getElem?_eq_some_iff.1 hv).1
            have hs1 : 0 < s := by omega
            have hi : j / s < len := Nat.div_lt_of_lt_mul (by rw [Nat.mul_comm]; exact hj)
            have hm := Nat.mod_lt j hs1
            have hjd : j / s * s + j % s = j := by rw [Nat.mul_comm]; exact Nat.div_add_mod j s
            obtain ⟨r, hr, _, hrl, hrc⟩ := hat (j / s) (by omega)
            have h1 : ((cs1.drop (j / s * s)).take s)[j % s]? = some v := by
              rw [List.getElem?_take, if_pos hm, List.getElem?_drop, hjd]; exact hv
            obtain ⟨v', h2, h3⟩ := (q5 (j / s) hi).get h1
            rw [hrw _ (by omega)] at hr
            cases hr
            refine ⟨v', ?_, h3⟩
            rw [← h2, ← hrc _ hm]
            congr 1
            omega) hs
          refine ⟨ι2, H1.push (.cells cs1 e true), [.slice (some ⟨H1.next, 0, none⟩) len capU], r1, q2.trans r2, q3.trans (keeps_push q1 _), .cons ?_ .nil, ?_, hn⟩
          · exact .slice (a := ⟨H1.next, 0, none⟩) (a' := a) ⟨rfl, by simp, by rw [r3]; obtain ⟨ab, ao, asp⟩ := a; simp only at hspot; subst hspot; simp⟩ (.inr rfl) hlc (by rw [r3]; exact hend)
          · refine .slice hu hs (by omega) (by simp) (fun _ => by rw [IH.get_push, if_pos rfl]) q4 (by simpa using hlen) (Nat.le_trans hlc hcm) fun i d hd => ?_
            have hi : i < len := by
              have := (List.getElem?_eq_some_iff.1 hd).1
              simpa [hlen] using this
            rw [List.getElem?_map, hy i hi] at hd
            cases hd
            exact (q6 i hi).keeps (keeps_push q1 _)
    · -- structs
      rename_i fs n hu hn
      obtain ⟨xs, m', _, rfl, hl, hxl, hxf⟩ := DataW.trod_struct (J.und_ok hu) htr
      rw [cellsOf_eq hn] at hl
      obtain ⟨ι1, H1, cs1, q1, q2, q3, q4, q5, q6⟩ := lays_fields ih m' cs fs.toList 0 n xs ι H h (by omega) (by simpa using hxl) (fun i f hf => hxf i f (by simpa using hf)) hS
      refine ⟨ι1, H1, cs1, q1, q2, q3, ?_, ?_, by rw [hn]; congr 1; omega⟩
      · have : (cs.drop 0).take (n - 0) = cs := by rw [List.drop_zero]; exact List.take_of_length_le (by omega)
        rw [← this]; exact q5
      · have one : ∀ (i : Nat) (f : Field), fs[i]? = some f → ∃ x, xs[i]? = some x := fun i f hf => by
          have := (Array.getElem?_eq_some_iff.1 hf).1
          exact ⟨_, List.getElem?_eq_getElem (by omega)⟩
        refine .struct hu (by rw [hn]; congr 1; omega) (by simpa using hxl) (fun i f hf => ?_) fun i f d s' hf hd hs' => ?_
        · obtain ⟨x, hx⟩ := one i f hf
          obtain ⟨s, k1, k2, k3, k4⟩ := q6 i f x (by simpa using hf) hx
          exact ⟨s, k1, by omega⟩
        · obtain ⟨x, hx⟩ := one i f hf
          rw [List.getElem?_map, hx] at hd
          cases hd
          obtain ⟨s, k1, k2, k3, k4⟩ := q6 i f x (by simpa using hf) hx
          rw [hs'] at k1
          cases k1
          exact k4
    · -- arrays
      rename_i mm e n hu hn
      split at h
      case h_2 => cases h
      rename_i s hs
      simp only [Bool.and_eq_true, beq_iff_eq] at h
      obtain ⟨rfl, hpl⟩ := h
      obtain ⟨xs, m', _, rfl, hl, hxl, hxf⟩ := DataW.trod_array (J.und_ok hu) htr
      rw [cellsOf_eq hn] at hl
      rw [cellsOf_eq hs] at hxf
      obtain ⟨y, hy⟩ : ∃ y : Nat → DataW K × List MemPlace, ∀ i, i < mm → xs[i]? = some (y i) := ⟨fun i => xs.getD i (.nil, []), fun i hi => by (have : i < xs.length := by omega); simp [this]⟩
      obtain ⟨ι1, H1, cs1, q1, q2, q3, q4, q5, q6⟩ := lays_many hs (ih e hpl) m' (fun i => (cs.drop (i * s)).take s) y mm ι H (fun i hi => by rw [hxf i hi, hy i hi]) hS
      refine ⟨ι1, H1, cs1, q1, q2, q3, ⟨by omega, fun j v v' hv hv' => ?_⟩, .array hu hs q4 (by simpa using hxl) fun i d hd => ?_, by rw [hn, q4]⟩
      · have hj : j < mm * s := by rw [← q4]; exact (List.getElem?_eq_some_iff.1 hv).1
        have hs1 : 0 < s := by
          rcases Nat.eq_zero_or_pos s with h0 | h0
          · subst h0; simp at hj
          · exact h0
        have hi : j / s < mm := Nat.div_lt_of_lt_mul (by rw [Nat.mul_comm]; exact hj)
        have hm := Nat.mod_lt j hs1
        have hjd : j / s * s + j % s = j := by rw [Nat.mul_comm]; exact Nat.div_add_mod j s
        refine (q5 (j / s) hi).2 (j % s) v v' ?_ ?_
        · rw [List.getElem?_take, if_pos hm, List.getElem?_drop, hjd]; exact hv
        · rw [List.getElem?_take, if_pos hm, List.getElem?_drop, hjd]; exact hv'
      · have hi : i < mm := by
          have := (List.getElem?_eq_some_iff.1 hd).1
          simpa [hxl] using this
        rw [List.getElem?_map, hy i hi] at hd
        cases hd
        exact q6 i hi
    · cases h
def ofCells (J : Env) (t : TypeId) (cs : List Value) : Value :=
  match J.und t with
  | some (.struct _) | some (.array _ _) => .agg cs.toArray
  | _ => match cs with | [v] => v | _ => undef
end
end Go.Proofs.YtchlbfmjnhgpgaaGreat.Idl
namespace Go.Proofs.YtchlbfmjnhgpgaaGreat.Idl
open Go Go.RowKit Go.WideShapes Go.ChangeShapes

def isAggD (J : Env) (t : TypeId) : Bool :=
  match J.und t with
  | some (.struct _) | some (.array _ _) => true
  | _ => false
theorem ofCells_agg {J : Env} {t : TypeId} {cs : List Value} (h : isAggD J t = true) : ofCells J t cs = .agg cs.toArray := by
  unfold isAggD at h
  unfold ofCells
  cases hu : J.und t with
  | none => rw [hu] at h; cases h
  | some d => rw [hu] at h; cases d <;> first | rfl | cases h
theorem ofCells_one {J : Env} {t : TypeId} {v : Value} (h : isAggD J t = false) : ofCells J t [v] = v := by
  unfold isAggD at h
  unfold ofCells
  cases hu : J.und t with
  | none => rfl
  | some d => rw [hu] at h; cases d <;> first | rfl | cases h
def DatV (J : Env) {K : Type} (H : IH) (t : TypeId) (v : Value) (d : DataW K) : Prop := ∃ cs, Dat J H t cs d ∧ v = ofCells J t cs
theorem DatV.keeps {J : Env} {K : Type} {H H' : IH} (hk : Keeps H H') {t : TypeId} {v : Value} {d : DataW K} (h : DatV J H t v d) : DatV J H' t v d := let ⟨cs, h1, h2⟩ := h; ⟨cs, h1.keeps hk, h2⟩
inductive DatAll (J : Env) {K : Type} (H : IH) : List TypeId → List Value → List (DataW K) → Prop
  | nil : DatAll J H [] [] []
  | cons {t : TypeId} {v : Value} {d : DataW K} {ts : List TypeId} {vs : List Value} {ds : List (DataW K)} : DatV J H t v d → DatAll J H ts vs ds → DatAll J H (t :: ts) (v :: vs) (d :: ds)
section
variable {J : Env} {B : Bd} {w : World} {K : Type} {enc : TypeId × Value → K} {held : Bool}
theorem lay_arg (hB : B = Bd.at w.heap.size) {k : Nat} {t : TypeId} (hp : plainT J k t = true) {r : Reach} {base : Nat} {v : Value} (hv : Value.okWide J.P w r base t v) {d : DataW K} {p : List MemPlace} (ht : DataW.Trod enc J.P w 0 (fun _ => true) held t v d p)
    {ι : Emb} {H : IH} (hS : Sim J B ι H w) : ∃ (ι' : Emb) (H' : IH) (v' : Value), Sim J B ι' H' w ∧ Ext ι H.next ι' H'.next ∧ Keeps H H' ∧ VRel ι' H'.next v' v ∧ DatV J H' t v' d := by
  obtain ⟨m, htr⟩ := ht
  obtain ⟨ι', H', cs', h1, h2, h3, h4, h5, h6⟩ := lays hB k t hp m _ _ ι H htr hS
  have one : ∀ x, v = x → x.cells = #[x] → isAggD J t = false → ∃ (ι' : Emb) (H' : IH) (v' : Value), Sim J B ι' H' w ∧ Ext ι H.next ι' H'.next ∧ Keeps H H' ∧ VRel ι' H'.next v' v ∧ DatV J H' t v' d := fun x hx hc ha => by
    subst hx
    rw [hc] at h4
    have hl : cs'.length = 1 := by simpa using h4.1
    match cs', hl with
    | [y], _ =>
      refine ⟨ι', H', y, h1, h2, h3, h4.2 0 y v rfl rfl, [y], h5, ?_⟩
      rw [ofCells_one ha]
  have agg : ∀ cs, v = .agg cs → isAggD J t = true → ∃ (ι' : Emb) (H' : IH) (v' : Value), Sim J B ι' H' w ∧ Ext ι H.next ι' H'.next ∧ Keeps H H' ∧ VRel ι' H'.next v' v ∧ DatV J H' t v' d := fun cs hx ha => by
    subst hx
    refine ⟨ι', H', .agg cs'.toArray, h1, h2, h3, .agg (by simpa [Value.cells] using h4.1) (fun i x y hx hy => h4.2 i x y (by simpa using hx) (by simpa [Value.cells] using hy)), cs', h5, ?_⟩
    rw [ofCells_agg ha]
  cases k with
  | zero => simp [plainT] at hp
  | succ k =>
    simp only [plainT] at hp
    unfold Value.okWide at hv
    cases hu : J.und t with
    | none => simp [hu] at hp
    | some u =>
      rw [J.und_ok hu] at hv
      have hv' : Value.okWide J.P w r base t v := by unfold Value.okWide; rw [J.und_ok hu]; exact hv
      cases u <;> try (simp [hu] at hp; done)
      case bool =>
        obtain ⟨b, e⟩ := okWide_bool (J.und_ok hu) hv'
        exact one _ e rfl (by unfold isAggD; rw [hu])
      case int q =>
        obtain ⟨b, e⟩ := okWide_int (J.und_ok hu) hv'
        exact one _ e rfl (by unfold isAggD; rw [hu])
      case string =>
        obtain ⟨b, e⟩ := okWide_string (J.und_ok hu) hv'
        exact one _ e rfl (by unfold isAggD; rw [hu])
      case slice q =>
        obtain ⟨a, l, c, e⟩ := okWide_slice (J.und_ok hu) hv'
        exact one _ e rfl (by unfold isAggD; rw [hu])
      case struct fs =>
        obtain ⟨cs, e, _⟩ := hv
        exact agg _ e (by unfold isAggD; rw [hu])
      case array n e =>
        obtain ⟨cs, e, _⟩ := hv
        exact agg _ e (by unfold isAggD; rw [hu])
theorem lay_args (hB : B = Bd.at w.heap.size) {k : Nat} {r : Reach} {base : Nat} : ∀ (ts : List TypeId) (vs : List Value) (ds : List (DataW K)) (p : List MemPlace), ts.all (plainT J k) = true →
    (∀ (j : Nat) (t : TypeId) (v : Value), ts[j]? = some t → vs[j]? = some v → Value.okWide J.P w r base t v) → DataW.TrodAll enc J.P w 0 (fun _ => true) held ts vs ds p → ∀ (ι : Emb) (H : IH), Sim J B ι H w →
    ∃ (ι' : Emb) (H' : IH) (vs' : List Value), Sim J B ι' H' w ∧ Ext ι H.next ι' H'.next ∧ Keeps H H' ∧ LRel ι' H'.next vs' vs ∧ DatAll J H' ts vs' ds
  | [], [], [], _, _, _, _, ι, H, hS => ⟨ι, H, [], hS, Ext.refl _ _, Keeps.refl _, .nil, .nil⟩
  | t :: ts, v :: vs, d :: ds, _, hp, hv, ⟨p, q, h1, h2, _⟩, ι, H, hS => by
    rw [List.all_cons, Bool.and_eq_true] at hp
    obtain ⟨ι1, H1, v', a1, a2, a3, a4, a5⟩ := lay_arg hB hp.1 (hv 0 t v rfl rfl) h1 hS
    obtain ⟨ι2, H2, vs', b1, b2, b3, b4, b5⟩ := lay_args hB ts vs ds q hp.2 (fun j t v h h' => hv (j + 1) t v (by simpa using h) (by simpa using h')) h2 ι1 H1 a1
    exact ⟨ι2, H2, v' :: vs', b1, a2.trans b2, a3.trans b3, .cons (a4.ext b2) b4, .cons (a5.keeps b3) b5⟩
  | [], _ :: _, _, _, _, _, h, _, _, _ => h.elim
  | [], [], _ :: _, _, _, _, h, _, _, _ => h.elim
  | _ :: _, [], _, _, _, _, h, _, _, _ => h.elim
  | _ :: _, _ :: _, [], _, _, _, h, _, _, _ => h.elim
theorem stay_args {P : Program} (hl : laidOutB P = true) {W W' : World} (hb : Go.RowKit.Below W.heap.size W W') : ∀ {ts : List TypeId} {vs : List Value} {ds : List (DataW K)} {p : List MemPlace}, (∀ t ∈ ts, P.readableRec t = true ∧ t < P.types.size) →
    DataW.TrodAll enc P W 0 (fun _ => true) true ts vs ds p → (∀ x ∈ p, x.block < W.heap.size) → DataW.TrodAll enc P W' 0 (fun b => decide (b < W.heap.size)) true ts vs ds p
  | [], [], [], _, _, h, _ => h
  | t :: ts, v :: vs, d :: ds, _, ht, ⟨p, q, h1, h2, e⟩, hlt =>
    ⟨p, q, Go.RowKit.Below.trod hl (ht t (by simp)).1 (ht t (by simp)).2 h1 hb (fun x hx => hlt x (by rw [e]; simp [hx])),
      stay_args hl hb (fun t' h' => ht t' (by simp [h'])) h2 (fun x hx => hlt x (by rw [e]; simp [hx])), e⟩
  | [], _ :: _, _, _, _, h, _ => h.elim
  | [], [], _ :: _, _, _, h, _ => h.elim
  | _ :: _, [], _, _, _, h, _ => h.elim
  | _ :: _, _ :: _, [], _, _, h, _ => h.elim
theorem law_gen {okf : FuncId → Bool} (hsound : ∀ B k, CallSound J B (icall J okf k)) {W : World} {ι : Emb} {H0 : IH} (hS : Sim J (Bd.at W.heap.size) ι H0 W) {f : FuncId} {ts : List TypeId} {k : Nat} (hp : ts.all (plainT J k) = true) {r : Reach} {base : Nat} {args : Array Value} {ds : List (DataW K)} {p : List MemPlace}
    (hv : ∀ (j : Nat) (t : TypeId) (v : Value), ts[j]? = some t → args.toList[j]? = some v → Value.okWide J.P W r base t v) (hT : DataW.TrodAll enc J.P W 0 (fun _ => true) held ts args.toList ds p)
    (hid : ∀ (H : IH) (vs : List Value), Keeps H0 H → DatAll J H ts vs ds → ∃ H', cal J okf f vs.toArray H = some (.ret (.bool true), H')) :
    Calls J.P f args W fun e W' => e = .returned (.bool true) ∧ Go.RowKit.Below W.heap.size W W' := by
  obtain ⟨ι1, H1, vs, a1, a2, a3, a4, a5⟩ := lay_args rfl ts args.toList ds p hp hv hT ι H0 hS
  obtain ⟨H', hc⟩ := hid H1 vs a3 a5
  obtain ⟨n, hn⟩ := of_cal hc
  refine (hsound (Bd.at W.heap.size) n f vs.toArray args H1 ι1 W _ _ a1 (by simpa using a4) (hn n (Nat.le_refl _))).mono fun e W' hp => ?_
  obtain ⟨ι', _, _, hB, v', rfl, hv⟩ := hp
  cases hv
  exact ⟨rfl, hB.kit⟩
end

/-! ### Data of plain shapes -/
section
variable {J : Env} {K : Type} {H : IH} {t : TypeId}
theorem Dat.intI {k : IntKind} (ht : J.und t = some (.int k)) {cs : List Value} {d : DataW K} (h : Dat J H t cs d) : ∃ n, cs = [.int k n] ∧ d = .lit (.int k n) ∧ (Lit.int k n).wf = true := by
  cases h with
  | int h1 h2 => rw [ht] at h1; cases h1; exact ⟨_, rfl, rfl, h2⟩
  | bool b h1 => rw [ht] at h1; cases h1
  | string h1 _ => rw [ht] at h1; cases h1
  | nil h1 => rw [ht] at h1; cases h1
  | slice h1 => rw [ht] at h1; cases h1
  | struct h1 => rw [ht] at h1; cases h1
  | array h1 => rw [ht] at h1; cases h1
theorem Dat.boolI (ht : J.und t = some .bool) {cs : List Value} {d : DataW K} (h : Dat J H t cs d) : ∃ b, cs = [.bool b] ∧ d = .lit (.bool b) := by
  cases h with
  | bool b h1 => exact ⟨_, rfl, rfl⟩
  | int h1 h2 => rw [ht] at h1; cases h1
  | string h1 _ => rw [ht] at h1; cases h1
  | nil h1 => rw [ht] at h1; cases h1
  | slice h1 => rw [ht] at h1; cases h1
  | struct h1 => rw [ht] at h1; cases h1
  | array h1 => rw [ht] at h1; cases h1
theorem Dat.stringI (ht : J.und t = some .string) {cs : List Value} {d : DataW K} (h : Dat J H t cs d) : ∃ s, cs = [.string s] ∧ d = .lit (.string s.data.toList) ∧ s.size ≤ maxLen := by
  cases h with
  | string h1 h2 => exact ⟨_, rfl, rfl, h2⟩
  | int h1 h2 => rw [ht] at h1; cases h1
  | bool b h1 => rw [ht] at h1; cases h1
  | nil h1 => rw [ht] at h1; cases h1
  | slice h1 => rw [ht] at h1; cases h1
  | struct h1 => rw [ht] at h1; cases h1
  | array h1 => rw [ht] at h1; cases h1
theorem Dat.sliceI {e : TypeId} {n : Nat} (ht : J.und t = some (.slice e)) (hn : J.size e = some n) {cs : List Value} {d : DataW K} (h : Dat J H t cs d) : (cs = [.slice none 0 0] ∧ d = .nil) ∨
    ∃ (b len : Nat) (ws : List Value) (ds rest : List (DataW K)), cs = [.slice (some ⟨b, 0, none⟩) len capU] ∧ d = .slice ds rest ∧ b < H.next ∧ (0 < len → H.get b = some (.cells ws e true)) ∧ ws.length = len * n ∧ ds.length = len ∧ len ≤ maxLen ∧
      ∀ (i : Nat) (d : DataW K), ds[i]? = some d → Dat J H e ((ws.drop (i * n)).take n) d := by
  cases h with
  | nil h1 => exact .inl ⟨rfl, rfl⟩
  | slice h1 h2 h3 h8 h4 h5 h6 h7 h9 => rw [ht] at h1; cases h1; rw [hn] at h2; cases h2; exact .inr ⟨_, _, _, _, _, rfl, rfl, h8, h4, h5, h6, h7, h9⟩
  | bool b h1 => rw [ht] at h1; cases h1
  | int h1 h2 => rw [ht] at h1; cases h1
  | string h1 _ => rw [ht] at h1; cases h1
  | struct h1 => rw [ht] at h1; cases h1
  | array h1 => rw [ht] at h1; cases h1
theorem Dat.arrayI {e : TypeId} {m n : Nat} (ht : J.und t = some (.array m e)) (hn : J.size e = some n) {cs : List Value} {d : DataW K} (h : Dat J H t cs d) : ∃ ds, d = .agg ds ∧ cs.length = m * n ∧ ds.length = m ∧
    ∀ (i : Nat) (d : DataW K), ds[i]? = some d → Dat J H e ((cs.drop (i * n)).take n) d := by
  cases h with
  | array h1 h2 h3 h4 h5 => rw [ht] at h1; cases h1; rw [hn] at h2; cases h2; exact ⟨_, rfl, h3, h4, h5⟩
  | bool b h1 => rw [ht] at h1; cases h1
  | int h1 h2 => rw [ht] at h1; cases h1
  | string h1 _ => rw [ht] at h1; cases h1
  | nil h1 => rw [ht] at h1; cases h1
  | slice h1 => rw [ht] at h1; cases h1
  | struct h1 => rw [ht] at h1; cases h1
theorem DatV.int {k : IntKind} (ht : J.und t = some (.int k)) {v : Value} {d : DataW K} (h : DatV J H t v d) : ∃ n, v = .int k n ∧ d = .lit (.int k n) ∧ (Lit.int k n).wf = true := by
  obtain ⟨cs, h, rfl⟩ := h
  obtain ⟨n, rfl, rfl, h2⟩ := h.intI ht
  exact ⟨_, by simp [ofCells, ht], rfl, h2⟩
theorem DatV.bool (ht : J.und t = some .bool) {v : Value} {d : DataW K} (h : DatV J H t v d) : ∃ b, v = .bool b ∧ d = .lit (.bool b) := by
  obtain ⟨cs, h, rfl⟩ := h
  obtain ⟨b, rfl, rfl⟩ := h.boolI ht
  exact ⟨_, by simp [ofCells, ht], rfl⟩
theorem DatV.string (ht : J.und t = some .string) {v : Value} {d : DataW K} (h : DatV J H t v d) : ∃ s, v = .string s ∧ d = .lit (.string s.data.toList) ∧ s.size ≤ maxLen := by
  obtain ⟨cs, h, rfl⟩ := h
  obtain ⟨s, rfl, rfl, h2⟩ := h.stringI ht
  exact ⟨_, by simp [ofCells, ht], rfl, h2⟩
theorem DatV.slice {e : TypeId} {n : Nat} (ht : J.und t = some (.slice e)) (hn : J.size e = some n) {v : Value} {d : DataW K} (h : DatV J H t v d) : (v = .slice none 0 0 ∧ d = .nil) ∨
    ∃ (b len : Nat) (ws : List Value) (ds rest : List (DataW K)), v = .slice (some ⟨b, 0, none⟩) len capU ∧ d = .slice ds rest ∧ b < H.next ∧ (0 < len → H.get b = some (.cells ws e true)) ∧ ws.length = len * n ∧ ds.length = len ∧ len ≤ maxLen ∧
      ∀ (i : Nat) (d : DataW K), ds[i]? = some d → Dat J H e ((ws.drop (i * n)).take n) d := by
  obtain ⟨cs, h, rfl⟩ := h
  rcases h.sliceI ht hn with ⟨rfl, rfl⟩ | ⟨b, len, ws, ds, rest, rfl, h2⟩
  · exact .inl ⟨by simp [ofCells, ht], rfl⟩
  · exact .inr ⟨b, len, ws, ds, rest, by simp [ofCells, ht], h2⟩
theorem DatV.struct {fs : Array Field} (ht : J.und t = some (.struct fs)) {v : Value} {d : DataW K} (h : DatV J H t v d) : ∃ cs, v = .agg cs.toArray ∧ Dat J H t cs d := by
  obtain ⟨cs, h, rfl⟩ := h
  exact ⟨cs, by simp [ofCells, ht], h⟩
theorem DatV.array {e : TypeId} {m : Nat} (ht : J.und t = some (.array m e)) {v : Value} {d : DataW K} (h : DatV J H t v d) : ∃ cs, v = .agg cs.toArray ∧ Dat J H t cs d := by
  obtain ⟨cs, h, rfl⟩ := h
  exact ⟨cs, by simp [ofCells, ht], h⟩
end
section
variable {w : World} {K : Type} {enc : TypeId × Value → K} {held : Bool} {P : Program} {sp : Nat → Bool} {base : Nat}
theorem trod_ds1 {t : TypeId} {vs : List Value} {ds : List (DataW K)} {p : List MemPlace} (h : DataW.TrodAll enc P w base sp held [t] vs ds p) : ∃ d, ds = [d] := by
  match vs, ds, h with
  | [_], [d], _ => exact ⟨d, rfl⟩
  | [_], _ :: _ :: _, ⟨_, _, _, h, _⟩ => exact h.elim
  | _ :: _ :: _, [_], ⟨_, _, _, h, _⟩ => exact h.elim
  | _ :: _ :: _, _ :: _ :: _, ⟨_, _, _, h, _⟩ => exact h.elim
theorem trod_ds2 {t u : TypeId} {vs : List Value} {ds : List (DataW K)} {p : List MemPlace} (h : DataW.TrodAll enc P w base sp held [t, u] vs ds p) : ∃ d d', ds = [d, d'] := by
  match vs, ds, h with
  | _ :: _, d :: _, ⟨_, _, _, h, _⟩ => obtain ⟨d', rfl⟩ := trod_ds1 h; exact ⟨d, d', rfl⟩
theorem trod_ds3 {t u x : TypeId} {vs : List Value} {ds : List (DataW K)} {p : List MemPlace} (h : DataW.TrodAll enc P w base sp held [t, u, x] vs ds p) : ∃ d d' d'', ds = [d, d', d''] := by
  match vs, ds, h with
  | _ :: _, d :: _, ⟨_, _, _, h, _⟩ => obtain ⟨d', d'', rfl⟩ := trod_ds2 h; exact ⟨d, d', d'', rfl⟩
end
theorem DatAll.one {J : Env} {K : Type} {H : IH} {t : TypeId} {vs : List Value} {ds : List (DataW K)} (h : DatAll J H [t] vs ds) : ∃ v d, vs = [v] ∧ ds = [d] ∧ DatV J H t v d := by
  cases h with
  | cons h1 h2 => cases h2; exact ⟨_, _, rfl, rfl, h1⟩
theorem DatAll.two {J : Env} {K : Type} {H : IH} {t u : TypeId} {vs : List Value} {ds : List (DataW K)} (h : DatAll J H [t, u] vs ds) : ∃ v d v' d', vs = [v, v'] ∧ ds = [d, d'] ∧ DatV J H t v d ∧ DatV J H u v' d' := by
  cases h with
  | cons h1 h2 => obtain ⟨v', d', rfl, rfl, h3⟩ := h2.one; exact ⟨_, _, _, _, rfl, rfl, h1, h3⟩
theorem DatAll.three {J : Env} {K : Type} {H : IH} {t u x : TypeId} {vs : List Value} {ds : List (DataW K)} (h : DatAll J H [t, u, x] vs ds) : ∃ v d v' d' v'' d'', vs = [v, v', v''] ∧ ds = [d, d', d''] ∧ DatV J H t v d ∧ DatV J H u v' d' ∧ DatV J H x v'' d'' := by
  cases h with
  | cons h1 h2 => obtain ⟨v', d', v'', d'', rfl, rfl, h3, h4⟩ := h2.two; exact ⟨_, _, _, _, _, _, rfl, rfl, h1, h3, h4⟩
end Go.Proofs.YtchlbfmjnhgpgaaGreat.Idl
namespace Go.Proofs.YtchlbfmjnhgpgaaGreat.Idl
open Go Go.RowKit

def erO (o : Oper) : Oper := { o with pos := "", after := #[] }
def mayPan (o : Oper) : Bool :=
  match o.op with
  | .panic _ => true
  | .call c => (match c.callee with
    | .builtin _ => false
    | _ => true)
  | _ => false
def drawOk (J : Env) (ops : Array Oper) : Bool :=
  (pairs J ops).isEmpty && (let W := waits ops; (List.range ops.size).all fun i => match ops[i]? with
    | some o => !mayPan o || (effAt J ops i && (List.range ops.size).all fun j => decide (j ≤ i) || waitsFor W j i)
    | none => true)
def erC (J : Env) : Code → Code
  | .region id ops draw => if draw then (if drawOk J (arrange J ops) then .region id ((arrange J ops).map erO) false else .region id ops true) else .region id (ops.map erO) false
  | .seq a b => .seq (erC J a) (erC J b)
  | .cond c x y => .cond c (erC J x) (erC J y)
  | .block id c => .block id (erC J c)
  | .loop c => .loop (erC J c)
  | .scope c => .scope (erC J c)
  | c => c
section
variable {J : Env}
theorem execOp_er (ρ : Operand → Value) (o : Oper) : execOp ρ (erO o) = execOp ρ o := by
  obtain ⟨dst, op, type, pos, after, guard⟩ := o
  cases op <;> rfl
theorem ipure_er (o : Oper) (T : Regs) (H : IH) : ipure J (erO o) T H = ipure J o T H := by
  unfold ipure
  rw [execOp_er]
  rfl
theorem iop_er (o : Oper) (T : Regs) (H : IH) : iop J (erO o) T H = iop J o T H := by
  have hp := ipure_er (J := J) o T H
  have hc : ∀ c, icall0 J (erO o) T H c = icall0 J o T H c := fun c => by
    unfold icall0
    rw [hp]
  obtain ⟨dst, op, type, pos, after, guard⟩ := o
  simp only [erO] at hp hc ⊢
  cases op <;> simp only [iop, hp, hc]
theorem iexec_er (call : CallR) (o : Oper) (T : Regs) (H : IH) : iexec J call (erO o) T H = iexec J call o T H := by
  unfold iexec
  rw [iop_er]
theorem wanted_er (ops : Array Oper) (T : Regs) (o : Oper) : wantedR (ops.map erO) T (erO o) = wantedR ops T o := by
  unfold wantedR
  have : (erO o).guard = o.guard := rfl
  rw [this]
  split
  · rfl
  · rename_i j want h
    have : ((ops.map erO)[j]?).bind (·.dst) = (ops[j]?).bind (·.dst) := by
      rw [Array.getElem?_map]
      cases ops[j]? <;> rfl
    rw [this]
theorem iops_er (call : CallR) (ops : Array Oper) : ∀ (l : List Oper) (T : Regs) (H : IH), iops J call (ops.map erO) (l.map erO) T H = iops J call ops l T H := by
  intro l
  induction l with
  | nil => intro T H; rfl
  | cons o l ih =>
    intro T H
    rw [List.map_cons, iops_cons, iops_cons, wanted_er, iexec_er]
    have hd : (erO o).dst = o.dst := rfl
    unfold opStep
    rw [hd]
    split
    · split <;> first | exact ih _ _ | rfl
    · exact ih _ _
theorem some_val {v : Value} {H : IH} {y : OR} (h : some (OR.val v H) = some y) : ∃ v H1, y = .val v H1 := ⟨v, H, (Option.some.inj h).symm⟩
theorem none_val {y : OR} (h : none = some y) : ∃ v H1, y = .val v H1 := by cases h
theorem ofVal_val {H : IH} {x : Option Value} {y : OR} (h : OR.ofVal H x = some y) : ∃ v H1, y = .val v H1 := let ⟨v, h1, _⟩ := ofVal_same h; ⟨v, _, h1⟩
theorem ofPair_val {x : Option (Value × IH)} {y : OR} (h : OR.ofPair x = some y) : ∃ v H1, y = .val v H1 := by
  cases x with
  | none => cases h
  | some p => exact ⟨_, _, (Option.some.inj h).symm⟩
theorem ofHeap_val {x : Option IH} {y : OR} (h : OR.ofHeap x = some y) : ∃ v H1, y = .val v H1 := by
  cases x with
  | none => cases h
  | some p => exact ⟨_, _, (Option.some.inj h).symm⟩
theorem pure_val {o : Oper} {T : Regs} {H : IH} {y : OR} (h : ipure J o T H = some y) : ∃ v H1, y = .val v H1 := let ⟨v, h1, _⟩ := ipure_same h; ⟨v, _, h1⟩
theorem map_val {α : Type} {f : α → Value} {g : α → IH} {x : Option α} {y : OR} (h : x.map (fun z => OR.val (f z) (g z)) = some y) : ∃ v H1, y = .val v H1 := by
  cases x with
  | none => cases h
  | some p => exact ⟨_, _, (Option.some.inj h).symm⟩
theorem pan_may {call : CallR} {o : Oper} {T : Regs} {H H' : IH} {v : Value} (h : iexec J call o T H = some (.pan v, H')) : mayPan o = true := by
  rw [iexec_eq] at h
  cases hi : iop J o T H with
  | none => simp [hi, orStep] at h
  | some y =>
    rw [hi] at h
    have pur : ∀ {x}, ipure J o T H = some x → ∃ v, x = .val v H := fun hx => let ⟨v, h1, _⟩ := ipure_same hx; ⟨v, h1⟩
    obtain ⟨dst, op, type, pos, after, guard⟩ := o
    by_cases hm : mayPan ⟨dst, op, type, pos, after, guard⟩ = true
    · exact hm
    · exfalso
      have hv : ∃ v H1, y = .val v H1 := by
        by_cases hl : isEff J ⟨dst, op, type, pos, after, guard⟩ = false
        · obtain ⟨v, h1⟩ := light_same hl hi; exact ⟨v, _, h1⟩
        cases op <;> simp only [mayPan] at hm <;> simp only [isEff] at hl <;> first | (exact absurd trivial hl) | (exact absurd rfl hl) | (exact absurd rfl hm) | (exact absurd trivial hm) | skip
        all_goals simp only [iop] at hi
        case alloc => exact map_val hi
        case box => exact map_val hi
        case buildSlice => exact ofPair_val hi
        case makeSlice => exact ofPair_val hi
        case makeMap t r => cases r <;> first | exact some_val hi | exact pure_val hi
        case mapUpdate => exact ofHeap_val hi
        case insert => exact ofHeap_val hi
        case store =>
          split at hi
          · exact ofHeap_val hi
          · exact none_val hi
        case convert =>
          split at hi
          · exact some_val hi
          · exact pure_val hi
        case call c =>
          unfold icall0 at hi
          split at hi
          · rename_i hc; simp [hc] at hm
          · rename_i hc; simp [hc] at hm
          · rename_i hc; simp [hc] at hl
          · split at hi
            · exact ofPair_val hi
            · exact none_val hi
          · split at hi
            · exact ofPair_val hi
            · exact none_val hi
          · split at hi
            · exact ofPair_val hi
            · exact none_val hi
          · split at hi
            · exact ofPair_val hi
            · exact none_val hi
          · split at hi
            · exact ofVal_val hi
            · exact none_val hi
          · exact pure_val hi
      obtain ⟨v1, H1, rfl⟩ := hv
      simp [orStep] at h
theorem idraw_iops {call : CallR} {ops : Array Oper} (h : drawOk J ops = true) (T : Regs) (H : IH) : idraw J call ops T H = iops J call ops ops.toList T H := by
  unfold drawOk at h
  simp only [Bool.and_eq_true, List.isEmpty_iff] at h
  obtain ⟨h1, h2⟩ := h
  have key : ∀ (l : List Oper) (s : DSt), ops.toList.drop s.vs.length = l →
      match iops J call ops l s.T s.H with
      | some (.normal, T', H') => ∃ vs hs, drun J call ops l s = some (⟨T', H', vs, hs⟩, none)
      | some (.pan v, T', H') => ∃ vs hs, drun J call ops l s = some (⟨T', H', vs, hs⟩, some v) ∧ ∃ o, ops[vs.length]? = some o ∧ mayPan o = true
      | some _ => False
      | none => drun J call ops l s = none := by
    intro l
    induction l with
    | nil => intro s _; exact ⟨s.vs, s.hs, rfl⟩
    | cons o l ih =>
      intro s hl
      have ho : ops[s.vs.length]? = some o := by
        have := congrArg (fun l => l[0]?) hl
        simpa using this
      have hl' : ∀ x : Regs × Value, ops.toList.drop (s.vs ++ [x]).length = l := fun x => by
        rw [List.length_append, List.length_singleton, ← List.drop_drop, hl]; rfl
      rw [iops_cons]
      simp only [drun]
      by_cases hw : wantedR ops s.T o = true
      · rw [if_pos hw, if_pos hw]
        cases he : iexec J call o s.T s.H with
        | none => simp [opStep]
        | some y =>
          obtain ⟨e, H'⟩ := y
          cases e with
          | ret v => exact ih ⟨putR s.T o.dst v, H', s.vs ++ [(s.T, v)], if isEff J o then s.hs ++ [H'] else s.hs⟩ (hl' _)
          | pan v => exact ⟨s.vs, s.hs, rfl, o, ho, pan_may he⟩
      · rw [if_neg hw, if_neg hw]
        exact ih ⟨putR s.T o.dst undef, s.H, s.vs ++ [(s.T, undef)], if isEff J o then s.hs ++ [s.H] else s.hs⟩ (hl' _)
  have k0 := key ops.toList ⟨T, H, [], [H]⟩ (by simp)
  dsimp only at k0
  unfold idraw
  cases hi : iops J call ops ops.toList T H with
  | none => rw [hi] at k0; rw [k0]
  | some y =>
    obtain ⟨x, T', H'⟩ := y
    rw [hi] at k0
    cases x with
    | normal =>
      obtain ⟨vs, hs, hd⟩ := k0
      rw [hd]
      simp [dcheck_nil J h1]
    | pan v =>
      obtain ⟨vs, hs, hd, o, ho, hp⟩ := k0
      rw [hd]
      have hlt := (Array.getElem?_eq_some_iff.1 ho).1
      have := List.all_eq_true.1 h2 vs.length (List.mem_range.2 hlt)
      rw [ho] at this
      simp only [hp, Bool.not_true, Bool.false_or, Bool.and_eq_true] at this
      simp only [dcheck_nil J h1, this.1, this.2, Bool.and_self, if_true]
    | _ => exact absurd k0 (by simp)
theorem icode_er (call : CallR) : ∀ (k : Nat) (c : Code) (T : Regs) (H : IH), icode J call k (erC J c) T H = icode J call k c T H := by
  intro k
  induction k with
  | zero => intro c T H; rfl
  | succ k ih =>
    intro c T H
    cases c with
    | region id ops draw =>
      cases draw with
      | true =>
        simp only [erC, if_true]
        split
        · rename_i h
          simp only [icode, Bool.false_eq_true, if_false, if_true]
          rw [idraw_iops h, Array.toList_map, iops_er]
        · rfl
      | false =>
        simp only [erC, Bool.false_eq_true, if_false, icode]
        rw [Array.toList_map, iops_er]
    | seq a b =>
      rw [erC, icode_seq, icode_seq, ih a]
      unfold andThen
      split
      · exact ih b _ _
      · rfl
    | cond c x y => rw [erC, icode_cond, icode_cond, ih x, ih y]
    | block id c => rw [erC, icode_block, icode_block, ih c]
    | scope c => exact ih c T H
    | loop c =>
      have hl : ∀ T H, icode J call k (.loop (erC J c)) T H = icode J call k (.loop c) T H := fun T H => ih (.loop c) T H
      rw [erC, icode_loop, icode_loop, ih c]
      unfold andThen
      split
      · exact hl _ _
      · rfl
    | _ => rfl
end
theorem icall_er (J : Env) (k : Nat) (H : IH) (okf : FuncId → Bool) (f : FuncId) (args : Array Value) (fn : Func) (c c' : Code) (h0 : okf f = true) (h1 : J.fn f = some fn) (h2 : fn.body = some c) (hc : erC J c = c') (h3 : args.size ≤ fn.ntmps) (h4 : J.hook f args.toList = none) (h5 : J.dfr f = false) :
    icall J okf (k + 1) f args H = finish J fn.results.toList (icode J (icall J okf k) k c' (regsOf args.toList 0 .leaf) H) := by
  rw [icall_body J k H okf f args fn c h0 h1 h2 h3 h4 h5, ← hc, icode_er]
theorem cal_er (J : Env) (H : IH) (okf : FuncId → Bool) (f : FuncId) (args : Array Value) (fn : Func) (c c' : Code) (rs : List ResultVar) (h0 : okf f = true) (h1 : J.fn f = some fn) (h2 : fn.body = some c) (hc : erC J c = c') (hr : fn.results.toList = rs) (h3 : args.size ≤ fn.ntmps) (h4 : J.hook f args.toList = none) (h5 : J.dfr f = false) :
    cal J okf f args H = finish J rs (run J okf c' (regsOf args.toList 0 .leaf) H) := by
  subst hr
  exact cal_body J okf H f args _ c' fun k => icall_er J k H okf f args fn c c' h0 h1 h2 hc h3 h4 h5
def findReg (i : Nat) : Code → Option (Array Oper)
  | .region id ops true => if id == i then some ops else none
  | .seq a b => match findReg i a with
    | some r => some r
    | none => findReg i b
  | .cond _ x y => match findReg i x with
    | some r => some r
    | none => findReg i y
  | .block _ c => findReg i c
  | .loop c => findReg i c
  | .scope c => findReg i c
  | _ => none
def regOf (fn : Func) (i : Nat) : List Oper := match fn.body with
  | some c => ((findReg i c).getD #[]).toList
  | none => []
/-! Short forms for printed code. -/
abbrev o (d : Tmp) (op : Op) (t : TypeId) : Oper := ⟨some d, op, t, "", #[], none⟩
abbrev oz (op : Op) (t : TypeId) : Oper := ⟨none, op, t, "", #[], none⟩
abbrev og (d : Tmp) (op : Op) (t : TypeId) (j : Nat) (b : Bool) : Oper := ⟨some d, op, t, "", #[], some (j, b)⟩
abbrev xi (n : Int) : Operand := .const (.int .i64 n)
end Go.Proofs.YtchlbfmjnhgpgaaGreat.Idl
namespace Go.Proofs.YtchlbfmjnhgpgaaGreat.Idl
open Go Go.RowKit

structure Ann where
  o : Oper
  eff : Bool
  pan : Bool
  st : List Nat
def panAt (J : Env) (A : Array Oper) (i : Nat) : Bool := effAt J A i && (List.range A.size).all fun j => decide (j ≤ i) || waitsFor (waits A) j i
def stagesOf (ps : List (Nat × Nat)) (i : Nat) : List Nat := (ps.filter fun p => p.1 == i).map (·.2)
def annOf (J : Env) (A : Array Oper) : List Ann := let ps := pairs J A; A.toList.zipIdx.map fun p => ⟨erO p.1, isEff J p.1, panAt J A p.2, stagesOf ps p.2⟩
def lateB (J : Env) (A : Array Oper) : Bool := (pairs J A).all fun p => decide (E J A p.1 < p.2)
abbrev Pend := List (Oper × Regs × Value × List Nat)
def pendOk (J : Env) (P : Pend) (k : Nat) (H : IH) : Bool :=
  P.all fun p => !p.2.2.2.contains k || (match iop J p.1 p.2.1 H with
    | some (.val v _) => veq 8 p.2.2.1 v
    | _ => false)
def pendAdd (a : Ann) (T : Regs) (v : Value) (P : Pend) : Pend :=
  match a.st with
  | [] => P
  | st => (a.o, T, v, st) :: P
def eRun (J : Env) (call : CallR) (ops : Array Oper) : List Ann → Regs → IH → Nat → Pend → Option (IX × Regs × IH)
  | [], T, H, _, _ => some (.normal, T, H)
  | a :: r, T, H, k, P =>
    if wantedR ops T a.o then
      match iexec J call a.o T H with
      | some (.ret v, H') =>
        if a.eff then (if pendOk J P (k + 1) H' then eRun J call ops r (putR T a.o.dst v) H' (k + 1) P else none)
        else eRun J call ops r (putR T a.o.dst v) H' k (pendAdd a T v P)
      | some (.pan v, H') => if a.pan then some (.pan v, T, H') else none
      | none => none
    else if a.eff then (if pendOk J P (k + 1) H then eRun J call ops r (putR T a.o.dst undef) H (k + 1) P else none)
      else eRun J call ops r (putR T a.o.dst undef) H k P
section
variable {J : Env}
theorem oblig_er {A : Array Oper} {vs : List (Regs × Value)} {hs : List IH} {p : Nat × Nat} {o : Oper} {q : Regs × Value} {H : IH} (h1 : A[p.1]? = some o) (h2 : vs[p.1]? = some q) (h3 : hs[p.2]? = some H) :
    oblig J A vs hs p = (!wantedR A q.1 o || (match iop J (erO o) q.1 H with
      | some (.val v _) => veq 8 q.2 v
      | _ => false)) := by
  unfold oblig
  rw [h1, h2, h3]
  dsimp only
  rw [iop_er]
  cases iop J o q.1 H with
  | none => rfl
  | some y => cases y <;> rfl
structure EInv (J : Env) (A : Array Oper) (s : DSt) (k : Nat) (P : Pend) : Prop where
  len : s.vs.length ≤ A.size
  hl : s.hs.length = k + 1
  kE : k = E J A s.vs.length
  ob : ∀ p ∈ pairs J A, p.1 < s.vs.length → p.2 ≤ k → oblig J A s.vs s.hs p = true
  pd : ∀ p ∈ pairs J A, p.1 < s.vs.length → k < p.2 → ∀ o q, A[p.1]? = some o → s.vs[p.1]? = some q → wantedR A q.1 o = true → ∃ st, p.2 ∈ st ∧ (erO o, q.1, q.2, st) ∈ P
theorem oblig_app {A : Array Oper} {vs vs' : List (Regs × Value)} {hs hs' : List IH} {p : Nat × Nat} (h1 : p.1 < vs.length) (h2 : p.2 < hs.length) (h : oblig J A vs hs p = true) : oblig J A (vs ++ vs') (hs ++ hs') p = true := by
  unfold oblig at h ⊢
  rw [List.getElem?_append_left h1, List.getElem?_append_left h2]
  exact h
theorem pend_use {P : Pend} {k : Nat} {H : IH} (h : pendOk J P k H = true) {o : Oper} {T : Regs} {v : Value} {st : List Nat} (hm : (o, T, v, st) ∈ P) (hk : k ∈ st) : (match iop J o T H with
    | some (.val u _) => veq 8 v u
    | _ => false) = true := by
  have := List.all_eq_true.1 h _ hm
  simp only [Bool.or_eq_true, Bool.not_eq_true'] at this
  rcases this with h1 | h1
  · have : st.contains k = true := by simpa using hk
    rw [this] at h1; cases h1
  · exact h1
theorem EInv.step {A : Array Oper} (hlate : lateB J A = true) {s : DSt} {k : Nat} {P : Pend} (h : EInv J A s k P) {o : Oper} (ho : A[s.vs.length]? = some o) {v : Value} {H' : IH} {k' : Nat} {P' : Pend} {hs' : List IH}
    (he : (isEff J o = true ∧ k' = k + 1 ∧ hs' = s.hs ++ [H'] ∧ P' = P ∧ pendOk J P (k + 1) H' = true) ∨ (isEff J o = false ∧ k' = k ∧ hs' = s.hs ∧ (∀ x ∈ P, x ∈ P') ∧ (wantedR A s.T o = true → ∀ kk ∈ stagesOf (pairs J A) s.vs.length, ∃ st, kk ∈ st ∧ (erO o, s.T, v, st) ∈ P'))) :
    EInv J A ⟨putR s.T o.dst v, H', s.vs ++ [(s.T, v)], hs'⟩ k' P' := by
  have hlt := (Array.getElem?_eq_some_iff.1 ho).1
  have heff : effAt J A s.vs.length = isEff J o := by simp [effAt, ho]
  have hE : E J A (s.vs.length + 1) = E J A s.vs.length + if isEff J o then 1 else 0 := by rw [E_succ, heff]
  have hlast : (s.vs ++ [(s.T, v)])[s.vs.length]? = some (s.T, v) := by simp
  have old : ∀ {i : Nat}, i < s.vs.length → (s.vs ++ [(s.T, v)])[i]? = s.vs[i]? := fun hi => List.getElem?_append_left hi
  have hlt2 : ∀ p ∈ pairs J A, E J A p.1 < p.2 := fun p hp => by simpa using List.all_eq_true.1 hlate p hp
  rcases he with ⟨e1, rfl, rfl, rfl, e5⟩ | ⟨e1, rfl, rfl, e4, e5⟩
  · refine ⟨by simp; omega, by simp [h.hl], ?_, fun p hp hi hk => ?_, fun p hp hi hk o' q ho' hq hw => ?_⟩
    · show k + 1 = E J A (s.vs ++ [(s.T, v)]).length
      rw [List.length_append, List.length_singleton, hE, if_pos e1, h.kE]
    · simp only [List.length_append, List.length_singleton] at hi
      have hps := hlt2 p hp
      by_cases hil : p.1 < s.vs.length
      · by_cases hkk : p.2 ≤ k
        · exact oblig_app hil (by have := h.hl; omega) (h.ob p hp hil hkk)
        · have hk2 : p.2 = k + 1 := by omega
          obtain ⟨o', ho'⟩ : ∃ o', A[p.1]? = some o' := ⟨_, Array.getElem?_eq_getElem (by omega)⟩
          obtain ⟨q, hq⟩ : ∃ q, s.vs[p.1]? = some q := ⟨_, List.getElem?_eq_getElem hil⟩
          have hh : (s.hs ++ [H'])[p.2]? = some H' := by rw [List.getElem?_append_right (by have := h.hl; omega), h.hl, hk2]; simp
          rw [oblig_er ho' (by rw [old hil]; exact hq) hh]
          cases hw : wantedR A q.1 o' with
          | false => rfl
          | true =>
            obtain ⟨st, s1, s2⟩ := h.pd p hp hil (by omega) o' q ho' hq hw
            rw [hk2] at s1
            simp only [Bool.not_true, Bool.false_or]
            exact pend_use e5 s2 s1
      · have : p.1 = s.vs.length := by omega
        rw [this] at hps
        have h6 := E_mono (J := J) (ops := A) (Nat.le_refl s.vs.length)
        have : isEff J o = false := by
          have hp2 := hp
          unfold pairs at hp2
          rw [List.mem_flatMap] at hp2
          obtain ⟨i, _, hi2⟩ := hp2
          cases hoi : A[i]? with
          | none => rw [hoi] at hi2; simp at hi2
          | some oi =>
            rw [hoi] at hi2
            dsimp only at hi2
            split at hi2
            · simp at hi2
            · rename_i hne
              rw [List.mem_map] at hi2
              obtain ⟨kk, _, rfl⟩ := hi2
              have hii : i = s.vs.length := by assumption
              rw [hii, ho] at hoi
              cases hoi
              simp only [Bool.or_eq_true, not_or, Bool.not_eq_true] at hne
              exact hne.1
        rw [e1] at this
        cases this
    · simp only [List.length_append, List.length_singleton] at hi
      by_cases hil : p.1 < s.vs.length
      · rw [old hil] at hq
        exact h.pd p hp hil (by omega) o' q ho' hq hw
      · have hii : p.1 = s.vs.length := by omega
        exfalso
        have hp2 := hp
        unfold pairs at hp2
        rw [List.mem_flatMap] at hp2
        obtain ⟨i, _, hi2⟩ := hp2
        cases hoi : A[i]? with
        | none => rw [hoi] at hi2; simp at hi2
        | some oi =>
          rw [hoi] at hi2
          dsimp only at hi2
          split at hi2
          · simp at hi2
          · rename_i hne
            rw [List.mem_map] at hi2
            obtain ⟨kk, _, rfl⟩ := hi2
            have hii2 : i = s.vs.length := hii
            rw [hii2, ho] at hoi
            cases hoi
            simp only [Bool.or_eq_true, not_or, Bool.not_eq_true] at hne
            rw [hne.1] at e1
            cases e1
  · refine ⟨by simp; omega, h.hl, ?_, fun p hp hi hk => ?_, fun p hp hi hk o' q ho' hq hw => ?_⟩
    · show k' = E J A (s.vs ++ [(s.T, v)]).length
      rw [List.length_append, List.length_singleton, hE, if_neg (by simp [e1]), h.kE]
      rfl
    · simp only [List.length_append, List.length_singleton] at hi
      by_cases hil : p.1 < s.vs.length
      · have := oblig_app (vs' := [(s.T, v)]) (hs' := []) hil (by have := h.hl; omega) (h.ob p hp hil hk)
        rwa [List.append_nil] at this
      · exfalso
        have hii : p.1 = s.vs.length := by omega
        have hps := hlt2 p hp
        rw [hii, ← h.kE] at hps
        omega
    · simp only [List.length_append, List.length_singleton] at hi
      by_cases hil : p.1 < s.vs.length
      · rw [old hil] at hq
        obtain ⟨st, s1, s2⟩ := h.pd p hp hil hk o' q ho' hq hw
        exact ⟨st, s1, e4 _ s2⟩
      · have hii : p.1 = s.vs.length := by omega
        rw [hii] at ho' hq
        rw [ho] at ho'
        cases ho'
        rw [hlast] at hq
        cases hq
        exact e5 hw p.2 (List.mem_map.2 ⟨p, List.mem_filter.2 ⟨hp, by simp [hii]⟩, rfl⟩)
theorem ann_get (A : Array Oper) (i : Nat) : (annOf J A)[i]? = (A[i]?).map fun o => ⟨erO o, isEff J o, panAt J A i, stagesOf (pairs J A) i⟩ := by
  unfold annOf
  simp only [List.getElem?_map, List.getElem?_zipIdx, Array.getElem?_toList, Nat.zero_add, Option.map_map]
  rfl
theorem pairs_lt {A : Array Oper} {p : Nat × Nat} (hp : p ∈ pairs J A) : p.1 < A.size ∧ p.2 ≤ E J A A.size := by
  unfold pairs at hp
  rw [List.mem_flatMap] at hp
  obtain ⟨i, hi, hi2⟩ := hp
  cases hoi : A[i]? with
  | none => rw [hoi] at hi2; simp at hi2
  | some oi =>
    rw [hoi] at hi2
    dsimp only at hi2
    split at hi2
    · simp at hi2
    · rw [List.mem_map] at hi2
      obtain ⟨kk, hkk, rfl⟩ := hi2
      have := List.mem_range.1 (List.mem_filter.1 hkk).1
      refine ⟨List.mem_range.1 hi, ?_⟩
      show kk ≤ _
      unfold E effs at *
      omega
theorem eRun_idraw {call : CallR} {A : Array Oper} (hlate : lateB J A = true) : ∀ (l : List Ann) (s : DSt) (k : Nat) (P : Pend) (x : IX) (T' : Regs) (H' : IH), (annOf J A).drop s.vs.length = l → EInv J A s k P →
    eRun J call (A.map erO) l s.T s.H k P = some (x, T', H') → ∃ s', (drun J call A (A.toList.drop s.vs.length) s = some (s', none) ∧ x = .normal ∨ ∃ v, drun J call A (A.toList.drop s.vs.length) s = some (s', some v) ∧ x = .pan v ∧ panAt J A s'.vs.length = true) ∧
      s'.T = T' ∧ s'.H = H' ∧ ∀ p ∈ pairs J A, oblig J A s'.vs s'.hs p = true := by
  intro l
  induction l with
  | nil =>
    intro s k P x T' H' hl hI h
    simp only [eRun, Option.some.injEq, Prod.mk.injEq] at h
    obtain ⟨rfl, rfl, rfl⟩ := h
    have hsz : A.size ≤ s.vs.length := by
      have := congrArg List.length hl
      simp [annOf] at this
      omega
    refine ⟨s, .inl ⟨by rw [List.drop_of_length_le (by simpa using hsz)]; rfl, rfl⟩, rfl, rfl, fun p hp => ?_⟩
    obtain ⟨h1, h2⟩ := pairs_lt hp
    refine hI.ob p hp (by omega) ?_
    rw [hI.kE]
    exact Nat.le_trans h2 (E_mono hsz)
  | cons a l ih =>
    intro s k P x T' H' hl hI h
    have hget : (annOf J A)[s.vs.length]? = some a := by
      have := congrArg (fun l => l[0]?) hl
      simpa using this
    rw [ann_get] at hget
    cases ho : A[s.vs.length]? with
    | none => rw [ho] at hget; cases hget
    | some o =>
      rw [ho] at hget
      cases hget
      have hl' : ∀ y : Regs × Value, (annOf J A).drop (s.vs ++ [y]).length = l := fun y => by
        rw [List.length_append, List.length_singleton, ← List.drop_drop, hl]; rfl
      have hd : A.toList.drop s.vs.length = o :: A.toList.drop (s.vs.length + 1) := by
        obtain ⟨hlt, he⟩ := Array.getElem?_eq_some_iff.1 ho
        rw [List.drop_eq_getElem_cons (by simpa using hlt)]
        simp [he]
      have hdst : (erO o).dst = o.dst := rfl
      rw [hd]
      simp only [eRun, wanted_er, iexec_er, hdst] at h
      simp only [drun]
      have cont : ∀ (v : Value) (H1 : IH) (k1 : Nat) (P1 : Pend), EInv J A ⟨putR s.T o.dst v, H1, s.vs ++ [(s.T, v)], if isEff J o then s.hs ++ [H1] else s.hs⟩ k1 P1 → eRun J call (A.map erO) l (putR s.T o.dst v) H1 k1 P1 = some (x, T', H') →
          ∃ s', (drun J call A (A.toList.drop (s.vs.length + 1)) ⟨putR s.T o.dst v, H1, s.vs ++ [(s.T, v)], if isEff J o then s.hs ++ [H1] else s.hs⟩ = some (s', none) ∧ x = .normal ∨ ∃ u, drun J call A (A.toList.drop (s.vs.length + 1)) ⟨putR s.T o.dst v, H1, s.vs ++ [(s.T, v)], if isEff J o then s.hs ++ [H1] else s.hs⟩ = some (s', some u) ∧ x = .pan u ∧ panAt J A s'.vs.length = true) ∧
            s'.T = T' ∧ s'.H = H' ∧ ∀ p ∈ pairs J A, oblig J A s'.vs s'.hs p = true := fun v H1 k1 P1 h1 h2 => by
        have := ih ⟨putR s.T o.dst v, H1, s.vs ++ [(s.T, v)], if isEff J o then s.hs ++ [H1] else s.hs⟩ k1 P1 x T' H' (hl' _) h1 h2
        simpa using this
      have addP : ∀ v (x : Oper × Regs × Value × List Nat), x ∈ P → x ∈ pendAdd ⟨erO o, isEff J o, panAt J A s.vs.length, stagesOf (pairs J A) s.vs.length⟩ s.T v P := fun v x hx => by
        unfold pendAdd
        dsimp only
        split
        · exact hx
        · exact List.mem_cons_of_mem _ hx
      have addN : ∀ v, ∀ kk ∈ stagesOf (pairs J A) s.vs.length, ∃ st, kk ∈ st ∧ (erO o, s.T, v, st) ∈ pendAdd ⟨erO o, isEff J o, panAt J A s.vs.length, stagesOf (pairs J A) s.vs.length⟩ s.T v P := fun v kk hkk => by
        unfold pendAdd
        dsimp only
        split
        · rename_i e; rw [e] at hkk; simp at hkk
        · exact ⟨_, hkk, List.mem_cons_self⟩
      by_cases hw : wantedR A s.T o = true
      · rw [if_pos hw] at h ⊢
        cases he : iexec J call o s.T s.H with
        | none => rw [he] at h; cases h
        | some y =>
          obtain ⟨e, H1⟩ := y
          rw [he] at h
          cases e with
          | ret v =>
            dsimp only at h ⊢
            by_cases hf : isEff J o = true
            · rw [if_pos hf] at h
              split at h
              · rename_i hpk
                refine cont v H1 (k + 1) P (hI.step hlate ho (.inl ⟨hf, rfl, by rw [if_pos hf], rfl, hpk⟩)) h
              · cases h
            · rw [if_neg hf] at h
              exact cont v H1 k _ (hI.step hlate ho (.inr ⟨by simpa using hf, rfl, by rw [if_neg hf], addP v, fun _ => addN v⟩)) h
          | pan v =>
            dsimp only at h ⊢
            split at h
            · rename_i hpn
              simp only [Option.some.injEq, Prod.mk.injEq] at h
              obtain ⟨rfl, rfl, rfl⟩ := h
              refine ⟨⟨s.T, H1, s.vs, s.hs⟩, .inr ⟨v, rfl, rfl, hpn⟩, rfl, rfl, fun p hp => ?_⟩
              dsimp only
              by_cases h1 : p.1 < s.vs.length
              · by_cases h2 : p.2 ≤ k
                · exact hI.ob p hp h1 h2
                · unfold oblig
                  rw [List.getElem?_eq_none (l := s.hs) (by have := hI.hl; omega)]
                  split <;> simp_all
              · unfold oblig
                rw [List.getElem?_eq_none (l := s.vs) (by omega)]
                split <;> simp_all
            · cases h
      · rw [if_neg hw] at h ⊢
        by_cases hf : isEff J o = true
        · rw [if_pos hf] at h
          split at h
          · rename_i hpk
            exact cont undef s.H (k + 1) P (hI.step hlate ho (.inl ⟨hf, rfl, by rw [if_pos hf], rfl, hpk⟩)) h
          · cases h
        · rw [if_neg hf] at h
          exact cont undef s.H k P (hI.step hlate ho (.inr ⟨by simpa using hf, rfl, by rw [if_neg hf], fun _ hx => hx, fun hw' => absurd hw' hw⟩)) h
theorem idraw_ann {call : CallR} {A : Array Oper} (hlate : lateB J A = true) {T : Regs} {H : IH} {r : IX × Regs × IH} (h : eRun J call (A.map erO) (annOf J A) T H 0 [] = some r) : idraw J call A T H = some r := by
  obtain ⟨x, T', H'⟩ := r
  obtain ⟨s', h1, rfl, rfl, h3⟩ := eRun_idraw hlate (annOf J A) ⟨T, H, [], [H]⟩ 0 [] x T' H' rfl ⟨by simp, rfl, by simp [E], by simp, by simp⟩ h
  have hck : dcheck J A s'.vs s'.hs = true := by
    unfold dcheck
    split
    · rfl
    · exact List.all_eq_true.2 h3
  unfold idraw
  rcases h1 with ⟨h1, rfl⟩ | ⟨v, h1, rfl, h2⟩
  · rw [show drun J call A A.toList ⟨T, H, [], [H]⟩ = some (s', none) from h1]
    simp [hck]
  · rw [show drun J call A A.toList ⟨T, H, [], [H]⟩ = some (s', some v) from h1]
    unfold panAt at h2
    simp only [Bool.and_eq_true] at h2
    simp [hck, h2.1, h2.2]
noncomputable def annSel (J : Env) (okf : FuncId → Bool) (D : Array Oper) (T : Regs) (H : IH) (r : Option (IX × Regs × IH)) : Option (IX × Regs × IH) :=
  match r with
  | some r => some r
  | none => idraw J (cal J okf) (arrange J D) T H
@[simp] theorem annSel_some (okf : FuncId → Bool) (D : Array Oper) (T : Regs) (H : IH) (r : IX × Regs × IH) : annSel J okf D T H (some r) = some r := rfl
theorem r_ann {okf : FuncId → Bool} {D : List Oper} {ann : List Ann} (h1 : annOf J (arrange J D.toArray) = ann) (h2 : lateB J (arrange J D.toArray) = true) (i : Nat) (T : Regs) (H : IH) :
    run J okf (.region i D.toArray true) T H = annSel J okf D.toArray T H (eRun J (cal J okf) (ann.map (·.o)).toArray ann T H 0 []) := by
  rw [r_draw]
  have hops : (ann.map (·.o)).toArray = (arrange J D.toArray).map erO := by
    rw [← h1]
    apply Array.ext'
    apply List.ext_getElem?
    intro i
    simp only [List.getElem?_map, ann_get, Array.toList_map, Array.getElem?_toList, Option.map_map]
    rfl
  cases h : eRun J (cal J okf) (ann.map (·.o)).toArray ann T H 0 [] with
  | none => rfl
  | some r =>
    rw [annSel_some]
    rw [hops, ← h1] at h
    exact idraw_ann h2 h
end
/-! Short forms for printed code. -/
abbrev a0 (o : Oper) : Ann := ⟨o, false, false, []⟩
abbrev al (o : Oper) (st : List Nat) : Ann := ⟨o, false, false, st⟩
abbrev ae (o : Oper) (p : Bool) : Ann := ⟨o, true, p, []⟩
/-! ### Rules -/
section
variable (J : Env) (call : CallR) (ops : Array Oper) (T : Regs) (H : IH) (k : Nat) (P : Pend)
@[simp] theorem eRun_nil : eRun J call ops [] T H k P = some (.normal, T, H) := rfl
def eGo (J : Env) (call : CallR) (ops : Array Oper) (a : Ann) (r : List Ann) (T : Regs) (H : IH) (k : Nat) (P : Pend) (b : Bool) : Option (IX × Regs × IH) :=
  match b with
  | true => match orStep call (iop J a.o T H) with
    | some (.ret v, H') =>
      if a.eff then (if pendOk J P (k + 1) H' then eRun J call ops r (putR T a.o.dst v) H' (k + 1) P else none)
      else eRun J call ops r (putR T a.o.dst v) H' k (pendAdd a T v P)
    | some (.pan v, H') => if a.pan then some (.pan v, T, H') else none
    | none => none
  | false => if a.eff then (if pendOk J P (k + 1) H then eRun J call ops r (putR T a.o.dst undef) H (k + 1) P else none)
      else eRun J call ops r (putR T a.o.dst undef) H k P
def eRes (J : Env) (call : CallR) (ops : Array Oper) (a : Ann) (r : List Ann) (T : Regs) (k : Nat) (P : Pend) (x : Option (IE × IH)) : Option (IX × Regs × IH) :=
  match x with
  | some (.ret v, H') =>
    if a.eff then (if pendOk J P (k + 1) H' then eRun J call ops r (putR T a.o.dst v) H' (k + 1) P else none)
    else eRun J call ops r (putR T a.o.dst v) H' k (pendAdd a T v P)
  | some (.pan v, H') => if a.pan then some (.pan v, T, H') else none
  | none => none
@[simp] theorem eRun_cons (a : Ann) (r : List Ann) : eRun J call ops (a :: r) T H k P = eGo J call ops a r T H k P (wantedR ops T a.o) := by
  simp only [eRun]
  rw [iexec_eq]
  cases wantedR ops T a.o <;> rfl
@[simp] theorem eGo_true (a : Ann) (r : List Ann) : eGo J call ops a r T H k P true = eRes J call ops a r T k P (orStep call (iop J a.o T H)) := id rfl
@[simp] theorem eGo_false (o : Oper) (e p : Bool) (st : List Nat) (r : List Ann) : eGo J call ops ⟨o, e, p, st⟩ r T H k P false = if e then (if pendOk J P (k + 1) H then eRun J call ops r (putR T o.dst undef) H (k + 1) P else none) else eRun J call ops r (putR T o.dst undef) H k P := id rfl
@[simp] theorem eRes_eff (o : Oper) (p : Bool) (st : List Nat) (r : List Ann) (v : Value) : eRes J call ops ⟨o, true, p, st⟩ r T k P (some (.ret v, H)) = if pendOk J P (k + 1) H then eRun J call ops r (putR T o.dst v) H (k + 1) P else none := id rfl
@[simp] theorem eRes_light (o : Oper) (p : Bool) (r : List Ann) (v : Value) : eRes J call ops ⟨o, false, p, []⟩ r T k P (some (.ret v, H)) = eRun J call ops r (putR T o.dst v) H k P := id rfl
@[simp] theorem eRes_late (o : Oper) (p : Bool) (s : Nat) (st : List Nat) (r : List Ann) (v : Value) : eRes J call ops ⟨o, false, p, s :: st⟩ r T k P (some (.ret v, H)) = eRun J call ops r (putR T o.dst v) H k ((o, T, v, s :: st) :: P) := id rfl
@[simp] theorem eRes_pan (o : Oper) (e : Bool) (st : List Nat) (r : List Ann) (v : Value) : eRes J call ops ⟨o, e, true, st⟩ r T k P (some (.pan v, H)) = some (.pan v, T, H) := id rfl
@[simp] theorem pendOk_nil : pendOk J [] k H = true := rfl
def pendVal (v : Value) (x : Option OR) : Bool :=
  match x with
  | some (.val u _) => veq 8 v u
  | _ => false
@[simp] theorem pendVal_val (v u : Value) : pendVal v (some (.val u H)) = veq 8 v u := id rfl
@[simp] theorem pendOk_cons (o : Oper) (T' : Regs) (v : Value) (st : List Nat) : pendOk J ((o, T', v, st) :: P) k H = ((!st.contains k || pendVal v (iop J o T' H)) && pendOk J P k H) := id rfl
end
end Go.Proofs.YtchlbfmjnhgpgaaGreat.Idl
namespace Go.Proofs.YtchlbfmjnhgpgaaGreat.Idl
open Go Go.RowKit
@[simp] theorem bits_i64 : IntKind.i64.bits = 64 := id rfl
@[simp] theorem bits_u64 : IntKind.u64.bits = 64 := id rfl
@[simp] theorem guard_undef (w : Bool) : guardB undef w = false := id rfl
@[simp] theorem bin_bneq (J : Env) (H : IH) (t : TypeId) (x y : Operand) (a b : Bool) (h : J.und t = some .bool) : binR J .neq t x y (.bool a) (.bool b) H = some (.val (.bool (a != b)) H) := binR_pure J H rfl rfl rfl (by
    simp only [binOp, Op.equal, Op.maxDepth]
    rw [pureRun_bind]
    have : pureRun J.P (Op.equalIn 10000 t (.bool a) (.bool b)) = some (a == b) := by
      show pureRun J.P (Op.equalIn (9999 + 1) t (.bool a) (.bool b)) = _
      unfold Op.equalIn
      rw [pureRun_bind]
      have : pureRun J.P (underlying t) = some .bool := by
        unfold underlying
        rw [pureRun_bind]
        simp [program, pureRun, J.und_ok h, pure]
      rw [this]; rfl
    rw [this]; rfl) rfl
theorem wrapU (n : Int) : IntKind.u64.wrap n = n % 18446744073709551616 := by
  simp [IntKind.wrap, IntKind.bits, IntKind.signed]
theorem wrapU_nat (n : Nat) (h : n < 18446744073709551616) : IntKind.u64.wrap (n : Int) = (n : Int) := by rw [wrapU]; omega
theorem wrapI (n : Int) : IntKind.i64.wrap n = (n + 9223372036854775808) % 18446744073709551616 - 9223372036854775808 := by
  have e : IntKind.i64.wrap n = if n % 18446744073709551616 ≥ 9223372036854775808 then n % 18446744073709551616 - 18446744073709551616 else n % 18446744073709551616 := by
    simp [IntKind.wrap, IntKind.bits, IntKind.signed]
  rw [e]
  split <;> omega
theorem ofInt_nat (n : Nat) (h : n < 18446744073709551616) : (BitVec.ofInt 64 (n : Int)).toNat = n := by
  rw [BitVec.toNat_ofInt]
  have : ((n : Int) % ((2 ^ 64 : Nat) : Int)) = n := by
    rw [show ((2 ^ 64 : Nat) : Int) = 18446744073709551616 from rfl]
    omega
  rw [this]; simp
theorem orI_nat (a b : Nat) (ha : a < 18446744073709551616) (hb : b < 18446744073709551616) : orI .u64 (a : Int) (b : Int) = ((a ||| b : Nat) : Int) := by
  unfold orI
  have : (BitVec.ofInt IntKind.u64.bits (a : Int) ||| BitVec.ofInt IntKind.u64.bits (b : Int)).toNat = a ||| b := by
    rw [BitVec.toNat_or]
    rw [show IntKind.u64.bits = 64 from rfl, ofInt_nat a ha, ofInt_nat b hb]
  rw [this]
  exact wrapU_nat _ (Nat.or_lt_two_pow (n := 64) ha hb)
theorem andI_nat (a b : Nat) (ha : a < 18446744073709551616) (hb : b < 18446744073709551616) : andI .u64 (a : Int) (b : Int) = ((a &&& b : Nat) : Int) := by
  unfold andI
  have : (BitVec.ofInt IntKind.u64.bits (a : Int) &&& BitVec.ofInt IntKind.u64.bits (b : Int)).toNat = a &&& b := by
    rw [BitVec.toNat_and]
    rw [show IntKind.u64.bits = 64 from rfl, ofInt_nat a ha, ofInt_nat b hb]
  rw [this]
  exact wrapU_nat _ (Nat.lt_of_le_of_lt Nat.and_le_left ha)
/-! Masks. -/
theorem and_one (a : Nat) (ha : a < 18446744073709551616) : andI .u64 (a : Int) 1 = ((a % 2 : Nat) : Int) := by
  have := andI_nat a 1 ha (by omega)
  rw [Nat.and_one_is_mod] at this
  exact this
theorem and_low (a : Nat) (ha : a < 18446744073709551616) : andI .u64 (a : Int) 1048575 = ((a % 1048576 : Nat) : Int) := by
  have := andI_nat a 1048575 ha (by omega)
  rw [show (1048575 : Nat) = 2 ^ 20 - 1 from rfl, Nat.and_two_pow_sub_one_eq_mod] at this
  exact this
theorem or_add (a b i : Nat) (hb : b < 2 ^ i) : (a * 2 ^ i) ||| b = a * 2 ^ i + b := by
  have := Nat.shiftLeft_add_eq_or_of_lt hb a
  rw [Nat.shiftLeft_eq] at this
  exact this.symm
theorem or_addI (a b i : Nat) (hb : b < 2 ^ i) (ha : a * 2 ^ i + b < 18446744073709551616) : orI .u64 ((a * 2 ^ i : Nat) : Int) (b : Int) = ((a * 2 ^ i + b : Nat) : Int) := by
  rw [orI_nat _ _ (by omega) (by omega), or_add a b i hb]
theorem or_addI' (a b i : Nat) (hb : b < 2 ^ i) (ha : a * 2 ^ i + b < 18446744073709551616) : orI .u64 (b : Int) ((a * 2 ^ i : Nat) : Int) = ((a * 2 ^ i + b : Nat) : Int) := by
  rw [orI_nat _ _ (by omega) (by omega), Nat.or_comm, or_add a b i hb]
theorem fdiv_nat (a k : Nat) : Int.fdiv (a : Int) (k : Int) = ((a / k : Nat) : Int) := by
  rw [Int.fdiv_eq_ediv_of_nonneg _ (by omega)]; rfl
theorem or_one (a : Nat) (h : a % 2 = 0) (ha : a < 18446744073709551616) : orI .u64 (a : Int) 1 = ((a + 1 : Nat) : Int) := by
  obtain ⟨b, rfl⟩ : ∃ b, a = b * 2 ^ 1 := ⟨a / 2, by omega⟩
  exact or_addI b 1 1 (by decide) (by omega)
theorem or_zero (a : Nat) (ha : a < 18446744073709551616) : orI .u64 (a : Int) 0 = (a : Int) := by
  have := orI_nat a 0 ha (by omega)
  rw [Nat.or_zero] at this
  exact this
end Go.Proofs.YtchlbfmjnhgpgaaGreat.Idl
