/- vm: index, prim. -/
import Derived.Test.YtchlbfmjnhgpgaaGreatPack3
namespace Go.Proofs.YtchlbfmjnhgpgaaGreat.Idl
open Go
set_option maxHeartbeats 8000000
set_option maxRecDepth 100000
set_option linter.unusedSimpArgs false
def vIndex (n : Int) : Int := if n < 0 ∨ 65536 < n then -1 else n
def primF (k a b : Int) : Option (Int × Bool) :=
  if k = 1 then some (wWrap (a + b), true) else if k = 2 then some (wWrap (a - b), true) else if k = 3 then some (wWrap (a * b), true)
  else if k = 4 then some ((wDiv a b).getD 0, (wDiv a b).isSome) else if k = 5 then some ((wMod a b).getD 0, (wMod a b).isSome)
  else if k = 6 then some (if a < b then 1 else 0, true) else if k = 7 then some (if a ≤ b then 1 else 0, true) else if k = 8 then some (if a = b then 1 else 0, true)
  else none
def vPrim (x : Ins) : VM (Int × Bool) := do
  let a ← vNumber x.a
  let b ← vNumber x.b
  match primF x.n a b with
  | some p => VM.ret p
  | none => vEnd 6
section
variable {H : IH} {lo : Nat} {im : Img} {A A' : VA} {σ σ' : Mst}
theorem c_index (n : Int) : cal J okAll 170 #[.int .i64 n] H = some (.ret (.int .i64 (vIndex n)), H) := by
  rw [cal170 _ _ (by simp)]
  unfold vIndex
  cases b1 : decide (n < 0) with
  | true =>
    have : n < 0 := by simpa using b1
    simp [C170, regsOf, fin, iresult1, b1, this]
  | false =>
    have : ¬ n < 0 := by simpa using b1
    cases b2 : decide (65536 < n) with
    | true =>
      have : 65536 < n := by simpa using b2
      simp [C170, regsOf, fin, iresult1, b1, b2, this]
    | false =>
      have : ¬ 65536 < n := by simpa using b2
      simp only [*]
      simp [C170, regsOf, fin, iresult1, b1, b2]
theorem pairV_eq (r : Option Int) : pairV r = .tuple #[.int .i64 (r.getD 0), .bool r.isSome] := by cases r <;> rfl
theorem m_prim (h : VmAt H lo im A σ) {b o : Nat} {x : Ins} (hx : InsAt H lo b o x) {r : Except Int (Int × Bool)} (hr : vPrim x σ = some (r, σ')) :
    σ' = σ ∧ ((∃ p, r = .ok p ∧ -9223372036854775808 ≤ p.1 ∧ p.1 ≤ 9223372036854775807 ∧ cal J okAll 107 #[ptrV A.p, .pointer (some ⟨b, o, none⟩)] H = some (.ret (.tuple #[.int .i64 p.1, .bool p.2]), H)) ∨ (r = .error 6 ∧ cal J okAll 107 #[ptrV A.p, .pointer (some ⟨b, o, none⟩)] H = some (.pan (overV 6), H))) := by
  obtain ⟨cs, pr, vl, vm, vv, g0, g1, g2, g3, g4, g5, g6, g7, g8, g9, g10, g11, g12⟩ := hx.ex
  rw [cal107 _ _ (by simp)]
  unfold vPrim at hr
  rcases VM.bind_cases hr with ⟨na, σ1, y1, hr2⟩ | ⟨k, y1, rfl⟩
  · obtain ⟨rfl, y2⟩ := m_number h _ y1
    rcases y2 with ⟨na', y2, y3, y3', y4⟩ | ⟨y2, _⟩
    · simp only [Except.ok.injEq] at y2
      subst y2
      rcases VM.bind_cases hr2 with ⟨nb, σ2, z1, hr3⟩ | ⟨k, z1, rfl⟩
      · obtain ⟨rfl, z2⟩ := m_number h _ z1
        rcases z2 with ⟨nb', z2, z3, z3', z4⟩ | ⟨z2, _⟩
        · simp only [Except.ok.injEq] at z2
          subst z2
          simp only [ptrV] at y4 z4
          have hen := c_end (H := H) (ptrV A.p) 6
          simp only [ptrV] at hen
          have rw1 := fun n => wWrap_range n
          by_cases k1 : x.n = 1
          · rw [k1] at g6 hr3
            simp only [primF, if_true, Int.reduceEq, if_false, VM.ret, Option.some.injEq, Prod.mk.injEq] at hr3
            obtain ⟨rfl, rfl⟩ := hr3
            have hc := c_Add H na nb
            refine ⟨rfl, .inl ⟨_, rfl, by have := rw1 (na + nb); simp only; omega, by have := rw1 (na + nb); simp only; omega, ?_⟩⟩
            simp [C107, regsOf, fin, iresult1, ptrV, g0, g3, g4, g6, y4, z4, hc]
          · by_cases k2 : x.n = 2
            · rw [k2] at g6 hr3
              simp only [primF, if_true, Int.reduceEq, if_false, VM.ret, Option.some.injEq, Prod.mk.injEq] at hr3
              obtain ⟨rfl, rfl⟩ := hr3
              have hc := c_Sub H na nb
              refine ⟨rfl, .inl ⟨_, rfl, by have := rw1 (na - nb); simp only; omega, by have := rw1 (na - nb); simp only; omega, ?_⟩⟩
              simp [C107, regsOf, fin, iresult1, ptrV, g0, g3, g4, g6, y4, z4, hc]
            · by_cases k3 : x.n = 3
              · rw [k3] at g6 hr3
                simp only [primF, if_true, Int.reduceEq, if_false, VM.ret, Option.some.injEq, Prod.mk.injEq] at hr3
                obtain ⟨rfl, rfl⟩ := hr3
                have hc := c_Mul H na nb
                refine ⟨rfl, .inl ⟨_, rfl, by have := rw1 (na * nb); simp only; omega, by have := rw1 (na * nb); simp only; omega, ?_⟩⟩
                simp [C107, regsOf, fin, iresult1, ptrV, g0, g3, g4, g6, y4, z4, hc]
              · by_cases k4 : x.n = 4
                · rw [k4] at g6 hr3
                  simp only [primF, if_true, Int.reduceEq, if_false, VM.ret, Option.some.injEq, Prod.mk.injEq] at hr3
                  obtain ⟨rfl, rfl⟩ := hr3
                  have hc := c_Div H na nb
                  rw [pairV_eq] at hc
                  refine ⟨rfl, .inl ⟨_, rfl, by unfold wDiv; split <;> simp only [Option.getD_none, Option.getD_some] <;> first | omega | (have := rw1 (na.fdiv nb); omega), by unfold wDiv; split <;> simp only [Option.getD_none, Option.getD_some] <;> first | omega | (have := rw1 (na.fdiv nb); omega), ?_⟩⟩
                  simp [C107, regsOf, fin, iresult1, ptrV, g0, g3, g4, g6, y4, z4, hc]
                · by_cases k5 : x.n = 5
                  · rw [k5] at g6 hr3
                    simp only [primF, if_true, Int.reduceEq, if_false, VM.ret, Option.some.injEq, Prod.mk.injEq] at hr3
                    obtain ⟨rfl, rfl⟩ := hr3
                    have hc := c_Mod H na nb (by omega)
                    rw [pairV_eq] at hc
                    refine ⟨rfl, .inl ⟨_, rfl, by unfold wMod; split <;> simp only [Option.getD_none, Option.getD_some] <;> first | omega | (have := rw1 (na.fmod nb); omega), by unfold wMod; split <;> simp only [Option.getD_none, Option.getD_some] <;> first | omega | (have := rw1 (na.fmod nb); omega), ?_⟩⟩
                    simp [C107, regsOf, fin, iresult1, ptrV, g0, g3, g4, g6, y4, z4, hc]
                  · by_cases k6 : x.n = 6
                    · rw [k6] at g6 hr3
                      simp only [primF, if_true, Int.reduceEq, if_false, VM.ret, Option.some.injEq, Prod.mk.injEq] at hr3
                      obtain ⟨rfl, rfl⟩ := hr3
                      refine ⟨rfl, .inl ⟨_, rfl, by simp only; split <;> omega, by simp only; split <;> omega, ?_⟩⟩
                      cases hc : decide (na < nb) with
                      | true =>
                        have hc' : na < nb := by simpa using hc
                        simp [C107, regsOf, fin, iresult1, ptrV, g0, g3, g4, g6, y4, z4, hc, hc']
                      | false =>
                        have hc' : ¬ na < nb := by simpa using hc
                        simp [C107, regsOf, fin, iresult1, ptrV, g0, g3, g4, g6, y4, z4, hc, hc']
                    · by_cases k7 : x.n = 7
                      · rw [k7] at g6 hr3
                        simp only [primF, if_true, Int.reduceEq, if_false, VM.ret, Option.some.injEq, Prod.mk.injEq] at hr3
                        obtain ⟨rfl, rfl⟩ := hr3
                        refine ⟨rfl, .inl ⟨_, rfl, by simp only; split <;> omega, by simp only; split <;> omega, ?_⟩⟩
                        cases hc : decide (na ≤ nb) with
                        | true =>
                          have hc' : na ≤ nb := by simpa using hc
                          simp [C107, regsOf, fin, iresult1, ptrV, g0, g3, g4, g6, y4, z4, hc, hc']
                        | false =>
                          have hc' : ¬ na ≤ nb := by simpa using hc
                          simp [C107, regsOf, fin, iresult1, ptrV, g0, g3, g4, g6, y4, z4, hc, hc']
                      · by_cases k8 : x.n = 8
                        · rw [k8] at g6 hr3
                          simp only [primF, if_true, Int.reduceEq, if_false, VM.ret, Option.some.injEq, Prod.mk.injEq] at hr3
                          obtain ⟨rfl, rfl⟩ := hr3
                          refine ⟨rfl, .inl ⟨_, rfl, by simp only; split <;> omega, by simp only; split <;> omega, ?_⟩⟩
                          cases hc : decide (na = nb) with
                          | true =>
                            have hc' : na = nb := by simpa using hc
                            simp [C107, regsOf, fin, iresult1, ptrV, g0, g3, g4, g6, y4, z4, hc, hc']
                          | false =>
                            have hc' : ¬ na = nb := by simpa using hc
                            simp [C107, regsOf, fin, iresult1, ptrV, g0, g3, g4, g6, y4, z4, hc, hc']
                        · have hp : primF x.n na nb = none := by simp only [primF, k1, k2, k3, k4, k5, k6, k7, k8, if_false]
                          rw [hp] at hr3
                          simp only [vEnd, Option.some.injEq, Prod.mk.injEq] at hr3
                          obtain ⟨rfl, rfl⟩ := hr3
                          refine ⟨rfl, .inr ⟨rfl, ?_⟩⟩
                          simp [C107, regsOf, fin, iresult1, ptrV, g0, g3, g4, g6, y4, z4, k1, k2, k3, k4, k5, k6, k7, k8, hen]
        · simp at z2
      · obtain ⟨rfl, z2⟩ := m_number h _ z1
        rcases z2 with ⟨_, z2, _⟩ | ⟨z2, z4⟩
        · simp at z2
        · simp only [Except.error.injEq] at z2
          subst z2
          simp only [ptrV] at y4 z4
          refine ⟨rfl, .inr ⟨rfl, ?_⟩⟩
          simp [C107, regsOf, fin, iresult1, ptrV, g0, g3, g4, y4, z4]
    · simp at y2
  · obtain ⟨rfl, y2⟩ := m_number h _ y1
    rcases y2 with ⟨_, y2, _⟩ | ⟨y2, y4⟩
    · simp at y2
    · simp only [Except.error.injEq] at y2
      subst y2
      simp only [ptrV] at y4
      refine ⟨rfl, .inr ⟨rfl, ?_⟩⟩
      simp [C107, regsOf, fin, iresult1, ptrV, g0, g3, g4, y4]
end
end Go.Proofs.YtchlbfmjnhgpgaaGreat.Idl
namespace Go.Proofs.YtchlbfmjnhgpgaaGreat.Idl
open Go
set_option maxHeartbeats 8000000
set_option maxRecDepth 100000
set_option linter.unusedSimpArgs false
def nameF (im : Img) (hp : Hp) (w : Nat) : Option ByteArray :=
  if wIsImm w = true then some (if 0 ≤ wInt w ∧ wInt w < im.names.length then (im.names[(wInt w).toNat]?).getD ⟨#[]⟩ else ⟨#[]⟩)
  else (im.shapes[if hp.is (wAt w) = true then wShape (hp.w (wAt w)) else 0]?).map (·.name)
def vThrowN (im : Img) (w : Nat) : Nat → VM Unit
  | 0 => VM.fail
  | n + 1 => do
    vPop
    let e ← VM.get fun σ => σ.frames.isEmpty
    if e then do
      let nm ← VM.of fun σ => nameF im σ.hp w
      VM.upd fun σ => { σ with exn := nm }
      vEnd 2
    else do
      let f ← vTop
      let x ← VM.of fun _ => pend f
      if x.b = -1 then vThrowN im w n
      else do
        vSet x.c w
        vJump x.b
def vThrow (im : Img) (w : Nat) : VM Unit := fun σ => vThrowN im w σ.frames.length σ
theorem VM.of_cases {α : Type} {f : Mst → Option α} {σ σ' : Mst} {r : Except Int α} (h : VM.of f σ = some (r, σ')) : ∃ a, f σ = some a ∧ r = .ok a ∧ σ' = σ := by
  unfold VM.of at h
  cases hz : f σ with
  | none => rw [hz] at h; simp at h
  | some z => rw [hz] at h; simp at h; exact ⟨z, rfl, h.1.symm, h.2.symm⟩
theorem VM.get_cases {α : Type} {f : Mst → α} {σ σ' : Mst} {r : Except Int α} (h : VM.get f σ = some (r, σ')) : r = .ok (f σ) ∧ σ' = σ := by
  simp only [VM.get, Option.some.injEq, Prod.mk.injEq] at h
  exact ⟨h.1.symm, h.2.symm⟩
section
variable {H : IH} {lo : Nat} {im : Img} {A A' : VA} {σ σ' : Mst}
theorem VmAt.scal (h : VmAt H lo im A σ) (hσ : σ'.hp = σ.hp ∧ σ'.input = σ.input ∧ σ'.collect = σ.collect) (hf : σ'.frames = σ.frames) (hout : σ'.out = σ.out) (hok : MOk σ') :
    VmAt (H.set A.p (.cells (A.cells σ') 84 false)) lo im A σ' ∧ Nx H A (H.set A.p (.cells (A.cells σ') 84 false)) A :=
  ⟨h.setP ⟨rfl, rfl, rfl, rfl, rfl⟩ hσ rfl (fun _ hx => hx) h.nd (by rw [hf]; exact h.frs) h.fv (by rw [hout]; exact h.ov) hok, rfl, (Fx.refl _ _).set (.inl (by simp [VA.own])) _, fun x hx => .inl hx⟩
theorem VmAt.fvlen (h : VmAt H lo im A σ) : ∃ a c, A.fv = .slice a σ.frames.length c := by
  have hl := h.frs.len
  rcases h.fv with ⟨h1, h2⟩ | ⟨b, cs, h1, _⟩
  · have : A.fr.length = 0 := by simpa using congrArg List.length h2
    exact ⟨none, 0, by rw [h1, ← hl, this]⟩
  · exact ⟨some ⟨b, 0, none⟩, capU, by rw [h1, ← hl]; simp⟩
theorem c_name (h : VmAt H lo im A σ) {w : Nat} (hw : w < 18446744073709551616) {nm : ByteArray} (hn : nameF im σ.hp w = some nm) : cal J okAll 164 #[ptrV A.p, .int .u64 w] H = some (.ret (.string nm), H) := by
  rw [cal164 _ _ (by simp)]
  have ho := h.obj
  obtain ⟨hmp, iu, pr, hgi, hiv⟩ := h.img
  have hi := c_IsImm H w hw
  have hn2 := c_Int H w hw
  have ha := c_At H w hw
  obtain ⟨na, nc, hnv, _⟩ := id hiv.names
  obtain ⟨sa, sc, hsv, _⟩ := id hiv.shapes
  simp only [VA.cells, ptrV] at ho
  simp only [ImV.cells, hnv, hsv] at hgi
  unfold nameF at hn
  cases hb : wIsImm w with
  | true =>
    rw [hb] at hi hn
    simp only [if_true, Option.some.injEq] at hn
    cases b1 : decide (0 ≤ wInt w) with
    | false =>
      have b1' : ¬ 0 ≤ wInt w := by simpa using b1
      rw [if_neg (fun e => b1' e.1)] at hn
      subst hn
      simp [C164, regsOf, fin, iresult1, ptrV, hi, hn2, b1]
    | true =>
      have b1' : 0 ≤ wInt w := by simpa using b1
      cases b2 : decide (wInt w < im.names.length) with
      | false =>
        have b2' : ¬ wInt w < im.names.length := by simpa using b2
        rw [if_neg (fun e => b2' e.2)] at hn
        subst hn
        simp [C164, regsOf, fin, iresult1, ptrV, hi, hn2, b1, b2, ho, hgi]
      | true =>
        have b2' : wInt w < im.names.length := by simpa using b2
        rw [if_pos ⟨b1', b2'⟩] at hn
        have hlt : (wInt w).toNat < im.names.length := by omega
        obtain ⟨b, o, c, e1, e2, e3, e4⟩ := hiv.names.get (List.getElem?_eq_getElem hlt)
        rw [hnv] at e1
        simp only [Value.slice.injEq] at e1
        obtain ⟨rfl, _, rfl⟩ := e1
        obtain ⟨cs, pr2, g1, g2⟩ := e4
        simp only [Nat.mul_one] at g2
        rw [List.getElem?_eq_getElem hlt] at hn
        simp only [Option.getD_some] at hn
        rw [hn] at g2
        simp [C164, regsOf, fin, iresult1, ptrV, hi, hn2, b1, b1', b2, b2', ho, hgi, iindexAddr, g1, g2]
  | false =>
    rw [hb] at hi hn
    simp only [Bool.false_eq_true, if_false] at hn
    have hsh := c_HShape h.hp (wAt w : Nat)
    obtain ⟨k, hk⟩ : ∃ k, k = if σ.hp.is (wAt w) = true then wShape (σ.hp.w (wAt w)) else 0 := ⟨_, rfl⟩
    rw [← hk] at hn
    have hsh2 : ∃ e : Int, cal J okAll 162 #[.pointer (some ⟨A.hp.p, 0, none⟩), .int .i64 (wAt w : Nat)] H = some (.ret (.tuple #[.int .i64 (k : Nat), .int .i64 e]), H) := by
      by_cases hc : σ.hp.is (wAt w) = true
      · rw [if_pos ⟨by omega, by simpa using hc⟩] at hsh
        rw [if_pos hc] at hk
        exact ⟨0, by rw [hsh, hk]; simp⟩
      · rw [if_neg (fun e => hc (by simpa using e.2))] at hsh
        rw [if_neg hc] at hk
        exact ⟨1, by rw [hsh, hk]; simp⟩
    obtain ⟨e, hsh2⟩ := hsh2
    cases hs : im.shapes[k]? with
    | none => rw [hs] at hn; simp at hn
    | some s =>
      rw [hs] at hn
      simp only [Option.map_some, Option.some.injEq] at hn
      obtain ⟨b, o, c, e1, e2, e3, e4⟩ := hiv.shapes.get hs
      rw [hsv] at e1
      simp only [Value.slice.injEq] at e1
      obtain ⟨rfl, _, rfl⟩ := e1
      obtain ⟨cs, pr2, vf, g1, g2, g3, g4, g5⟩ := e4.ex
      rw [hn] at g4
      simp [C164, regsOf, fin, iresult1, ptrV, hi, ha, ho, hgi, hsh2, iindexAddr, g1, g4, e3]
theorem vSet_frames {i : Int} {w : Nat} {f : Frm} {fs : List Frm} (hf : σ.frames = f :: fs) {r : Except Int Unit} (hx : vSet i w σ = some (r, σ')) : ∃ f', σ'.frames = f' :: fs ∧ f'.fn = f.fn ∧ f'.block = f.block ∧ f'.at_ = f.at_ ∧ f'.slots.length = f.slots.length := by
  unfold vSet at hx
  cases hb : (decide (0 ≤ i) && decide (i < f.slots.length)) with
  | false =>
    rw [VM.bind_err (k := 6) (σ1 := σ) (by rw [vSlot_eq hf, hb]; rfl)] at hx
    simp only [Option.some.injEq, Prod.mk.injEq] at hx
    obtain ⟨rfl, rfl⟩ := hx
    exact ⟨f, hf, rfl, rfl, rfl, rfl⟩
  | true =>
    rw [VM.bind_ok (a := i.toNat) (σ1 := σ) (by rw [vSlot_eq hf, hb]; rfl)] at hx
    simp only [VM.upd, hf, Option.some.injEq, Prod.mk.injEq] at hx
    obtain ⟨rfl, rfl⟩ := hx
    exact ⟨_, rfl, rfl, rfl, rfl, by simp⟩
theorem jump_mem (h : VmAt H lo im A σ) {f : Frm} {fs : List Frm} (hf : σ.frames = f :: fs) {q : Nat × Nat} {l : List (Nat × Nat)} (hq : A.fr = q :: l) (b : Int) : ∃ v s, H.get q.1 = some (.cells [v, .int .i64 f.block, .int .i64 f.at_, s] 138 false) ∧
    VmAt (H.set q.1 (.cells [v, .int .i64 b, .int .i64 0, s] 138 false)) lo im A { σ with frames := { f with block := b, at_ := 0 } :: fs } ∧ Nx H A (H.set q.1 (.cells [v, .int .i64 b, .int .i64 0, s] 138 false)) A := by
  obtain ⟨q', l', e1, e2, e3⟩ := h.top hf
  rw [hq] at e1
  simp only [List.cons.injEq] at e1
  obtain ⟨rfl, rfl⟩ := e1
  obtain ⟨pb, po, hpb, hfn, hg⟩ := e2.ex
  have hqo := (h.own q.1 (by simp [VA.own, hq, frOwn])).1
  have hqq : q.2 ≠ q.1 := fun e => by have := e2.slots; rw [e, hg] at this; simp at this
  obtain ⟨u1, u2⟩ := h.setTop hf hq (f' := { f with block := b, at_ := 0 }) (y := q.1) (x := .cells [.pointer (some ⟨pb, po, none⟩), .int .i64 b, .int .i64 0, .slice (some ⟨q.2, 0, none⟩) f.slots.length f.slots.length] 138 false) (.inl rfl) rfl
    ⟨⟨pb, po, hpb, FnAt.same hfn (fun z hz => by rw [IH.get_set, if_neg (fun e => by omega)]) hpb, by rw [IH.get_set, if_pos rfl]⟩, by rw [IH.get_set, if_neg hqq]; exact e2.slots, e2.wlt, e2.len, e2.ok, by simp⟩ rfl
  exact ⟨_, _, hg, u1, u2⟩
theorem loop105 (w : Nat) (hw : w < 18446744073709551616) : ∀ (n : Nat) (H : IH) (A : VA) (σ σ' : Mst) (T : Regs) (r : Except Int Unit), VmAt H lo im A σ → vThrowN im w n σ = some (r, σ') → T.at 0 = ptrV A.p → T.at 1 = .int .u64 (w : Int) →
    ∃ H' A' T', VmAt H' lo im A' σ' ∧ Nx H A H' A' ∧ ((r = .ok () ∧ run J okAll (.loop L105_0) T H = some (.ret, T', H')) ∨ ∃ k, r = .error k ∧ run J okAll (.loop L105_0) T H = some (.pan (overV k), T', H')) := by
  intro n
  induction n with
  | zero => intro H A σ σ' T r h hx; simp [vThrowN, VM.fail] at hx
  | succ n ih =>
    intro H A σ σ' T r h hx t0 t1
    unfold vThrowN at hx
    rcases VM.bind_cases hx with ⟨_, σ1, y1, hx1⟩ | ⟨k, y1, rfl⟩
    · obtain ⟨H1, A1, e, c1, h1, n1, rv1⟩ := m_pop h _ _ y1
      obtain ⟨u, rfl, rfl⟩ := rv1
      have hp1 := n1.p
      simp only [ptrV] at c1 t0
      obtain ⟨fa, fc, hfv⟩ := h1.fvlen
      have ho1 := h1.obj
      simp only [VA.cells, hfv, ptrV, hp1] at ho1
      rcases VM.bind_cases hx1 with ⟨em, σ2, y2, hx2⟩ | ⟨k, y2, _⟩
      · simp only [VM.get, Option.some.injEq, Prod.mk.injEq, Except.ok.injEq] at y2
        obtain ⟨y2, rfl⟩ := y2
        cases em with
        | true =>
          simp only [if_true] at hx2
          have hnil : σ1.frames = [] := by simpa using y2
          rcases VM.bind_cases hx2 with ⟨nm, σ3, y3, hx3⟩ | ⟨k, y3, _⟩
          · obtain ⟨nm', hnm, e1, rfl⟩ := VM.of_cases y3
            simp only [Except.ok.injEq] at e1
            subst e1
            have cn := c_name h1 hw hnm
            rw [hp1] at cn
            rw [VM.bind_ok (a := ()) (σ1 := { σ3 with exn := nm }) rfl] at hx3
            simp only [vEnd, Option.some.injEq, Prod.mk.injEq] at hx3
            obtain ⟨rfl, rfl⟩ := hx3
            obtain ⟨u1, u2⟩ := h1.scal (σ' := { σ3 with exn := nm }) ⟨rfl, rfl, rfl⟩ rfl rfl ⟨h1.ok.words, h1.ok.stack, h1.ok.fits, h1.ok.fuel, h1.ok.steps, h1.ok.made, h1.ok.swept, h1.ok.out, h1.ok.inn⟩
            have hen := fun H => c_end (H := H) (ptrV A.p) 2
            simp only [ptrV] at cn hen
            simp only [VA.cells, hfv, ptrV, hp1] at u1 u2
            rw [hnil] at ho1 hfv
            obtain ⟨T', key⟩ : ∃ T', run J okAll (.loop L105_0) T H = some (.pan (overV 2), T', H1.set A.p (.cells [.pointer (some ⟨A1.mp, 0, none⟩), A1.iv, .int .i64 σ3.fuel, .int .i64 σ3.heap, .int .i64 σ3.stack, A1.cv, .pointer (some ⟨A1.hp.p, 0, none⟩), .slice fa σ3.frames.length fc, .int .i64 σ3.words, .int .i64 (σ3.inn : Int), .int .i64 (σ3.made : Int), .int .i64 0, A1.ov, .string nm, .int .i64 (σ3.steps : Int), .int .i64 (σ3.swept : Int)] 84 false)) := by
              rw [r_loop]
              simp [L105_0, t0, t1, c1, ho1, cn, hen, istore, Value.cells, plain1, overlay, hnil]
            exact ⟨_, A1, T', u1, n1.trans u2, .inr ⟨2, rfl, key⟩⟩
          · obtain ⟨nm', hnm, e1, _⟩ := VM.of_cases y3
            simp at e1
        | false =>
          simp only [Bool.false_eq_true, if_false] at hx2
          cases hf : σ1.frames with
          | nil => rw [hf] at y2; simp at y2
          | cons f fs =>
            rw [VM.bind_ok (vTop_eq hf)] at hx2
            obtain ⟨q, l, hq, e2, e3⟩ := h1.top hf
            have ct := c_top h1 hf hq
            rw [hp1] at ct
            rw [hf] at ho1
            rcases VM.bind_cases hx2 with ⟨x, σ3, y3, hx3⟩ | ⟨k, y3, _⟩
            · obtain ⟨x', hpd, e4, rfl⟩ := VM.of_cases y3
              simp only [Except.ok.injEq] at e4
              subst e4
              obtain ⟨xb, xo, xlo, xi, cp⟩ := c_pending e2 hpd
              obtain ⟨cs, pr, vl, vm, vv, g0, g1, g2, g3, g4, g5, g6, g7, g8, g9, g10, g11, g12⟩ := xi.ex
              simp only [ptrV] at ct cp
              have hne : ¬ (fs.length : Int) + 1 = 0 := by omega
              by_cases hb : x.b = -1
              · rw [if_pos hb] at hx3
                rw [hb] at g4
                obtain ⟨T1, s1, s2, s3⟩ : ∃ T1, run J okAll (.loop L105_0) T H = run J okAll (.loop L105_0) T1 H1 ∧ T1.at 0 = ptrV A1.p ∧ T1.at 1 = .int .u64 (w : Int) := by
                  rw [r_loop]
                  simp [L105_0, t0, t1, c1, ho1, hne, ct, cp, g0, g4]
                  exact ⟨_, rfl, by simp [t0, ptrV, hp1], by simp [t1]⟩
                obtain ⟨H2, A2, T2, u1, u2, u3⟩ := ih H1 A1 σ3 σ' T1 r h1 hx3 s2 s3
                rw [s1]
                exact ⟨H2, A2, T2, u1, n1.trans u2, u3⟩
              · rw [if_neg hb] at hx3
                have hbd : decide (x.b = -1) = false := decide_eq_false hb
                have xi2 : ∀ {H2 : IH} {A2 : VA}, Nx H1 A1 H2 A2 → InsAt H2 lo xb xo x := fun n => xi.same (n.same h1) xlo
                rcases VM.bind_cases hx3 with ⟨_, σ4, y4, hx4⟩ | ⟨k, y4, rfl⟩
                · obtain ⟨H2, A2, e, c2, h2, n2, rv2⟩ := m_set h1 _ w hw _ _ y4
                  obtain ⟨u, rfl, rfl⟩ := rv2
                  obtain ⟨cs', pr', vl', vm', vv', g0', g1', g2', g3', g4', _⟩ := (xi2 n2).ex
                  obtain ⟨f', hf', _⟩ := vSet_frames hf y4
                  obtain ⟨q2, l2, hq2, _, _⟩ := h2.top hf'
                  have ct2 := c_top h2 hf' hq2
                  obtain ⟨jv, js, jg, ju1, ju2⟩ := jump_mem h2 hf' hq2 x.b
                  simp only [vJump, VM.upd, hf', Option.some.injEq, Prod.mk.injEq] at hx4
                  obtain ⟨rfl, rfl⟩ := hx4
                  have hp2 := n2.p
                  have hxq : xb ≠ q2.1 := fun e => by have := (h2.own q2.1 (by simp [VA.own, hq2, frOwn])).1; omega
                  simp only [ptrV, hp1] at c2
                  simp only [ptrV, hp2, hp1] at ct2
                  obtain ⟨T', key⟩ : ∃ T', run J okAll (.loop L105_0) T H = some (.ret, T', H2.set q2.1 (.cells [jv, .int .i64 x.b, .int .i64 0, js] 138 false)) := by
                    rw [r_loop]
                    simp [L105_0, t0, t1, c1, ho1, hne, ct, cp, g0, g4, hbd, g5, c2, ct2, g0', g4', jg, istore, Value.cells, plain1, overlay]
                  exact ⟨_, A2, T', ju1, (n1.trans n2).trans ju2, .inl ⟨rfl, key⟩⟩
                · obtain ⟨H2, A2, e, c2, h2, n2, rv2⟩ := m_set h1 _ w hw _ _ y4
                  have rv2 : e = .pan (overV k) := rv2
                  subst rv2
                  simp only [ptrV, hp1] at c2
                  obtain ⟨T', key⟩ : ∃ T', run J okAll (.loop L105_0) T H = some (.pan (overV k), T', H2) := by
                    rw [r_loop]
                    simp [L105_0, t0, t1, c1, ho1, hne, ct, cp, g0, g4, hbd, g5, c2]
                  exact ⟨H2, A2, T', h2, n1.trans n2, .inr ⟨k, rfl, key⟩⟩
            · obtain ⟨_, _, e1, _⟩ := VM.of_cases y3
              simp at e1
      · simp [VM.get] at y2
    · obtain ⟨H1, A1, e, c1, h1, n1, rv1⟩ := m_pop h _ _ y1
      have rv1 : e = .pan (overV k) := rv1
      subst rv1
      simp only [ptrV] at c1 t0
      obtain ⟨T', key⟩ : ∃ T', run J okAll (.loop L105_0) T H = some (.pan (overV k), T', H1) := by
        rw [r_loop]
        simp [L105_0, t0, c1]
      exact ⟨H1, A1, T', h1, n1, .inr ⟨k, rfl, key⟩⟩
theorem m_throw (h : VmAt H lo im A σ) (w : Nat) (hw : w < 18446744073709551616) : Out lo im H A (cal J okAll 105 #[ptrV A.p, .int .u64 w] H) UnitV (vThrow im w σ) := by
  intro r σ' hx
  rw [cal105 _ _ (by simp)]
  simp [C105, regsOf, ptrV]
  generalize hX : run J okAll (.loop L105_0) _ _ = X
  obtain ⟨T1, hT, a0, a1⟩ : ∃ T1, run J okAll (.loop L105_0) T1 H = X ∧ T1.at 0 = ptrV A.p ∧ T1.at 1 = .int .u64 (w : Int) := ⟨_, hX, by simp [ptrV], by simp⟩
  obtain ⟨H', A', T', u1, u2, u3⟩ := loop105 w hw σ.frames.length H A σ σ' T1 r h hx a0 a1
  rcases u3 with ⟨rfl, u3⟩ | ⟨k, rfl, u3⟩
  · have u3 := hT.symm.trans u3
    subst u3
    exact ⟨H', A', .ret (.tuple #[]), by simp [fin, iresult1], u1, u2, ⟨_, rfl, rfl⟩⟩
  · have u3 := hT.symm.trans u3
    subst u3
    exact ⟨H', A', .pan (overV k), by simp [fin, iresult1], u1, u2, rfl⟩
end
end Go.Proofs.YtchlbfmjnhgpgaaGreat.Idl
namespace Go.Proofs.YtchlbfmjnhgpgaaGreat.Idl
open Go
set_option maxHeartbeats 8000000
set_option maxRecDepth 100000
set_option linter.unusedSimpArgs false
structure Rest where
  text : Ins → ByteArray → VM Unit
  bytes : Ins → VM Unit
  fields : Ins → VM Unit
  choose : Ins → VM Unit
def Rest.none : Rest := ⟨fun _ _ => VM.fail, fun _ => VM.fail, fun _ => VM.fail, fun _ => VM.fail⟩
def vLast (R : Rest) (im : Img) (x : Ins) : VM Unit :=
  if x.op = 18 then vJump x.a
  else if x.op = 19 then do
    let n ← vNumber x.a
    if n = 0 then vJump x.c else vJump x.b
  else if x.op = 20 then R.choose x
  else if x.op = 21 then do
    let args ← vRead x.l
    vPop
    vCall im x.a args
  else if x.op = 22 then do
    let w ← vGet x.a
    vPop
    let e ← VM.get fun σ => σ.frames.isEmpty
    if e then vEnd 1
    else do
      let f ← vTop
      let y ← VM.of fun _ => pend f
      vSet y.d w
  else if x.op = 23 then do
    let w ← vGet x.a
    vThrow im w
  else vEnd 6
section
variable {H : IH} {lo : Nat} {im : Img} {A A' : VA} {σ σ' : Mst}
def InsOut (lo : Nat) (im : Img) (f : FuncId) (x : Ins) (m : VM Unit) : Prop := ∀ (H : IH) (A : VA) (σ : Mst) (b o : Nat), VmAt H lo im A σ → b < lo → InsAt H lo b o x → InsLim x → σ.frames ≠ [] → σ.out.length < σ.steps ∧ σ.made < σ.steps ∧ σ.swept < σ.steps → Out lo im H A (cal J okAll f #[ptrV A.p, .pointer (some ⟨b, o, none⟩)] H) UnitV (m σ)
theorem WsAt.arg {H1 H2 : IH} {A2 : VA} {u : Value} {ws : List Nat} {n0 : Nat} (hw : WsAt H1 n0 u ws) (hown : ∀ x ∈ A.own, x < n0) (n : Nx H1 A H2 A2) : ArgAt H2 u ws := by
  rcases hw with hw | ⟨b, b1, b2, b3, b4⟩
  · exact .inl hw
  · exact .inr ⟨b, capU, b3, Nat.lt_of_lt_of_le b2 n.fx.1, (n.fx.2 b b2 fun hm => by have := hown b hm; omega).trans b4⟩
theorem m_last {R : Rest} {x : Ins} (hR : InsOut lo im 99 x (R.choose x)) : InsOut lo im 68 x (vLast R im x) := by
  intro H A σ b o h hblo hx hxl hne hst r σ' hr
  obtain ⟨cs, pr, vl, vm, vv, g0, g1, g2, g3, g4, g5, g6, g7, g8, g9, g10, g11, g12⟩ := hx.ex
  rw [cal68 _ _ (by simp)]
  unfold vLast at hr
  by_cases k1 : x.op = 18
  · rw [if_pos k1] at hr
    obtain ⟨H1, A1, e, c1, h1, n1, rv1⟩ := m_jump h hne _ _ _ hr
    refine ⟨H1, A1, e, ?_, h1, n1, rv1⟩
    rw [k1] at g1
    simp only [ptrV] at c1
    cases r with
    | ok a =>
      obtain ⟨u, rfl, rfl⟩ := rv1
      simp [C68, regsOf, fin, iresult1, ptrV, g0, g1, g3, c1]
    | error k =>
      have rv1 : e = .pan (overV k) := rv1
      subst rv1
      simp [C68, regsOf, fin, iresult1, ptrV, g0, g1, g3, c1]
  rw [if_neg k1] at hr
  by_cases k2 : x.op = 19
  · rw [if_pos k2] at hr
    rw [k2] at g1
    rcases VM.bind_cases hr with ⟨n, σ1, y1, hr2⟩ | ⟨k, y1, rfl⟩
    · obtain ⟨rfl, y2⟩ := m_number h _ y1
      rcases y2 with ⟨n', y2, y3, y3', y4⟩ | ⟨y2, _⟩
      · simp only [Except.ok.injEq] at y2
        subst y2
        simp only [ptrV] at y4
        by_cases hn : n = 0
        · rw [if_pos hn] at hr2
          obtain ⟨H1, A1, e, c1, h1, n1, rv1⟩ := m_jump h hne _ _ _ hr2
          refine ⟨H1, A1, e, ?_, h1, n1, rv1⟩
          simp only [ptrV] at c1
          rw [hn] at y4
          cases r with
          | ok a =>
            obtain ⟨u, rfl, rfl⟩ := rv1
            simp [C68, regsOf, fin, iresult1, ptrV, g0, g1, g3, g5, y4, c1]
          | error k =>
            have rv1 : e = .pan (overV k) := rv1
            subst rv1
            simp [C68, regsOf, fin, iresult1, ptrV, g0, g1, g3, g5, y4, c1]
        · rw [if_neg hn] at hr2
          obtain ⟨H1, A1, e, c1, h1, n1, rv1⟩ := m_jump h hne _ _ _ hr2
          refine ⟨H1, A1, e, ?_, h1, n1, rv1⟩
          simp only [ptrV] at c1
          have hnd : decide (n = 0) = false := decide_eq_false hn
          cases r with
          | ok a =>
            obtain ⟨u, rfl, rfl⟩ := rv1
            simp [C68, regsOf, fin, iresult1, ptrV, g0, g1, g3, g4, y4, c1, hnd]
          | error k =>
            have rv1 : e = .pan (overV k) := rv1
            subst rv1
            simp [C68, regsOf, fin, iresult1, ptrV, g0, g1, g3, g4, y4, c1, hnd]
      · simp at y2
    · obtain ⟨rfl, y2⟩ := m_number h _ y1
      rcases y2 with ⟨n', y2, _⟩ | ⟨y2, y4⟩
      · simp at y2
      · simp only [Except.error.injEq] at y2
        subst y2
        simp only [ptrV] at y4
        exact ⟨H, A, .pan (overV 6), by simp [C68, regsOf, fin, iresult1, ptrV, g0, g1, g3, y4], h, .refl _ _, rfl⟩
  rw [if_neg k2] at hr
  by_cases k3 : x.op = 20
  · rw [if_pos k3] at hr
    rw [k3] at g1
    obtain ⟨H1, A1, e, c1, h1, n1, rv1⟩ := hR H A σ b o h hblo hx hxl hne hst _ _ hr
    refine ⟨H1, A1, e, ?_, h1, n1, rv1⟩
    simp only [ptrV] at c1
    cases r with
    | ok a =>
      obtain ⟨u, rfl, rfl⟩ := rv1
      simp [C68, regsOf, fin, iresult1, ptrV, g0, g1, c1]
    | error k =>
      have rv1 : e = .pan (overV k) := rv1
      subst rv1
      simp [C68, regsOf, fin, iresult1, ptrV, g0, g1, c1]
  rw [if_neg k3] at hr
  by_cases k4 : x.op = 21
  · rw [if_pos k4] at hr
    rw [k4] at g1
    rcases VM.bind_cases hr with ⟨args, σ1, y1, hr2⟩ | ⟨k, y1, rfl⟩
    · obtain ⟨rfl, H1, f1, y2⟩ := m_read h g10 (by have := hxl.l; omega) y1
      rcases y2 with ⟨ws, u, y2, y3, y4, y5⟩ | ⟨y2, _⟩
      · simp only [Except.ok.injEq] at y2
        subst y2
        have h1 := h.fr f1
        simp only [ptrV] at y3
        rcases VM.bind_cases hr2 with ⟨_, σ2, z1, hr3⟩ | ⟨k, z1, rfl⟩
        · obtain ⟨H2, A2, e2, c2, h2, n2, rv2⟩ := m_pop h1 _ _ z1
          obtain ⟨u2, rfl, rfl⟩ := rv2
          have harg := y4.arg (fun x hx => (h.own x hx).2) n2
          obtain ⟨H3, A3, e3, c3, h3, n3, rv3⟩ := m_call h2 x.a harg y5 _ _ hr3
          have hn01 : Nx H A H1 A := ⟨rfl, Fx.of_fr f1, fun x hx => .inl hx⟩
          obtain ⟨cs', pr', vl', vm', vv', g0', g1', g2', g3', _⟩ := (hx.same (hn01.same h) hblo).ex
          obtain ⟨cs3, pr3, vl3, vm3, vv3, q0, q1, q2, q3, _⟩ := (hx.same ((hn01.trans n2).same h) hblo).ex
          have hp2 := n2.p
          simp only [ptrV, hp2] at c2 c3
          refine ⟨H3, A3, e3, ?_, h3, (hn01.trans n2).trans n3, rv3⟩
          cases r with
          | ok a =>
            obtain ⟨u3, rfl, rfl⟩ := rv3
            simp [C68, regsOf, fin, iresult1, ptrV, g0, g1, g7, y3, c2, q0, q3, c3]
          | error k =>
            have rv3 : e3 = .pan (overV k) := rv3
            subst rv3
            simp [C68, regsOf, fin, iresult1, ptrV, g0, g1, g7, y3, c2, q0, q3, c3]
        · obtain ⟨H2, A2, e2, c2, h2, n2, rv2⟩ := m_pop h1 _ _ z1
          have rv2 : e2 = .pan (overV k) := rv2
          subst rv2
          have hn01 : Nx H A H1 A := ⟨rfl, Fx.of_fr f1, fun x hx => .inl hx⟩
          simp only [ptrV] at c2
          exact ⟨H2, A2, .pan (overV k), by simp [C68, regsOf, fin, iresult1, ptrV, g0, g1, g7, y3, c2], h2, hn01.trans n2, rfl⟩
      · simp at y2
    · obtain ⟨rfl, H1, f1, y2⟩ := m_read h g10 (by have := hxl.l; omega) y1
      rcases y2 with ⟨ws, u, y2, _⟩ | ⟨y2, y3⟩
      · simp at y2
      · simp only [Except.error.injEq] at y2
        subst y2
        simp only [ptrV] at y3
        exact ⟨H1, A, .pan (overV 6), by simp [C68, regsOf, fin, iresult1, ptrV, g0, g1, g7, y3], h.fr f1, ⟨rfl, Fx.of_fr f1, fun x hx => .inl hx⟩, rfl⟩
  rw [if_neg k4] at hr
  by_cases k5 : x.op = 22
  · rw [if_pos k5] at hr
    rw [k5] at g1
    rcases VM.bind_cases hr with ⟨w, σ1, y1, hr2⟩ | ⟨k, y1, rfl⟩
    · obtain ⟨rfl, y2⟩ := rd_slot h y1
      rcases y2 with ⟨w', b2, o2, y2, y3, y4, y5⟩ | ⟨y2, _⟩
      · simp only [Except.ok.injEq] at y2
        subst y2
        simp only [ptrV] at y4
        rcases VM.bind_cases hr2 with ⟨_, σ2, z1, hr3⟩ | ⟨k, z1, rfl⟩
        · obtain ⟨H2, A2, e2, c2, h2, n2, rv2⟩ := m_pop h _ _ z1
          obtain ⟨u2, rfl, rfl⟩ := rv2
          have hp2 := n2.p
          simp only [ptrV] at c2
          obtain ⟨fa, fc, hfv⟩ := h2.fvlen
          have ho2 := h2.obj
          simp only [VA.cells, hfv, ptrV, hp2] at ho2
          rcases VM.bind_cases hr3 with ⟨em, σ3, z2, hr4⟩ | ⟨k, z2, _⟩
          · obtain ⟨z2, rfl⟩ := VM.get_cases z2
            simp only [Except.ok.injEq] at z2
            cases hf : σ3.frames with
            | nil =>
              rw [hf] at z2 ho2
              simp only [List.isEmpty_nil] at z2
              subst z2
              simp only [if_true, vEnd, Option.some.injEq, Prod.mk.injEq] at hr4
              obtain ⟨rfl, rfl⟩ := hr4
              have hen := c_end (H := H2) (ptrV A.p) 1
              simp only [ptrV] at hen
              exact ⟨H2, A2, .pan (overV 1), by simp [C68, regsOf, fin, iresult1, ptrV, g0, g1, g3, y4, y5, c2, ho2, hen], h2, n2, rfl⟩
            | cons f fs =>
              rw [hf] at z2 ho2
              simp only [List.isEmpty_cons] at z2
              subst z2
              simp only [Bool.false_eq_true, if_false] at hr4
              rw [VM.bind_ok (vTop_eq hf)] at hr4
              have hne2 : ¬ (fs.length : Int) + 1 = 0 := by omega
              rcases VM.bind_cases hr4 with ⟨y, σ4, z3, hr5⟩ | ⟨k, z3, _⟩
              · obtain ⟨y', hpd, z4, rfl⟩ := VM.of_cases z3
                simp only [Except.ok.injEq] at z4
                subst z4
                obtain ⟨q, l, hq, e5, e6⟩ := h2.top hf
                have ct := c_top h2 hf hq
                obtain ⟨xb, xo, xlo, xi, cp⟩ := c_pending e5 hpd
                obtain ⟨cs2, pr2, vl2, vm2, vv2, j0, j1, j2, _⟩ := xi.ex
                obtain ⟨H3, A3, e3, c3, h3, n3, rv3⟩ := m_set h2 y.d w y3 _ _ hr5
                refine ⟨H3, A3, e3, ?_, h3, n2.trans n3, rv3⟩
                simp only [ptrV, hp2] at ct cp c3
                cases r with
                | ok a =>
                  obtain ⟨u3, rfl, rfl⟩ := rv3
                  simp [C68, regsOf, fin, iresult1, ptrV, g0, g1, g3, y4, y5, c2, ho2, hne2, ct, cp, j0, j2, c3]
                | error k =>
                  have rv3 : e3 = .pan (overV k) := rv3
                  subst rv3
                  simp [C68, regsOf, fin, iresult1, ptrV, g0, g1, g3, y4, y5, c2, ho2, hne2, ct, cp, j0, j2, c3]
              · obtain ⟨_, _, z4, _⟩ := VM.of_cases z3
                simp at z4
          · obtain ⟨z2, _⟩ := VM.get_cases z2
            simp at z2
        · obtain ⟨H2, A2, e2, c2, h2, n2, rv2⟩ := m_pop h _ _ z1
          have rv2 : e2 = .pan (overV k) := rv2
          subst rv2
          simp only [ptrV] at c2
          exact ⟨H2, A2, .pan (overV k), by simp [C68, regsOf, fin, iresult1, ptrV, g0, g1, g3, y4, y5, c2], h2, n2, rfl⟩
      · simp at y2
    · obtain ⟨rfl, y2⟩ := rd_slot h y1
      rcases y2 with ⟨_, _, _, y2, _⟩ | ⟨y2, y4⟩
      · simp at y2
      · simp only [Except.error.injEq] at y2
        subst y2
        simp only [ptrV] at y4
        exact ⟨H, A, .pan (overV 6), by simp [C68, regsOf, fin, iresult1, ptrV, g0, g1, g3, y4], h, .refl _ _, rfl⟩
  rw [if_neg k5] at hr
  by_cases k6 : x.op = 23
  · rw [if_pos k6] at hr
    rw [k6] at g1
    rcases VM.bind_cases hr with ⟨w, σ1, y1, hr2⟩ | ⟨k, y1, rfl⟩
    · obtain ⟨rfl, y2⟩ := rd_slot h y1
      rcases y2 with ⟨w', b2, o2, y2, y3, y4, y5⟩ | ⟨y2, _⟩
      · simp only [Except.ok.injEq] at y2
        subst y2
        obtain ⟨H1, A1, e, c1, h1, n1, rv1⟩ := m_throw h w y3 _ _ hr2
        refine ⟨H1, A1, e, ?_, h1, n1, rv1⟩
        simp only [ptrV] at c1 y4
        cases r with
        | ok a =>
          obtain ⟨u, rfl, rfl⟩ := rv1
          simp [C68, regsOf, fin, iresult1, ptrV, g0, g1, g3, y4, y5, c1]
        | error k =>
          have rv1 : e = .pan (overV k) := rv1
          subst rv1
          simp [C68, regsOf, fin, iresult1, ptrV, g0, g1, g3, y4, y5, c1]
      · simp at y2
    · obtain ⟨rfl, y2⟩ := rd_slot h y1
      rcases y2 with ⟨_, _, _, y2, _⟩ | ⟨y2, y4⟩
      · simp at y2
      · simp only [Except.error.injEq] at y2
        subst y2
        simp only [ptrV] at y4
        exact ⟨H, A, .pan (overV 6), by simp [C68, regsOf, fin, iresult1, ptrV, g0, g1, g3, y4], h, .refl _ _, rfl⟩
  rw [if_neg k6] at hr
  simp only [vEnd, Option.some.injEq, Prod.mk.injEq] at hr
  obtain ⟨rfl, rfl⟩ := hr
  have hen := c_end (H := H) (ptrV A.p) 6
  simp only [ptrV] at hen
  exact ⟨H, A, .pan (overV 6), by simp [C68, regsOf, fin, iresult1, ptrV, g0, g1, k1, k2, k3, k4, k5, k6, hen], h, .refl _ _, rfl⟩
end
end Go.Proofs.YtchlbfmjnhgpgaaGreat.Idl
namespace Go.Proofs.YtchlbfmjnhgpgaaGreat.Idl
open Go
set_option maxHeartbeats 8000000
set_option maxRecDepth 100000
set_option linter.unusedSimpArgs false
section
variable {H : IH} {lo : Nat} {im : Img} {A A' : VA} {σ σ' : Mst}
theorem bs_byte (H : IH) (c : Int) : ibuildSlice J 34 1 [(0, .int .u8 c)] H = some (.slice (some ⟨H.next, 0, none⟩) 1 1, H.push (.cells [.int .u8 c] 5 false)) := by kernel_rfl
theorem app_out {H : IH} {v : Value} {l : List Nat} (h : OvAt H v l) (hb : ∀ x ∈ bOf v, x < H.next) (hl : l.length ≤ 17000000) (c : Nat) :
    ∃ H', iappend J #[34, 34] v (.slice (some ⟨H.next, 0, none⟩) 1 1) (H.push (.cells [.int .u8 (c : Int)] 5 false)) = some (.slice (some ⟨H.next + 1, 0, none⟩) (l.length + 1) capU, H') ∧ H'.next = H.next + 2 ∧ (∀ x, x < H.next → x ∉ bOf v → H'.get x = H.get x) ∧
      H'.get (H.next + 1) = some (.cells ((l ++ [c]).map byteV) 5 false) := by
  have h1 : icells (H.push (.cells [.int .u8 (c : Int)] 5 false)) ⟨H.next, 0, none⟩ (1 * 1) = some [.int .u8 (c : Int)] := by simp [IH.get_push]
  have hn : (H.push (.cells [.int .u8 (c : Int)] 5 false)).next = H.next + 1 := by simp
  rcases h with ⟨rfl, rfl⟩ | ⟨b, rfl, b4⟩
  · have := app_nil st_byte (c := 1) h1 (by simp) (by omega) (by omega)
    rw [hn] at this
    refine ⟨_, this, by simp, fun x hx _ => by rw [IH.get_push_other _ _ _ (by simp; omega), IH.get_push_other _ _ _ hx], ?_⟩
    rw [show H.next + 1 = (H.push (.cells [.int .u8 (c : Int)] 5 false)).next by simp, IH.get_push_same]; rfl
  · have b2 : b < H.next := hb b (by simp [bOf])
    have hg : (H.push (.cells [.int .u8 (c : Int)] 5 false)).get b = some (.cells (l.map byteV) 5 false) := by rw [IH.get_push_other _ _ _ b2]; exact b4
    have := app_some st_byte (c := 1) (len := l.length) h1 (by simp) (by omega) (by omega) hg (by simp) (by simp [plain1])
    rw [hn] at this
    refine ⟨_, this, by simp, fun x hx hm => ?_, ?_⟩
    · rw [IH.get_push_other _ _ _ (by simp; omega), IH.get_set, if_neg (fun e => hm (by simp [bOf, e])), IH.get_push_other _ _ _ hx]
    · rw [show H.next + 1 = ((H.push (.cells [.int .u8 (c : Int)] 5 false)).set b .dead).next by simp, IH.get_push_same]
      rw [Nat.mul_one, List.take_of_length_le (by simp)]; simp [byteV]
theorem VmAt.newOv (h : VmAt H lo im A σ) {H' : IH} {nb : Nat} {l : List Nat} (hn : H.next ≤ H'.next) (hx : ∀ x, x < H.next → x ≠ A.p → x ∉ bOf A.ov → H'.get x = H.get x)
    (hA : A' = { A with ov := .slice (some ⟨nb, 0, none⟩) l.length capU }) (hσ : σ' = { σ with out := l })
    (ho : H'.get A.p = some (.cells (A'.cells σ') 84 false)) (hov : H'.get nb = some (.cells (l.map byteV) 5 false)) (b3 : H.next ≤ nb ∧ nb < H'.next) (hok : MOk σ') : VmAt H' lo im A' σ' ∧ Nx H A H' A' := by
  subst hA hσ
  have hnd := h.nd
  have hlt : ∀ x ∈ A.own, x < H.next := fun x hx => (h.own x hx).2
  have hp : A.own = (A.p :: (A.hp.p :: A.hp.wb :: A.hp.hb :: (bOf A.hp.lv ++ bOf A.fv))) ++ (bOf A.ov ++ frOwn A.fr) := by simp [VA.own]
  have hs : SameB lo H H' := fun x hx' => hx x (Nat.lt_of_lt_of_le hx' h.lo) (fun e => by have := (h.own A.p (by simp [VA.own])).1; omega) (fun hm => by have := (h.own x (by simp [VA.own, hm])).1; omega)
  rw [hp] at hnd
  obtain ⟨m1, m2, m3⟩ := List.nodup_append.1 hnd
  obtain ⟨m4, m5, m6⟩ := List.nodup_append.1 m2
  have hg : ∀ x, x ∈ A.hp.p :: A.hp.wb :: A.hp.hb :: (bOf A.hp.lv ++ bOf A.fv) ∨ x ∈ frOwn A.fr → H'.get x = H.get x := by
    intro x hm
    refine hx x (hlt x ?_) ?_ ?_
    · rw [hp]; rcases hm with hm | hm
      · exact List.mem_append_left _ (List.mem_cons_of_mem _ hm)
      · exact List.mem_append_right _ (List.mem_append_right _ hm)
    · intro e
      rcases hm with hm | hm
      · exact (List.nodup_cons.1 m1).1 (e ▸ hm)
      · exact m3 A.p (by simp) x (by simp [hm]) e.symm
    · intro he
      rcases hm with hm | hm
      · exact m3 x (List.mem_cons_of_mem _ hm) x (by simp [he]) rfl
      · exact m6 x he x hm rfl
  have hq : ({ A with ov := .slice (some ⟨nb, 0, none⟩) l.length capU } : VA).own = (A.p :: (A.hp.p :: A.hp.wb :: A.hp.hb :: (bOf A.hp.lv ++ bOf A.fv))) ++ ([nb] ++ frOwn A.fr) := by simp [VA.own, bOf_some]
  have z1 : ∀ x, x ∈ (A.p :: (A.hp.p :: A.hp.wb :: A.hp.hb :: (bOf A.hp.lv ++ bOf A.fv))) → x < H.next := fun x hx => hlt x (by rw [hp]; exact List.mem_append_left _ hx)
  have z3 : ∀ x, x ∈ frOwn A.fr → x < H.next := fun x hx => hlt x (by rw [hp]; simp [hx])
  have hnd2 : ({ A with ov := .slice (some ⟨nb, 0, none⟩) l.length capU } : VA).own.Nodup := by
    rw [hq]
    refine List.nodup_append.2 ⟨m1, List.nodup_append.2 ⟨by simp, m5, fun a ha b hb => ?_⟩, fun a ha b hb => ?_⟩
    · have := z3 b hb
      simp only [List.mem_singleton] at ha
      omega
    · have := z1 a ha
      rcases List.mem_append.1 hb with hb | hb
      · simp only [List.mem_singleton] at hb; omega
      · exact m3 a ha b (by simp [hb])
  have hown : ∀ x ∈ ({ A with ov := .slice (some ⟨nb, 0, none⟩) l.length capU } : VA).own, x ∈ A.own ∨ x = nb := by
    intro x hx
    rw [hq] at hx
    rw [hp]
    rcases List.mem_append.1 hx with hx | hx
    · exact .inl (List.mem_append_left _ hx)
    · rcases List.mem_append.1 hx with hx | hx
      · exact .inr (by simpa using hx)
      · exact .inl (by simp [hx])
  refine ⟨⟨ho, h.img.same hs, h.hp.same hn (hg _ (.inl (by simp))) (hg _ (.inl (by simp))) (hg _ (.inl (by simp))) (fun z hm => hg z (.inl (by simp [hm]))), h.inp.mono fun _ _ _ hb hx => CellAt.same hx hs hb, h.col.mono fun _ _ _ hb hx => CellAt.same hx hs hb,
    h.frs.same hs fun z hm => hg z (.inr hm), h.fv.same fun z hm => hg z (.inl (by simp [hm])), .inr ⟨nb, rfl, hov⟩, hnd2, fun x hm => ?_, Nat.le_trans h.lo hn, hok, h.imok⟩, ⟨rfl, ⟨hn, fun x hx1 hx2 => hx x hx1 (fun e => hx2 (by simp [VA.own, e])) (fun hm => hx2 (by simp [VA.own, hm]))⟩, fun x hm => (hown x hm).imp id (fun e => by omega)⟩⟩
  have hlo := h.lo
  rcases hown x hm with hm | rfl
  · have := h.own x hm; omega
  · omega
end
end Go.Proofs.YtchlbfmjnhgpgaaGreat.Idl
namespace Go.Proofs.YtchlbfmjnhgpgaaGreat.Idl
open Go
set_option maxHeartbeats 8000000
set_option maxRecDepth 100000
set_option linter.unusedSimpArgs false
def vIn : VM Int := fun σ =>
  match σ.input[σ.inn]? with
  | some c => some (.ok (c : Int), { σ with inn := σ.inn + 1 })
  | none => some (.ok (-1), σ)
def vInstr (R : Rest) (im : Img) (x : Ins) : VM Unit :=
  if x.op = 1 then vSetInt x.d x.n
  else if x.op = 3 then do
    let w ← vGet x.a
    vSet x.d w
  else if x.op = 4 then do
    let p ← vPrim x
    if p.2 then vSetInt x.d p.1 else vThrow im (wImm 1)
  else if x.op = 15 then do
    let n ← vIn
    vSetInt x.d n
  else if x.op = 16 then do
    let n ← vNumber x.a
    VM.upd fun σ => { σ with out := σ.out ++ [(n % 256).toNat] }
  else if x.op = 2 then do
    let k ← VM.get fun σ => σ.hp.kindI 0
    vMust (decide (0 ≤ x.a) && decide (x.a < im.strings.length) && decide (k = 3))
    let s ← VM.of fun _ => im.strings[x.a.toNat]?
    R.text x s
  else if x.op = 13 ∨ x.op = 14 ∨ x.op = 11 ∨ x.op = 12 then R.bytes x
  else if x.op = 17 then do
    let args ← vRead x.l
    vKeep x.live
    vCall im x.a args
  else R.fields x
section
variable {H : IH} {lo : Nat} {im : Img} {A A' : VA} {σ σ' : Mst}
def TextOut (lo : Nat) (im : Img) (x : Ins) (m : ByteArray → VM Unit) : Prop := ∀ (H : IH) (A : VA) (σ : Mst) (b o : Nat) (s : ByteArray), VmAt H lo im A σ → b < lo → InsAt H lo b o x → InsLim x → σ.frames ≠ [] → σ.out.length < σ.steps ∧ σ.made < σ.steps ∧ σ.swept < σ.steps → s ∈ im.strings → Out lo im H A (cal J okAll 109 #[ptrV A.p, .pointer (some ⟨b, o, none⟩), .string s] H) UnitV (m s σ)
structure RestOk (lo : Nat) (im : Img) (R : Rest) : Prop where
  text : ∀ x, TextOut lo im x (R.text x)
  bytes : ∀ x, InsOut lo im 110 x (R.bytes x)
  fields : ∀ x, InsOut lo im 112 x (R.fields x)
  choose : ∀ x, InsOut lo im 99 x (R.choose x)
theorem Rest.none_ok (lo : Nat) (im : Img) : RestOk lo im Rest.none := by
  refine ⟨fun x => ?_, fun x => ?_, fun x => ?_, fun x => ?_⟩
  · intro H A σ b o s _ _ _ _ _ _ _ r σ' hr; simp [Rest.none, VM.fail] at hr
  all_goals intro H A σ b o _ _ _ _ _ _ r σ' hr; simp [Rest.none, VM.fail] at hr
theorem m_instr {R : Rest} (hR : RestOk lo im R) (x : Ins) : InsOut lo im 69 x (vInstr R im x) := by
  intro H A σ b o h hblo hx hxl hne hst r σ' hr
  obtain ⟨cs, pr, vl, vm, vv, g0, g1, g2, g3, g4, g5, g6, g7, g8, g9, g10, g11, g12⟩ := hx.ex
  rw [cal69 _ _ (by simp)]
  unfold vInstr at hr
  by_cases k1 : x.op = 1
  · rw [if_pos k1] at hr
    rw [k1] at g1
    obtain ⟨H1, A1, e, c1, h1, n1, rv1⟩ := m_setInt h x.d x.n hxl.n _ _ hr
    refine ⟨H1, A1, e, ?_, h1, n1, rv1⟩
    simp only [ptrV] at c1
    cases r with
    | ok a =>
      obtain ⟨u, rfl, rfl⟩ := rv1
      simp [C69, regsOf, fin, iresult1, ptrV, g0, g1, g2, g6, c1]
    | error k =>
      have rv1 : e = .pan (overV k) := rv1
      subst rv1
      simp [C69, regsOf, fin, iresult1, ptrV, g0, g1, g2, g6, c1]
  rw [if_neg k1] at hr
  by_cases k2 : x.op = 3
  · rw [if_pos k2] at hr
    rw [k2] at g1
    rcases VM.bind_cases hr with ⟨w, σ1, y1, hr2⟩ | ⟨k, y1, rfl⟩
    · obtain ⟨rfl, y2⟩ := rd_slot h y1
      rcases y2 with ⟨w', b2, o2, y2, y3, y4, y5⟩ | ⟨y2, _⟩
      · simp only [Except.ok.injEq] at y2
        subst y2
        obtain ⟨H1, A1, e, c1, h1, n1, rv1⟩ := m_set h x.d w y3 _ _ hr2
        refine ⟨H1, A1, e, ?_, h1, n1, rv1⟩
        simp only [ptrV] at c1 y4
        cases r with
        | ok a =>
          obtain ⟨u, rfl, rfl⟩ := rv1
          simp [C69, regsOf, fin, iresult1, ptrV, g0, g1, g2, g3, y4, y5, c1]
        | error k =>
          have rv1 : e = .pan (overV k) := rv1
          subst rv1
          simp [C69, regsOf, fin, iresult1, ptrV, g0, g1, g2, g3, y4, y5, c1]
      · simp at y2
    · obtain ⟨rfl, y2⟩ := rd_slot h y1
      rcases y2 with ⟨_, _, _, y2, _⟩ | ⟨y2, y4⟩
      · simp at y2
      · simp only [Except.error.injEq] at y2
        subst y2
        simp only [ptrV] at y4
        exact ⟨H, A, .pan (overV 6), by simp [C69, regsOf, fin, iresult1, ptrV, g0, g1, g2, g3, y4], h, .refl _ _, rfl⟩
  rw [if_neg k2] at hr
  by_cases k3 : x.op = 4
  · rw [if_pos k3] at hr
    rw [k3] at g1
    rcases VM.bind_cases hr with ⟨p, σ1, y1, hr2⟩ | ⟨k, y1, rfl⟩
    · obtain ⟨rfl, y2⟩ := m_prim h hx y1
      rcases y2 with ⟨p', y2, y3, y3', y4⟩ | ⟨y2, _⟩
      · simp only [Except.ok.injEq] at y2
        subst y2
        obtain ⟨pn, pb⟩ := p
        dsimp only at y3 y3' y4 hr2
        simp only [ptrV] at y4
        cases pb with
        | true =>
          simp only [if_true] at hr2
          obtain ⟨H1, A1, e, c1, h1, n1, rv1⟩ := m_setInt h x.d pn ⟨y3, y3'⟩ _ _ hr2
          refine ⟨H1, A1, e, ?_, h1, n1, rv1⟩
          simp only [ptrV] at c1
          cases r with
          | ok a =>
            obtain ⟨u, rfl, rfl⟩ := rv1
            simp [C69, regsOf, fin, iresult1, ptrV, g0, g1, g2, y4, c1]
          | error k =>
            have rv1 : e = .pan (overV k) := rv1
            subst rv1
            simp [C69, regsOf, fin, iresult1, ptrV, g0, g1, g2, y4, c1]
        | false =>
          simp only [Bool.false_eq_true, if_false] at hr2
          obtain ⟨H1, A1, e, c1, h1, n1, rv1⟩ := m_throw h (wImm 1) (wImm_lt 1) _ _ hr2
          have hi := c_Imm H 1 (by omega)
          refine ⟨H1, A1, e, ?_, h1, n1, rv1⟩
          simp only [ptrV] at c1
          cases r with
          | ok a =>
            obtain ⟨u, rfl, rfl⟩ := rv1
            simp [C69, regsOf, fin, iresult1, ptrV, g0, g1, g2, y4, hi, c1]
          | error k =>
            have rv1 : e = .pan (overV k) := rv1
            subst rv1
            simp [C69, regsOf, fin, iresult1, ptrV, g0, g1, g2, y4, hi, c1]
      · simp at y2
    · obtain ⟨rfl, y2⟩ := m_prim h hx y1
      rcases y2 with ⟨_, y2, _⟩ | ⟨y2, y4⟩
      · simp at y2
      · simp only [Except.error.injEq] at y2
        subst y2
        simp only [ptrV] at y4
        exact ⟨H, A, .pan (overV 6), by simp [C69, regsOf, fin, iresult1, ptrV, g0, g1, y4], h, .refl _ _, rfl⟩
  rw [if_neg k3] at hr
  by_cases k4 : x.op = 15
  · rw [if_pos k4] at hr
    rw [k4] at g1
    have ho := h.obj
    simp only [VA.cells, ptrV] at ho
    obtain ⟨ia, ic, hiv, hil⟩ := id h.inp
    rw [hiv] at ho
    cases hc : σ.input[σ.inn]? with
    | some c =>
      have hv : vIn σ = some (.ok (c : Int), { σ with inn := σ.inn + 1 }) := by unfold vIn; rw [hc]
      rw [VM.bind_ok hv] at hr
      obtain ⟨ib, io, icc, e1, e2, e3, e4⟩ := h.inp.get hc
      rw [hiv] at e1
      simp only [Value.slice.injEq] at e1
      obtain ⟨rfl, _, rfl⟩ := e1
      obtain ⟨ccs, cpr, j1, j2⟩ := e4
      simp only [Nat.mul_one, byteV] at j2
      have hlim := h.ok.inn
      obtain ⟨u1, u2⟩ := h.scal (σ' := { σ with inn := σ.inn + 1 }) ⟨rfl, rfl, rfl⟩ rfl rfl ⟨h.ok.words, h.ok.stack, h.ok.fits, h.ok.fuel, h.ok.steps, h.ok.made, h.ok.swept, h.ok.out, by simp only; omega, h.ok.inn.2.1, h.ok.inn.2.2⟩
      have hc8 : c < 256 := hlim.2.2 c (List.mem_of_getElem? hc)
      obtain ⟨H1, A1, e, c1, h1, n1, rv1⟩ := m_setInt u1 x.d (c : Int) (by omega) _ _ hr
      refine ⟨H1, A1, e, ?_, h1, u2.trans n1, rv1⟩
      have hw1 : IntKind.i64.wrap ((σ.inn : Int) + 1) = (σ.inn : Int) + 1 := by rw [wrapI]; omega
      have hw2 : IntKind.i64.wrap (c : Int) = (c : Int) := by rw [wrapI]; omega
      have hlt : σ.inn < σ.input.length := e3
      have hpo := (h.own A.p (by simp [VA.own])).1
      have hbp : b ≠ A.p := fun e => by omega
      have hibp : ib ≠ A.p := fun e => by omega
      simp only [VA.cells, ptrV, Int.natCast_add, Int.natCast_one, Int.cast_ofNat_Int] at c1
      rw [hiv] at c1
      cases r with
      | ok a =>
        obtain ⟨u, rfl, rfl⟩ := rv1
        simp [C69, regsOf, fin, iresult1, ptrV, g0, g1, g2, ho, hlt, iindexAddr, j1, j2, hw1, hw2, istore, Value.cells, plain1, overlay, IH.get_set, hbp, hibp, c1]
      | error k =>
        have rv1 : e = .pan (overV k) := rv1
        subst rv1
        simp [C69, regsOf, fin, iresult1, ptrV, g0, g1, g2, ho, hlt, iindexAddr, j1, j2, hw1, hw2, istore, Value.cells, plain1, overlay, IH.get_set, hbp, hibp, c1]
    | none =>
      have hv : vIn σ = some (.ok (-1), σ) := by unfold vIn; rw [hc]
      rw [VM.bind_ok hv] at hr
      obtain ⟨H1, A1, e, c1, h1, n1, rv1⟩ := m_setInt h x.d (-1) (by omega) _ _ hr
      refine ⟨H1, A1, e, ?_, h1, n1, rv1⟩
      have hge : ¬ σ.inn < σ.input.length := fun hl => by rw [List.getElem?_eq_getElem hl] at hc; simp at hc
      simp only [ptrV] at c1
      cases r with
      | ok a =>
        obtain ⟨u, rfl, rfl⟩ := rv1
        simp [C69, regsOf, fin, iresult1, ptrV, g0, g1, g2, ho, hge, c1]
      | error k =>
        have rv1 : e = .pan (overV k) := rv1
        subst rv1
        simp [C69, regsOf, fin, iresult1, ptrV, g0, g1, g2, ho, hge, c1]
  rw [if_neg k4] at hr
  by_cases k5 : x.op = 16
  · rw [if_pos k5] at hr
    rw [k5] at g1
    rcases VM.bind_cases hr with ⟨n, σ1, y1, hr2⟩ | ⟨k, y1, rfl⟩
    · obtain ⟨rfl, y2⟩ := m_number h _ y1
      rcases y2 with ⟨n', y2, y3, y3', y4⟩ | ⟨y2, _⟩
      · simp only [Except.ok.injEq] at y2
        subst y2
        simp only [ptrV] at y4
        simp only [VM.upd, Option.some.injEq, Prod.mk.injEq] at hr2
        obtain ⟨rfl, rfl⟩ := hr2
        obtain ⟨c, hc⟩ : ∃ c, c = (n % 256).toNat := ⟨_, rfl⟩
        have hwc : IntKind.u8.wrap n = (c : Int) := by
          rw [hc]
          have : IntKind.u8.wrap n = n % 256 := by simp [IntKind.wrap, IntKind.bits, IntKind.signed]
          rw [this]; omega
        have hol := h.ok.out
        have hos := h.ok.steps
        have hof := h.ok.fuel
        have hpn := (h.own A.p (by simp [VA.own])).2
        obtain ⟨H1, a1, a2, a3, a4⟩ := app_out h.ov (fun z hm => (h.own z (by simp [VA.own, hm])).2) (by omega) c
        have ho := h.obj
        have hpf : A.p ∉ bOf A.ov := fun hm => by
          have h1 := h.nd
          rw [VA.own, List.nodup_cons] at h1
          exact h1.1 (by simp [hm])
        have ho1 := (a3 A.p hpn hpf).trans ho
        rw [← hc]
        obtain ⟨u1, u2⟩ := h.newOv (H' := H1.set A.p (.cells (({ A with ov := .slice (some ⟨H.next + 1, 0, none⟩) (σ1.out ++ [c]).length capU } : VA).cells { σ1 with out := σ1.out ++ [c] }) 84 false)) (l := σ1.out ++ [c]) (nb := H.next + 1) (by simp; omega) (fun x hx1 hx2 hx3 => by rw [IH.get_set, if_neg hx2]; exact a3 x hx1 hx3) rfl rfl (by rw [IH.get_set, if_pos rfl]) (by rw [IH.get_set, if_neg (by omega)]; exact a4) (by simp; omega)
          ⟨h.ok.words, h.ok.stack, h.ok.fits, h.ok.fuel, h.ok.steps, h.ok.made, h.ok.swept, by simp; omega, h.ok.inn⟩
        refine ⟨_, _, .ret (.tuple #[]), ?_, u1, u2, ⟨_, rfl, rfl⟩⟩
        simp only [VA.cells, ptrV] at ho ho1
        have hvq : veq 8 A.ov A.ov = true := by
          rcases h.ov with ⟨e, _⟩ | ⟨ob, e, _⟩ <;> rw [e] <;> simp
        have hgp : ∀ x, (H.push x).get A.p = H.get A.p := fun x => IH.get_push_other _ _ _ hpn
        simp [hvq, hgp, C69, regsOf, fin, iresult1, ptrV, g0, g1, g3, y4, ho, ho1, iparts, bs_byte, hwc, a1, istore, Value.cells, plain1, overlay, VA.cells]
      · simp at y2
    · obtain ⟨rfl, y2⟩ := m_number h _ y1
      rcases y2 with ⟨n', y2, _⟩ | ⟨y2, y4⟩
      · simp at y2
      · simp only [Except.error.injEq] at y2
        subst y2
        simp only [ptrV] at y4
        have ho := h.obj
        simp only [VA.cells, ptrV] at ho
        exact ⟨H, A, .pan (overV 6), by simp [C69, regsOf, fin, iresult1, ptrV, g0, g1, g3, ho, y4], h, .refl _ _, rfl⟩
  rw [if_neg k5] at hr
  by_cases k6 : x.op = 2
  · rw [if_pos k6] at hr
    rw [k6] at g1
    have ho := h.obj
    obtain ⟨hmp, iu, ipr, hgi, hiv⟩ := h.img
    obtain ⟨sa, sc, hsv, _⟩ := id hiv.strings
    simp only [VA.cells, ptrV] at ho
    simp only [ImV.cells, hsv] at hgi
    have hk := c_Kind h.hp 0
    have hm1 := c_must (H := H) (ptrV A.p) true
    have hm2 := c_must (H := H) (ptrV A.p) false
    simp only [ptrV, HpA.ptr] at hm1 hm2 hk
    rcases VM.bind_cases hr with ⟨k, σ1, y1, hr2⟩ | ⟨k, y1, _⟩
    · obtain ⟨y2, rfl⟩ := VM.get_cases y1
      simp only [Except.ok.injEq] at y2
      rw [← y2] at hk
      rcases VM.bind_cases hr2 with ⟨_, σ2, z1, hr3⟩ | ⟨kk, z1, rfl⟩
      · obtain ⟨rfl, z2⟩ := vMust_cases z1
        rcases z2 with ⟨z2, _⟩ | ⟨_, z2⟩
        · simp only [Bool.and_eq_true, decide_eq_true_eq] at z2
          obtain ⟨⟨z3, z4⟩, z5⟩ := z2
          have z3d : decide (0 ≤ x.a) = true := decide_eq_true z3
          have z4d : decide (x.a < im.strings.length) = true := decide_eq_true z4
          rw [z5] at hk
          rcases VM.bind_cases hr3 with ⟨s, σ3, w1, hr4⟩ | ⟨kk, w1, _⟩
          · obtain ⟨s', w2, w3, rfl⟩ := VM.of_cases w1
            simp only [Except.ok.injEq] at w3
            subst w3
            obtain ⟨sb, so, scc, e1, e2, e3, e4⟩ := hiv.strings.get w2
            rw [hsv] at e1
            simp only [Value.slice.injEq] at e1
            obtain ⟨rfl, _, rfl⟩ := e1
            obtain ⟨ccs, cpr, j1, j2⟩ := e4
            simp only [Nat.mul_one] at j2
            obtain ⟨H1, A1, e, c1, h1, n1, rv1⟩ := hR.text x H A σ3 b o s h hblo hx hxl hne hst (List.mem_of_getElem? w2) _ _ hr4
            refine ⟨H1, A1, e, ?_, h1, n1, rv1⟩
            simp only [ptrV] at c1
            cases r with
            | ok a =>
              obtain ⟨u, rfl, rfl⟩ := rv1
              simp [C69, regsOf, fin, iresult1, ptrV, g0, g1, g3, ho, hgi, hk, z3, z4, hm1, iindexAddr, j1, j2, c1]
            | error k =>
              have rv1 : e = .pan (overV k) := rv1
              subst rv1
              simp [C69, regsOf, fin, iresult1, ptrV, g0, g1, g3, ho, hgi, hk, z3, z4, hm1, iindexAddr, j1, j2, c1]
          · obtain ⟨_, _, w3, _⟩ := VM.of_cases w1
            simp at w3
        · simp at z2
      · obtain ⟨rfl, z2⟩ := vMust_cases z1
        rcases z2 with ⟨_, z2⟩ | ⟨z2, z3⟩
        · simp at z2
        · simp only [Except.error.injEq] at z3
          subst z3
          refine ⟨H, A, .pan (overV 6), ?_, h, .refl _ _, rfl⟩
          cases w1 : decide (0 ≤ x.a) with
          | false => simp [C69, regsOf, fin, iresult1, ptrV, g0, g1, g3, ho, hgi, w1, hm2]
          | true =>
            cases w2 : decide (x.a < im.strings.length) with
            | false => simp [C69, regsOf, fin, iresult1, ptrV, g0, g1, g3, ho, hgi, w1, w2, hm2]
            | true =>
              rw [w1, w2] at z2
              simp only [Bool.true_and] at z2
              simp [C69, regsOf, fin, iresult1, ptrV, g0, g1, g3, ho, hgi, w1, w2, hk, z2, hm2]
    · obtain ⟨y2, _⟩ := VM.get_cases y1
      simp at y2
  rw [if_neg k6] at hr
  by_cases k7 : x.op = 13 ∨ x.op = 14 ∨ x.op = 11 ∨ x.op = 12
  · rw [if_pos k7] at hr
    obtain ⟨H1, A1, e, c1, h1, n1, rv1⟩ := hR.bytes x H A σ b o h hblo hx hxl hne hst _ _ hr
    refine ⟨H1, A1, e, ?_, h1, n1, rv1⟩
    simp only [ptrV] at c1
    rcases k7 with k7 | k7 | k7 | k7 <;> rw [k7] at g1
    · cases r with
      | ok a =>
        obtain ⟨u, rfl, rfl⟩ := rv1
        simp [C69, regsOf, fin, iresult1, ptrV, g0, g1, c1]
      | error k =>
        have rv1 : e = .pan (overV k) := rv1
        subst rv1
        simp [C69, regsOf, fin, iresult1, ptrV, g0, g1, c1]
    · cases r with
      | ok a =>
        obtain ⟨u, rfl, rfl⟩ := rv1
        simp [C69, regsOf, fin, iresult1, ptrV, g0, g1, c1]
      | error k =>
        have rv1 : e = .pan (overV k) := rv1
        subst rv1
        simp [C69, regsOf, fin, iresult1, ptrV, g0, g1, c1]
    · cases r with
      | ok a =>
        obtain ⟨u, rfl, rfl⟩ := rv1
        simp [C69, regsOf, fin, iresult1, ptrV, g0, g1, c1]
      | error k =>
        have rv1 : e = .pan (overV k) := rv1
        subst rv1
        simp [C69, regsOf, fin, iresult1, ptrV, g0, g1, c1]
    · cases r with
      | ok a =>
        obtain ⟨u, rfl, rfl⟩ := rv1
        simp [C69, regsOf, fin, iresult1, ptrV, g0, g1, c1]
      | error k =>
        have rv1 : e = .pan (overV k) := rv1
        subst rv1
        simp [C69, regsOf, fin, iresult1, ptrV, g0, g1, c1]
  rw [if_neg k7] at hr
  simp only [not_or] at k7
  obtain ⟨k7a, k7b, k7c, k7d⟩ := k7
  by_cases k8 : x.op = 17
  · rw [if_pos k8] at hr
    rw [k8] at g1
    rcases VM.bind_cases hr with ⟨args, σ1, y1, hr2⟩ | ⟨k, y1, rfl⟩
    · obtain ⟨rfl, H1, f1, y2⟩ := m_read h g10 (by have := hxl.l; omega) y1
      rcases y2 with ⟨ws, u, y2, y3, y4, y5⟩ | ⟨y2, _⟩
      · simp only [Except.ok.injEq] at y2
        subst y2
        have h1 := h.fr f1
        simp only [ptrV] at y3
        have hn01 : Nx H A H1 A := ⟨rfl, Fx.of_fr f1, fun x hx => .inl hx⟩
        obtain ⟨cs', pr', vl', vm', vv', g0', g1', g2', g3', g4', g5', g6', g7', g8', g9', g10', g11', g12'⟩ := (hx.same (hn01.same h) hblo).ex
        rcases VM.bind_cases hr2 with ⟨_, σ2, z1, hr3⟩ | ⟨k, z1, rfl⟩
        · obtain ⟨H2, A2, e2, c2, h2, n2, rv2⟩ := m_keep h1 g12' (by have := hxl.live; omega) _ _ z1
          obtain ⟨u2, rfl, rfl⟩ := rv2
          have harg := y4.arg (fun x hx => (h.own x hx).2) n2
          obtain ⟨H3, A3, e3, c3, h3, n3, rv3⟩ := m_call h2 x.a harg y5 _ _ hr3
          obtain ⟨cs3, pr3, vl3, vm3, vv3, q0, q1, q2, q3, _⟩ := (hx.same ((hn01.trans n2).same h) hblo).ex
          have hp2 := n2.p
          simp only [ptrV, hp2] at c2 c3
          refine ⟨H3, A3, e3, ?_, h3, (hn01.trans n2).trans n3, rv3⟩
          cases r with
          | ok a =>
            obtain ⟨u, rfl, rfl⟩ := rv3
            simp [C69, regsOf, fin, iresult1, ptrV, g0, g1, g7, y3, g0', g9', c2, q0, q3, c3]
          | error k =>
            have rv3 : e3 = .pan (overV k) := rv3
            subst rv3
            simp [C69, regsOf, fin, iresult1, ptrV, g0, g1, g7, y3, g0', g9', c2, q0, q3, c3]
        · obtain ⟨H2, A2, e2, c2, h2, n2, rv2⟩ := m_keep h1 g12' (by have := hxl.live; omega) _ _ z1
          have rv2 : e2 = .pan (overV k) := rv2
          subst rv2
          simp only [ptrV] at c2
          exact ⟨H2, A2, .pan (overV k), by simp [C69, regsOf, fin, iresult1, ptrV, g0, g1, g7, y3, g0', g9', c2], h2, hn01.trans n2, rfl⟩
      · simp at y2
    · obtain ⟨rfl, H1, f1, y2⟩ := m_read h g10 (by have := hxl.l; omega) y1
      rcases y2 with ⟨ws, u, y2, _⟩ | ⟨y2, y3⟩
      · simp at y2
      · simp only [Except.error.injEq] at y2
        subst y2
        simp only [ptrV] at y3
        exact ⟨H1, A, .pan (overV 6), by simp [C69, regsOf, fin, iresult1, ptrV, g0, g1, g7, y3], h.fr f1, ⟨rfl, Fx.of_fr f1, fun x hx => .inl hx⟩, rfl⟩
  rw [if_neg k8] at hr
  obtain ⟨H1, A1, e, c1, h1, n1, rv1⟩ := hR.fields x H A σ b o h hblo hx hxl hne hst _ _ hr
  refine ⟨H1, A1, e, ?_, h1, n1, rv1⟩
  simp only [ptrV] at c1
  cases r with
  | ok a =>
    obtain ⟨u, rfl, rfl⟩ := rv1
    simp [C69, regsOf, fin, iresult1, ptrV, g0, g1, k1, k2, k3, k4, k5, k6, k7a, k7b, k7c, k7d, k8, c1]
  | error k =>
    have rv1 : e = .pan (overV k) := rv1
    subst rv1
    simp [C69, regsOf, fin, iresult1, ptrV, g0, g1, k1, k2, k3, k4, k5, k6, k7a, k7b, k7c, k7d, k8, c1]
end
end Go.Proofs.YtchlbfmjnhgpgaaGreat.Idl
namespace Go.Proofs.YtchlbfmjnhgpgaaGreat.Idl
open Go
set_option maxHeartbeats 8000000
set_option maxRecDepth 100000
set_option linter.unusedSimpArgs false
def Frm.code (f : Frm) : List Ins := ((f.fn.blocks[f.block.toNat]?).map (·.code)).getD []
def vStep (R : Rest) (im : Img) : VM Unit := do
  let f ← vTop
  vMust (decide (0 ≤ f.block) && decide (f.block < f.fn.blocks.length) && decide (f.at_ < f.code.length))
  let full ← VM.get fun σ => decide ((σ.steps : Int) = σ.fuel)
  if full then vEnd 3 else do
  let x ← VM.of fun _ => f.code[f.at_.toNat]?
  VM.upd fun σ => { σ with steps := σ.steps + 1, frames := { f with at_ := f.at_ + 1 } :: σ.frames.tail }
  if 18 ≤ x.op then vLast R im x else vInstr R im x
def vRunN (R : Rest) (im : Img) : Nat → VM Unit
  | 0 => VM.fail
  | n + 1 => do
    vStep R im
    vRunN R im n
section
variable {lo : Nat} {im : Img}
theorem step37 {R : Rest} (hR : RestOk lo im R) {H : IH} {A : VA} {σ σ1 : Mst} {T : Regs} {r1 : Except Int Unit} (h : VmAt H lo im A σ) (y1 : vStep R im σ = some (r1, σ1)) (t0 : T.at 0 = ptrV A.p) :
    (r1 = .ok () ∧ ∃ H1 A1 T1, run J okAll (.loop L37_0) T H = run J okAll (.loop L37_0) T1 H1 ∧ T1.at 0 = ptrV A1.p ∧ VmAt H1 lo im A1 σ1 ∧ Nx H A H1 A1) ∨
    (∃ k, r1 = .error k ∧ ∃ H1 A1 T1, run J okAll (.loop L37_0) T H = some (.pan (overV k), T1, H1) ∧ VmAt H1 lo im A1 σ1 ∧ Nx H A H1 A1) := by
    have hm1 := c_must (H := H) (ptrV A.p) true
    have hm2 := c_must (H := H) (ptrV A.p) false
    simp only [ptrV] at hm1 hm2 t0
    have ho := h.obj
    simp only [VA.cells, ptrV] at ho
    unfold vStep at y1
    cases hf : σ.frames with
    | nil => rw [VM.bind_none (vTop_nil hf)] at y1; simp at y1
    | cons f fs =>
      rw [VM.bind_ok (vTop_eq hf)] at y1
      obtain ⟨q, l, hq, e2, e3⟩ := h.top hf
      have ct := c_top h hf hq
      obtain ⟨pb, po, hpb, hfn, hg⟩ := e2.ex
      obtain ⟨cs, pr, vp, vb, g1, g2, g3, g4, g5, g6, g7⟩ := hfn.ex
      obtain ⟨ba, bcc, rfl, _⟩ := id g7
      simp only [ptrV] at ct
      have hat := e2.at0
      -- the error of the first test
      have bad : ∀ {r : Except Int Unit} {σ' : Mst}, (decide (0 ≤ f.block) && decide (f.block < f.fn.blocks.length) && decide (f.at_ < f.code.length)) = false → ∃ T', run J okAll (.loop L37_0) T H = some (.pan (overV 6), T', H) := by
        intro r σ' hb
        cases b1 : decide (0 ≤ f.block) with
        | false =>
          rw [r_loop]
          simp [L37_0, t0, ct, hg, b1, hm2]
        | true =>
          have b1' : 0 ≤ f.block := by simpa using b1
          cases b2 : decide (f.block < f.fn.blocks.length) with
          | false =>
            rw [r_loop]
            simp [L37_0, t0, ct, hg, g1, g5, b1, b2, hm2]
          | true =>
            have b2' : f.block < f.fn.blocks.length := by simpa using b2
            have hlt : f.block.toNat < f.fn.blocks.length := by omega
            rw [b1, b2] at hb
            simp only [Bool.true_and] at hb
            obtain ⟨b3, o3, c3, e4, l3, i3, p3⟩ := g7.get (List.getElem?_eq_getElem hlt)
            simp only [Value.slice.injEq] at e4
            obtain ⟨rfl, _, rfl⟩ := e4
            obtain ⟨cs2, pr2, vi, vc, j1, j2, j3, j4, j5⟩ := p3.ex
            obtain ⟨ca, cc, rfl, _⟩ := id j5
            have hcode : f.code = (f.fn.blocks[f.block.toNat]).code := by unfold Frm.code; rw [List.getElem?_eq_getElem hlt]; rfl
            rw [hcode] at hb
            rw [r_loop]
            simp [L37_0, t0, ct, hg, g1, g5, b1, b1', b2, b2', iindexAddr, j1, j3, hb, hm2]
      rcases VM.bind_cases y1 with ⟨_, σ2, z1, y2⟩ | ⟨k, z1, rfl⟩
      · obtain ⟨rfl, z2⟩ := vMust_cases z1
        rcases z2 with ⟨z2, _⟩ | ⟨_, z2⟩
        · simp only [Bool.and_eq_true, decide_eq_true_eq] at z2
          obtain ⟨⟨b1', b2'⟩, b3'⟩ := z2
          have b1 : decide (0 ≤ f.block) = true := decide_eq_true b1'
          have b2 : decide (f.block < f.fn.blocks.length) = true := decide_eq_true b2'
          have hlt : f.block.toNat < f.fn.blocks.length := by omega
          obtain ⟨b3, o3, c3, e4, l3, i3, p3⟩ := g7.get (List.getElem?_eq_getElem hlt)
          simp only [Value.slice.injEq] at e4
          obtain ⟨rfl, _, rfl⟩ := e4
          obtain ⟨cs2, pr2, vi, vc, j1, j2, j3, j4, j5⟩ := p3.ex
          obtain ⟨ca, cc, rfl, _⟩ := id j5
          have hcode : f.code = (f.fn.blocks[f.block.toNat]).code := by unfold Frm.code; rw [List.getElem?_eq_getElem hlt]; rfl
          have hclim := e2.ok.code _ (List.getElem_mem hlt)
          rw [← hcode] at j3 j5 hclim
          have b3'' : decide (f.at_ < f.code.length) = true := decide_eq_true b3'
          rcases VM.bind_cases y2 with ⟨full, σ3, z3, y3⟩ | ⟨k, z3, _⟩
          · obtain ⟨z3, rfl⟩ := VM.get_cases z3
            simp only [Except.ok.injEq] at z3
            subst z3
            by_cases hfu : (σ3.steps : Int) = σ3.fuel
            · have hfd : decide ((σ3.steps : Int) = σ3.fuel) = true := decide_eq_true hfu
              rw [hfd] at y3
              simp only [if_true, vEnd, Option.some.injEq, Prod.mk.injEq] at y3
              obtain ⟨rfl, rfl⟩ := y3
              have hen := c_end (H := H) (ptrV A.p) 3
              simp only [ptrV] at hen
              obtain ⟨T', key⟩ : ∃ T', run J okAll (.loop L37_0) T H = some (.pan (overV 3), T', H) := by
                rw [r_loop]
                simp [L37_0, t0, ct, hg, g1, g5, b1, b1', b2, b2', b3', b3'', iindexAddr, j1, j3, hm1, ho, hfd, hen]
              exact .inr ⟨3, rfl, H, A, T', key, h, .refl _ _⟩
            · have hfd : decide ((σ3.steps : Int) = σ3.fuel) = false := decide_eq_false hfu
              rw [hfd] at y3
              simp only [Bool.false_eq_true, if_false] at y3
              rcases VM.bind_cases y3 with ⟨x, σ4, z4, y4⟩ | ⟨k, z4, _⟩
              · obtain ⟨x', hxc, z5, rfl⟩ := VM.of_cases z4
                simp only [Except.ok.injEq] at z5
                subst z5
                rw [VM.bind_ok (a := ()) (σ1 := { σ4 with steps := σ4.steps + 1, frames := { f with at_ := f.at_ + 1 } :: σ4.frames.tail }) rfl, hf, List.tail_cons] at y4
                obtain ⟨xb, xo, xc, x1, x2, x3, x4⟩ := j5.get hxc
                simp only [Value.slice.injEq] at x1
                obtain ⟨rfl, _, rfl⟩ := x1
                have hxl := hclim.2 x (List.mem_of_getElem? hxc)
                have hfuel := h.ok.fuel
                have hstp := h.ok.steps
                obtain ⟨u1, u2⟩ := h.scal (σ' := { σ4 with steps := σ4.steps + 1 }) ⟨rfl, rfl, rfl⟩ rfl rfl ⟨h.ok.words, h.ok.stack, h.ok.fits, h.ok.fuel, by simp only; omega, by have := h.ok.made; simp only; omega, by have := h.ok.swept; simp only; omega, by have := h.ok.out; simp only; omega, h.ok.inn⟩
                have hqo := (h.own q.1 (by simp [VA.own, hq, frOwn])).1
                have hpo := (h.own A.p (by simp [VA.own])).1
                have hqp : q.1 ≠ A.p := fun e => by rw [e, h.obj] at hg; simp at hg
                have hpq : A.p ≠ q.1 := Ne.symm hqp
                have hqq : q.2 ≠ q.1 := fun e => by have := e2.slots; rw [e, hg] at this; simp at this
                have hqp2 : q.2 ≠ A.p := fun e => by have := e2.slots; rw [e, h.obj] at this; simp at this
                have w1 : IntKind.i64.wrap (f.at_ + 1) = f.at_ + 1 := by rw [wrapI]; omega
                have w2 : IntKind.i64.wrap ((σ4.steps : Int) + 1) = (σ4.steps : Int) + 1 := by rw [wrapI]; omega
                obtain ⟨v1, v2⟩ := u1.setTop (σ := { σ4 with steps := σ4.steps + 1 }) hf hq (f' := { f with at_ := f.at_ + 1 }) (y := q.1) (x := .cells [.pointer (some ⟨pb, po, none⟩), .int .i64 f.block, .int .i64 (f.at_ + 1), .slice (some ⟨q.2, 0, none⟩) f.slots.length f.slots.length] 138 false) (.inl rfl) rfl
                  ⟨⟨pb, po, hpb, FnAt.same hfn (fun z hz => by rw [IH.get_set, if_neg (fun e => by omega), IH.get_set, if_neg (fun e => by omega)]) hpb, by rw [IH.get_set, if_pos rfl]⟩, by rw [IH.get_set, if_neg hqq, IH.get_set, if_neg hqp2]; exact e2.slots, e2.wlt, e2.len, e2.ok, by simp only; omega⟩ rfl
                have n2 := u2.trans v2
                have xi := x4.same (n2.same h) x2
                have hne : ({ σ4 with steps := σ4.steps + 1, frames := { f with at_ := f.at_ + 1 } :: fs } : Mst).frames ≠ [] := by simp
                have hst : σ4.out.length < σ4.steps + 1 ∧ σ4.made < σ4.steps + 1 ∧ σ4.swept < σ4.steps + 1 := ⟨by have := h.ok.out; omega, by have := h.ok.made; omega, by have := h.ok.swept; omega⟩
                obtain ⟨cs4, pr4, vl, vm, vv, q0, q1, _⟩ := xi.ex
                have ld1 : ∀ z, z < lo → z ≠ A.p := fun z hz e => by omega
                have ld2 : ∀ z, z < lo → z ≠ q.1 := fun z hz e => by omega
                have pb1 := ld1 _ hpb
                have pb2 := ld2 _ hpb
                have b31 := ld1 _ l3
                have b32 := ld2 _ l3
                have xb1 := ld1 _ x2
                have xb2 := ld2 _ x2
                have at0 : 0 ≤ f.at_ := hat.1
                have hxg := x4.ex
                obtain ⟨cs5, pr5, vl5, vm5, vv5, k0, k1, _⟩ := hxg
                simp only [VA.cells, ptrV, Int.natCast_add, Int.natCast_one, Int.cast_ofNat_Int] at v1 v2 u1 u2 q0 n2 y4
                by_cases h18 : 18 ≤ x.op
                · rw [if_pos h18] at y4
                  have h18d : decide (18 ≤ x.op) = true := decide_eq_true h18
                  obtain ⟨H5, A5, e5, c5, h5, n5, rv5⟩ := m_last (hR.choose x) _ A _ xb _ v1 x2 xi hxl hne hst _ _ y4
                  simp only [ptrV] at c5
                  cases r1 with
                  | ok a =>
                    obtain ⟨u, rfl, rfl⟩ := rv5
                    refine .inl ⟨rfl, ?_⟩
                    obtain ⟨T1, key, key2⟩ : ∃ T1, run J okAll (.loop L37_0) T H = run J okAll (.loop L37_0) T1 H5 ∧ T1.at 0 = ptrV A5.p := by
                      rw [r_loop]
                      simp [L37_0, t0, ct, hg, g1, g5, b1, b1', b2, b2', b3', b3'', iindexAddr, j1, j3, hm1, ho, hfd, w1, w2, istore, Value.cells, plain1, overlay, IH.get_set, hqp, hpq, pb1, pb2, b31, b32, xb1, xb2, at0, k0, k1, h18d, c5]
                      exact ⟨_, rfl, by simp [t0, ptrV, n5.p]⟩
                    exact ⟨H5, A5, T1, key, key2, h5, n2.trans n5⟩
                  | error k =>
                    have rv5 : e5 = .pan (overV k) := rv5
                    subst rv5
                    refine .inr ⟨k, rfl, ?_⟩
                    obtain ⟨T1, key⟩ : ∃ T1, run J okAll (.loop L37_0) T H = some (.pan (overV k), T1, H5) := by
                      rw [r_loop]
                      simp [L37_0, t0, ct, hg, g1, g5, b1, b1', b2, b2', b3', b3'', iindexAddr, j1, j3, hm1, ho, hfd, w1, w2, istore, Value.cells, plain1, overlay, IH.get_set, hqp, hpq, pb1, pb2, b31, b32, xb1, xb2, at0, k0, k1, h18d, c5]
                    exact ⟨H5, A5, T1, key, h5, n2.trans n5⟩
                · rw [if_neg h18] at y4
                  have h18d : decide (18 ≤ x.op) = false := decide_eq_false h18
                  obtain ⟨H5, A5, e5, c5, h5, n5, rv5⟩ := m_instr hR x _ A _ xb _ v1 x2 xi hxl hne hst _ _ y4
                  simp only [ptrV] at c5
                  cases r1 with
                  | ok a =>
                    obtain ⟨u, rfl, rfl⟩ := rv5
                    refine .inl ⟨rfl, ?_⟩
                    obtain ⟨T1, key, key2⟩ : ∃ T1, run J okAll (.loop L37_0) T H = run J okAll (.loop L37_0) T1 H5 ∧ T1.at 0 = ptrV A5.p := by
                      rw [r_loop]
                      simp [L37_0, t0, ct, hg, g1, g5, b1, b1', b2, b2', b3', b3'', iindexAddr, j1, j3, hm1, ho, hfd, w1, w2, istore, Value.cells, plain1, overlay, IH.get_set, hqp, hpq, pb1, pb2, b31, b32, xb1, xb2, at0, k0, k1, h18d, c5]
                      exact ⟨_, rfl, by simp [t0, ptrV, n5.p]⟩
                    exact ⟨H5, A5, T1, key, key2, h5, n2.trans n5⟩
                  | error k =>
                    have rv5 : e5 = .pan (overV k) := rv5
                    subst rv5
                    refine .inr ⟨k, rfl, ?_⟩
                    obtain ⟨T1, key⟩ : ∃ T1, run J okAll (.loop L37_0) T H = some (.pan (overV k), T1, H5) := by
                      rw [r_loop]
                      simp [L37_0, t0, ct, hg, g1, g5, b1, b1', b2, b2', b3', b3'', iindexAddr, j1, j3, hm1, ho, hfd, w1, w2, istore, Value.cells, plain1, overlay, IH.get_set, hqp, hpq, pb1, pb2, b31, b32, xb1, xb2, at0, k0, k1, h18d, c5]
                    exact ⟨H5, A5, T1, key, h5, n2.trans n5⟩
              · obtain ⟨_, _, z5, _⟩ := VM.of_cases z4
                simp at z5
          · obtain ⟨z3, _⟩ := VM.get_cases z3
            simp at z3
        · simp at z2
      · obtain ⟨rfl, z2⟩ := vMust_cases z1
        rcases z2 with ⟨_, z2⟩ | ⟨z2, z3⟩
        · simp at z2
        · simp only [Except.error.injEq] at z3
          subst z3
          obtain ⟨T', key⟩ := bad (r := .ok ()) (σ' := σ1) z2
          exact .inr ⟨6, rfl, H, A, T', key, h, .refl _ _⟩
theorem loop37 {R : Rest} (hR : RestOk lo im R) : ∀ (n : Nat) (H : IH) (A : VA) (σ σ' : Mst) (T : Regs) (r : Except Int Unit), VmAt H lo im A σ → vRunN R im n σ = some (r, σ') → T.at 0 = ptrV A.p →
    ∃ H' A' T' k, r = .error k ∧ run J okAll (.loop L37_0) T H = some (.pan (overV k), T', H') ∧ VmAt H' lo im A' σ' ∧ Nx H A H' A' := by
  intro n
  induction n with
  | zero => intro H A σ σ' T r h hx; simp [vRunN, VM.fail] at hx
  | succ n ih =>
    intro H A σ σ' T r h hx t0
    unfold vRunN at hx
    rcases VM.bind_cases hx with ⟨_, σ1, y1, hx1⟩ | ⟨k, y1, rfl⟩
    · rcases step37 hR h y1 t0 with ⟨_, H1, A1, T1, s1, s2, s3, s4⟩ | ⟨k, s1, _⟩
      · obtain ⟨H2, A2, T2, k, e1, e2, e3, e4⟩ := ih H1 A1 σ1 σ' T1 r s3 hx1 s2
        exact ⟨H2, A2, T2, k, e1, s1.trans e2, e3, s4.trans e4⟩
      · simp at s1
    · rcases step37 hR h y1 t0 with ⟨s1, _⟩ | ⟨k', s1, H1, A1, T1, s2, s3, s4⟩
      · simp at s1
      · simp only [Except.error.injEq] at s1
        subst s1
        exact ⟨H1, A1, T1, k, rfl, s2, s3, s4⟩
theorem m_run {R : Rest} (hR : RestOk lo im R) {H : IH} {A : VA} {σ σ' : Mst} {n : Nat} {r : Except Int Unit} (h : VmAt H lo im A σ) (hx : vRunN R im n σ = some (r, σ')) :
    ∃ H' A' k, r = .error k ∧ cal J okAll 37 #[ptrV A.p] H = some (.pan (overV k), H') ∧ VmAt H' lo im A' σ' ∧ Nx H A H' A' := by
  rw [cal37 _ _ (by simp)]
  simp [C37, regsOf, ptrV]
  generalize hX : run J okAll (.loop L37_0) _ _ = X
  obtain ⟨T1, hT, a0⟩ : ∃ T1, run J okAll (.loop L37_0) T1 H = X ∧ T1.at 0 = ptrV A.p := ⟨_, hX, by simp [ptrV]⟩
  obtain ⟨H', A', T', k, e1, e2, e3, e4⟩ := loop37 hR n H A σ σ' T1 r h hx a0
  have e2 := hT.symm.trans e2
  subst e2
  exact ⟨H', A', k, e1, by simp [fin, iresult1], e3, e4⟩
end
end Go.Proofs.YtchlbfmjnhgpgaaGreat.Idl
namespace Go.Proofs.YtchlbfmjnhgpgaaGreat.Idl
open Go
set_option maxHeartbeats 8000000
set_option maxRecDepth 100000
set_option linter.unusedSimpArgs false
def slV (v : Option Addr × Nat × Nat) : Value := .slice v.1 v.2.1 v.2.2
def firstI (p : Nat → Bool) : Nat → List Nat → Int
  | _, [] => -1
  | i, n :: l => if p n then (i : Int) else firstI p (i + 1) l
theorem firstI_nonneg (p : Nat → Bool) : ∀ (l : List Nat) (i : Nat), decide (0 ≤ firstI p i l) = l.any p
  | [], i => by simp [firstI]
  | n :: l, i => by
    unfold firstI
    cases h : p n with
    | true => simp [h]
    | false => simp [h, firstI_nonneg p l (i + 1)]
section
variable {H : IH}
theorem c_overc_0 (mb n : Nat) (a : Option Addr) (c : Nat) (most : Int) (hm : H.get mb = some (.cells [.int .i64 most] 3 false)) :
    cal J okAll 176 #[.slice a n c, .pointer (some ⟨mb, 0, none⟩)] H = some (.ret (.bool (decide (most < n))), H) := by
  rw [cal176 _ _ (by simp)]
  simp [C176, regsOf, fin, iresult1, hm]
theorem c_overl_0 (mb lb : Nat) (most : Int) (vs : List (Option Addr × Nat × Nat)) (hl : vs.length ≤ 1000) (hm : H.get mb = some (.cells [.int .i64 most] 3 false)) (hg : H.get lb = some (.cells (vs.map slV) 22 false)) : ∀ (rest : List (Option Addr × Nat × Nat)) (i : Nat) (T : Regs), vs.drop i = rest → i ≤ vs.length →
    T.at 0 = .slice (some ⟨lb, 0, none⟩) vs.length vs.length → T.at 1 = .func (.func 176) #[] #[.pointer (some ⟨mb, 0, none⟩)] → T.at 7 = .int .i64 (vs.length : Int) → T.at 8 = .int .i64 (i : Int) →
    ∃ T', (firstI (fun n => decide (most < n)) i (rest.map (·.2.1)) = -1 ∧ run J okAll (.loop L215_0) T H = some (.exit 0, T', H)) ∨ (run J okAll (.loop L215_0) T H = some (.ret, T', H) ∧ T'.at 4 = .int .i64 (firstI (fun n => decide (most < n)) i (rest.map (·.2.1)))) := by
  intro rest
  induction rest with
  | nil =>
    intro i T hr hi t0 t1 t7 t8
    have : i = vs.length := by have := congrArg List.length hr; simp at this; omega
    subst this
    rw [r_loop]
    simp [L215_0, t0, t1, t7, t8, firstI]
  | cons v rest ih =>
    intro i T hr hi t0 t1 t7 t8
    have hlt : i < vs.length := by have := congrArg List.length hr; simp at this; omega
    have hj : vs[i]? = some v := by have := congrArg (fun u => u[0]?) hr; simpa using this
    have hr2 : vs.drop (i + 1) = rest := by rw [← List.tail_drop, hr]; rfl
    have hc : (vs.map slV)[i]? = some (.slice v.1 v.2.1 v.2.2) := by rw [List.getElem?_map, hj]; rfl
    have hcl := c_overc_0 (H := H) mb v.2.1 v.1 v.2.2 most hm
    have hw1 : IntKind.i64.wrap ((i : Int) + 1) = ((i + 1 : Nat) : Int) := by rw [wrap64 _ (by omega) (by omega)]; simp
    generalize vs.map slV = cs at *
    simp only [List.map_cons, firstI]
    cases hb : decide (most < (v.2.1 : Int)) with
    | true =>
      rw [hb] at hcl
      rw [r_loop]
      simp [L215_0, t0, t1, t7, t8, hlt, iindexAddr, hg, hc, hcl]
    | false =>
      rw [hb] at hcl
      rw [r_loop]
      simp [L215_0, t0, t1, t7, t8, hlt, iindexAddr, hg, hc, hcl, hw1]
      exact ih (i + 1) _ hr2 (by omega) (by simp [t0]) (by simp [t1]) (by simp [t7]) (by simp)
theorem c_over_0 (lb : Nat) (most : Int) (vs : List (Option Addr × Nat × Nat)) (hl : vs.length ≤ 1000) (hlb : lb < H.next) (hg : H.get lb = some (.cells (vs.map slV) 22 false)) :
    cal J okAll 113 #[.int .i64 most, .slice (some ⟨lb, 0, none⟩) vs.length vs.length] H = some (.ret (.bool (vs.any fun v => decide (most < v.2.1))), H.push (.cells [.int .i64 most] 3 false)) := by
  rw [cal113 _ _ (by simp)]
  have key : cal J okAll 175 #[.slice (some ⟨lb, 0, none⟩) vs.length vs.length, .func (.func 176) #[] #[.pointer (some ⟨H.next, 0, none⟩)]] (H.push (.cells [.int .i64 most] 3 false)) = some (.ret (.bool (vs.any fun v => decide (most < v.2.1))), H.push (.cells [.int .i64 most] 3 false)) := by
    rw [cal175 _ _ (by simp)]
    have k2 : cal J okAll 215 #[.slice (some ⟨lb, 0, none⟩) vs.length vs.length, .func (.func 176) #[] #[.pointer (some ⟨H.next, 0, none⟩)]] (H.push (.cells [.int .i64 most] 3 false)) = some (.ret (.int .i64 (firstI (fun n => decide (most < n)) 0 (vs.map (·.2.1)))), H.push (.cells [.int .i64 most] 3 false)) := by
      rw [cal215 _ _ (by simp)]
      simp [C215, regsOf, fin, iresult1]
      generalize hX : run J okAll (.loop L215_0) _ _ = X
      obtain ⟨T1, hT, a0, a1, a7, a8⟩ : ∃ T1, run J okAll (.loop L215_0) T1 (H.push (.cells [.int .i64 most] 3 false)) = X ∧ T1.at 0 = .slice (some ⟨lb, 0, none⟩) vs.length vs.length ∧ T1.at 1 = .func (.func 176) #[] #[.pointer (some ⟨H.next, 0, none⟩)] ∧ T1.at 7 = .int .i64 (vs.length : Int) ∧ T1.at 8 = .int .i64 ((0 : Nat) : Int) := ⟨_, hX, by simp, by simp, by simp, by simp⟩
      obtain ⟨T', h1 | ⟨h1, h2⟩⟩ := c_overl_0 (H := H.push (.cells [.int .i64 most] 3 false)) H.next lb most vs hl (IH.get_push_same _ _) (by rw [IH.get_push_other _ _ _ hlb]; exact hg) vs 0 T1 rfl (by omega) a0 a1 a7 a8
      · have h2 := hT.symm.trans h1.2
        subst h2
        simp [regsOf, fin, iresult1, h1.1]
      · have h1 := hT.symm.trans h1
        subst h1
        simp [regsOf, fin, iresult1, h2]
    have k3 := firstI_nonneg (fun n => decide (most < (n : Int))) (vs.map (·.2.1)) 0
    simp only [List.any_map] at k3
    simp [C175, regsOf, fin, iresult1, k2, k3]
    rfl
  simp [C113, regsOf, fin, iresult1, inew, Value.cells, key]
theorem c_overc_1 (mb n : Nat) (a : Option Addr) (c : Nat) (most : Int) (hm : H.get mb = some (.cells [.int .i64 most] 3 false)) :
    cal J okAll 178 #[.slice a n c, .pointer (some ⟨mb, 0, none⟩)] H = some (.ret (.bool (decide (most < n))), H) := by
  rw [cal178 _ _ (by simp)]
  simp [C178, regsOf, fin, iresult1, hm]
theorem c_overl_1 (mb lb : Nat) (most : Int) (vs : List (Option Addr × Nat × Nat)) (hl : vs.length ≤ 1000) (hm : H.get mb = some (.cells [.int .i64 most] 3 false)) (hg : H.get lb = some (.cells (vs.map slV) 23 false)) : ∀ (rest : List (Option Addr × Nat × Nat)) (i : Nat) (T : Regs), vs.drop i = rest → i ≤ vs.length →
    T.at 0 = .slice (some ⟨lb, 0, none⟩) vs.length vs.length → T.at 1 = .func (.func 178) #[] #[.pointer (some ⟨mb, 0, none⟩)] → T.at 7 = .int .i64 (vs.length : Int) → T.at 8 = .int .i64 (i : Int) →
    ∃ T', (firstI (fun n => decide (most < n)) i (rest.map (·.2.1)) = -1 ∧ run J okAll (.loop L216_0) T H = some (.exit 0, T', H)) ∨ (run J okAll (.loop L216_0) T H = some (.ret, T', H) ∧ T'.at 4 = .int .i64 (firstI (fun n => decide (most < n)) i (rest.map (·.2.1)))) := by
  intro rest
  induction rest with
  | nil =>
    intro i T hr hi t0 t1 t7 t8
    have : i = vs.length := by have := congrArg List.length hr; simp at this; omega
    subst this
    rw [r_loop]
    simp [L216_0, t0, t1, t7, t8, firstI]
  | cons v rest ih =>
    intro i T hr hi t0 t1 t7 t8
    have hlt : i < vs.length := by have := congrArg List.length hr; simp at this; omega
    have hj : vs[i]? = some v := by have := congrArg (fun u => u[0]?) hr; simpa using this
    have hr2 : vs.drop (i + 1) = rest := by rw [← List.tail_drop, hr]; rfl
    have hc : (vs.map slV)[i]? = some (.slice v.1 v.2.1 v.2.2) := by rw [List.getElem?_map, hj]; rfl
    have hcl := c_overc_1 (H := H) mb v.2.1 v.1 v.2.2 most hm
    have hw1 : IntKind.i64.wrap ((i : Int) + 1) = ((i + 1 : Nat) : Int) := by rw [wrap64 _ (by omega) (by omega)]; simp
    generalize vs.map slV = cs at *
    simp only [List.map_cons, firstI]
    cases hb : decide (most < (v.2.1 : Int)) with
    | true =>
      rw [hb] at hcl
      rw [r_loop]
      simp [L216_0, t0, t1, t7, t8, hlt, iindexAddr, hg, hc, hcl]
    | false =>
      rw [hb] at hcl
      rw [r_loop]
      simp [L216_0, t0, t1, t7, t8, hlt, iindexAddr, hg, hc, hcl, hw1]
      exact ih (i + 1) _ hr2 (by omega) (by simp [t0]) (by simp [t1]) (by simp [t7]) (by simp)
theorem c_over_1 (lb : Nat) (most : Int) (vs : List (Option Addr × Nat × Nat)) (hl : vs.length ≤ 1000) (hlb : lb < H.next) (hg : H.get lb = some (.cells (vs.map slV) 23 false)) :
    cal J okAll 114 #[.int .i64 most, .slice (some ⟨lb, 0, none⟩) vs.length vs.length] H = some (.ret (.bool (vs.any fun v => decide (most < v.2.1))), H.push (.cells [.int .i64 most] 3 false)) := by
  rw [cal114 _ _ (by simp)]
  have key : cal J okAll 177 #[.slice (some ⟨lb, 0, none⟩) vs.length vs.length, .func (.func 178) #[] #[.pointer (some ⟨H.next, 0, none⟩)]] (H.push (.cells [.int .i64 most] 3 false)) = some (.ret (.bool (vs.any fun v => decide (most < v.2.1))), H.push (.cells [.int .i64 most] 3 false)) := by
    rw [cal177 _ _ (by simp)]
    have k2 : cal J okAll 216 #[.slice (some ⟨lb, 0, none⟩) vs.length vs.length, .func (.func 178) #[] #[.pointer (some ⟨H.next, 0, none⟩)]] (H.push (.cells [.int .i64 most] 3 false)) = some (.ret (.int .i64 (firstI (fun n => decide (most < n)) 0 (vs.map (·.2.1)))), H.push (.cells [.int .i64 most] 3 false)) := by
      rw [cal216 _ _ (by simp)]
      simp [C216, regsOf, fin, iresult1]
      generalize hX : run J okAll (.loop L216_0) _ _ = X
      obtain ⟨T1, hT, a0, a1, a7, a8⟩ : ∃ T1, run J okAll (.loop L216_0) T1 (H.push (.cells [.int .i64 most] 3 false)) = X ∧ T1.at 0 = .slice (some ⟨lb, 0, none⟩) vs.length vs.length ∧ T1.at 1 = .func (.func 178) #[] #[.pointer (some ⟨H.next, 0, none⟩)] ∧ T1.at 7 = .int .i64 (vs.length : Int) ∧ T1.at 8 = .int .i64 ((0 : Nat) : Int) := ⟨_, hX, by simp, by simp, by simp, by simp⟩
      obtain ⟨T', h1 | ⟨h1, h2⟩⟩ := c_overl_1 (H := H.push (.cells [.int .i64 most] 3 false)) H.next lb most vs hl (IH.get_push_same _ _) (by rw [IH.get_push_other _ _ _ hlb]; exact hg) vs 0 T1 rfl (by omega) a0 a1 a7 a8
      · have h2 := hT.symm.trans h1.2
        subst h2
        simp [regsOf, fin, iresult1, h1.1]
      · have h1 := hT.symm.trans h1
        subst h1
        simp [regsOf, fin, iresult1, h2]
    have k3 := firstI_nonneg (fun n => decide (most < (n : Int))) (vs.map (·.2.1)) 0
    simp only [List.any_map] at k3
    simp [C177, regsOf, fin, iresult1, k2, k3]
    rfl
  simp [C114, regsOf, fin, iresult1, inew, Value.cells, key]
theorem c_overc_2 (mb n : Nat) (a : Option Addr) (c : Nat) (most : Int) (hm : H.get mb = some (.cells [.int .i64 most] 3 false)) :
    cal J okAll 180 #[.slice a n c, .pointer (some ⟨mb, 0, none⟩)] H = some (.ret (.bool (decide (most < n))), H) := by
  rw [cal180 _ _ (by simp)]
  simp [C180, regsOf, fin, iresult1, hm]
theorem c_overl_2 (mb lb : Nat) (most : Int) (vs : List (Option Addr × Nat × Nat)) (hl : vs.length ≤ 1000) (hm : H.get mb = some (.cells [.int .i64 most] 3 false)) (hg : H.get lb = some (.cells (vs.map slV) 24 false)) : ∀ (rest : List (Option Addr × Nat × Nat)) (i : Nat) (T : Regs), vs.drop i = rest → i ≤ vs.length →
    T.at 0 = .slice (some ⟨lb, 0, none⟩) vs.length vs.length → T.at 1 = .func (.func 180) #[] #[.pointer (some ⟨mb, 0, none⟩)] → T.at 7 = .int .i64 (vs.length : Int) → T.at 8 = .int .i64 (i : Int) →
    ∃ T', (firstI (fun n => decide (most < n)) i (rest.map (·.2.1)) = -1 ∧ run J okAll (.loop L217_0) T H = some (.exit 0, T', H)) ∨ (run J okAll (.loop L217_0) T H = some (.ret, T', H) ∧ T'.at 4 = .int .i64 (firstI (fun n => decide (most < n)) i (rest.map (·.2.1)))) := by
  intro rest
  induction rest with
  | nil =>
    intro i T hr hi t0 t1 t7 t8
    have : i = vs.length := by have := congrArg List.length hr; simp at this; omega
    subst this
    rw [r_loop]
    simp [L217_0, t0, t1, t7, t8, firstI]
  | cons v rest ih =>
    intro i T hr hi t0 t1 t7 t8
    have hlt : i < vs.length := by have := congrArg List.length hr; simp at this; omega
    have hj : vs[i]? = some v := by have := congrArg (fun u => u[0]?) hr; simpa using this
    have hr2 : vs.drop (i + 1) = rest := by rw [← List.tail_drop, hr]; rfl
    have hc : (vs.map slV)[i]? = some (.slice v.1 v.2.1 v.2.2) := by rw [List.getElem?_map, hj]; rfl
    have hcl := c_overc_2 (H := H) mb v.2.1 v.1 v.2.2 most hm
    have hw1 : IntKind.i64.wrap ((i : Int) + 1) = ((i + 1 : Nat) : Int) := by rw [wrap64 _ (by omega) (by omega)]; simp
    generalize vs.map slV = cs at *
    simp only [List.map_cons, firstI]
    cases hb : decide (most < (v.2.1 : Int)) with
    | true =>
      rw [hb] at hcl
      rw [r_loop]
      simp [L217_0, t0, t1, t7, t8, hlt, iindexAddr, hg, hc, hcl]
    | false =>
      rw [hb] at hcl
      rw [r_loop]
      simp [L217_0, t0, t1, t7, t8, hlt, iindexAddr, hg, hc, hcl, hw1]
      exact ih (i + 1) _ hr2 (by omega) (by simp [t0]) (by simp [t1]) (by simp [t7]) (by simp)
theorem c_over_2 (lb : Nat) (most : Int) (vs : List (Option Addr × Nat × Nat)) (hl : vs.length ≤ 1000) (hlb : lb < H.next) (hg : H.get lb = some (.cells (vs.map slV) 24 false)) :
    cal J okAll 115 #[.int .i64 most, .slice (some ⟨lb, 0, none⟩) vs.length vs.length] H = some (.ret (.bool (vs.any fun v => decide (most < v.2.1))), H.push (.cells [.int .i64 most] 3 false)) := by
  rw [cal115 _ _ (by simp)]
  have key : cal J okAll 179 #[.slice (some ⟨lb, 0, none⟩) vs.length vs.length, .func (.func 180) #[] #[.pointer (some ⟨H.next, 0, none⟩)]] (H.push (.cells [.int .i64 most] 3 false)) = some (.ret (.bool (vs.any fun v => decide (most < v.2.1))), H.push (.cells [.int .i64 most] 3 false)) := by
    rw [cal179 _ _ (by simp)]
    have k2 : cal J okAll 217 #[.slice (some ⟨lb, 0, none⟩) vs.length vs.length, .func (.func 180) #[] #[.pointer (some ⟨H.next, 0, none⟩)]] (H.push (.cells [.int .i64 most] 3 false)) = some (.ret (.int .i64 (firstI (fun n => decide (most < n)) 0 (vs.map (·.2.1)))), H.push (.cells [.int .i64 most] 3 false)) := by
      rw [cal217 _ _ (by simp)]
      simp [C217, regsOf, fin, iresult1]
      generalize hX : run J okAll (.loop L217_0) _ _ = X
      obtain ⟨T1, hT, a0, a1, a7, a8⟩ : ∃ T1, run J okAll (.loop L217_0) T1 (H.push (.cells [.int .i64 most] 3 false)) = X ∧ T1.at 0 = .slice (some ⟨lb, 0, none⟩) vs.length vs.length ∧ T1.at 1 = .func (.func 180) #[] #[.pointer (some ⟨H.next, 0, none⟩)] ∧ T1.at 7 = .int .i64 (vs.length : Int) ∧ T1.at 8 = .int .i64 ((0 : Nat) : Int) := ⟨_, hX, by simp, by simp, by simp, by simp⟩
      obtain ⟨T', h1 | ⟨h1, h2⟩⟩ := c_overl_2 (H := H.push (.cells [.int .i64 most] 3 false)) H.next lb most vs hl (IH.get_push_same _ _) (by rw [IH.get_push_other _ _ _ hlb]; exact hg) vs 0 T1 rfl (by omega) a0 a1 a7 a8
      · have h2 := hT.symm.trans h1.2
        subst h2
        simp [regsOf, fin, iresult1, h1.1]
      · have h1 := hT.symm.trans h1
        subst h1
        simp [regsOf, fin, iresult1, h2]
    have k3 := firstI_nonneg (fun n => decide (most < (n : Int))) (vs.map (·.2.1)) 0
    simp only [List.any_map] at k3
    simp [C179, regsOf, fin, iresult1, k2, k3]
    rfl
  simp [C115, regsOf, fin, iresult1, inew, Value.cells, key]
theorem c_overc_3 (mb n : Nat) (a : Option Addr) (c : Nat) (most : Int) (hm : H.get mb = some (.cells [.int .i64 most] 3 false)) :
    cal J okAll 182 #[.slice a n c, .pointer (some ⟨mb, 0, none⟩)] H = some (.ret (.bool (decide (most < n))), H) := by
  rw [cal182 _ _ (by simp)]
  simp [C182, regsOf, fin, iresult1, hm]
theorem c_overl_3 (mb lb : Nat) (most : Int) (vs : List (Option Addr × Nat × Nat)) (hl : vs.length ≤ 1000) (hm : H.get mb = some (.cells [.int .i64 most] 3 false)) (hg : H.get lb = some (.cells (vs.map slV) 25 false)) : ∀ (rest : List (Option Addr × Nat × Nat)) (i : Nat) (T : Regs), vs.drop i = rest → i ≤ vs.length →
    T.at 0 = .slice (some ⟨lb, 0, none⟩) vs.length vs.length → T.at 1 = .func (.func 182) #[] #[.pointer (some ⟨mb, 0, none⟩)] → T.at 7 = .int .i64 (vs.length : Int) → T.at 8 = .int .i64 (i : Int) →
    ∃ T', (firstI (fun n => decide (most < n)) i (rest.map (·.2.1)) = -1 ∧ run J okAll (.loop L218_0) T H = some (.exit 0, T', H)) ∨ (run J okAll (.loop L218_0) T H = some (.ret, T', H) ∧ T'.at 4 = .int .i64 (firstI (fun n => decide (most < n)) i (rest.map (·.2.1)))) := by
  intro rest
  induction rest with
  | nil =>
    intro i T hr hi t0 t1 t7 t8
    have : i = vs.length := by have := congrArg List.length hr; simp at this; omega
    subst this
    rw [r_loop]
    simp [L218_0, t0, t1, t7, t8, firstI]
  | cons v rest ih =>
    intro i T hr hi t0 t1 t7 t8
    have hlt : i < vs.length := by have := congrArg List.length hr; simp at this; omega
    have hj : vs[i]? = some v := by have := congrArg (fun u => u[0]?) hr; simpa using this
    have hr2 : vs.drop (i + 1) = rest := by rw [← List.tail_drop, hr]; rfl
    have hc : (vs.map slV)[i]? = some (.slice v.1 v.2.1 v.2.2) := by rw [List.getElem?_map, hj]; rfl
    have hcl := c_overc_3 (H := H) mb v.2.1 v.1 v.2.2 most hm
    have hw1 : IntKind.i64.wrap ((i : Int) + 1) = ((i + 1 : Nat) : Int) := by rw [wrap64 _ (by omega) (by omega)]; simp
    generalize vs.map slV = cs at *
    simp only [List.map_cons, firstI]
    cases hb : decide (most < (v.2.1 : Int)) with
    | true =>
      rw [hb] at hcl
      rw [r_loop]
      simp [L218_0, t0, t1, t7, t8, hlt, iindexAddr, hg, hc, hcl]
    | false =>
      rw [hb] at hcl
      rw [r_loop]
      simp [L218_0, t0, t1, t7, t8, hlt, iindexAddr, hg, hc, hcl, hw1]
      exact ih (i + 1) _ hr2 (by omega) (by simp [t0]) (by simp [t1]) (by simp [t7]) (by simp)
theorem c_over_3 (lb : Nat) (most : Int) (vs : List (Option Addr × Nat × Nat)) (hl : vs.length ≤ 1000) (hlb : lb < H.next) (hg : H.get lb = some (.cells (vs.map slV) 25 false)) :
    cal J okAll 116 #[.int .i64 most, .slice (some ⟨lb, 0, none⟩) vs.length vs.length] H = some (.ret (.bool (vs.any fun v => decide (most < v.2.1))), H.push (.cells [.int .i64 most] 3 false)) := by
  rw [cal116 _ _ (by simp)]
  have key : cal J okAll 181 #[.slice (some ⟨lb, 0, none⟩) vs.length vs.length, .func (.func 182) #[] #[.pointer (some ⟨H.next, 0, none⟩)]] (H.push (.cells [.int .i64 most] 3 false)) = some (.ret (.bool (vs.any fun v => decide (most < v.2.1))), H.push (.cells [.int .i64 most] 3 false)) := by
    rw [cal181 _ _ (by simp)]
    have k2 : cal J okAll 218 #[.slice (some ⟨lb, 0, none⟩) vs.length vs.length, .func (.func 182) #[] #[.pointer (some ⟨H.next, 0, none⟩)]] (H.push (.cells [.int .i64 most] 3 false)) = some (.ret (.int .i64 (firstI (fun n => decide (most < n)) 0 (vs.map (·.2.1)))), H.push (.cells [.int .i64 most] 3 false)) := by
      rw [cal218 _ _ (by simp)]
      simp [C218, regsOf, fin, iresult1]
      generalize hX : run J okAll (.loop L218_0) _ _ = X
      obtain ⟨T1, hT, a0, a1, a7, a8⟩ : ∃ T1, run J okAll (.loop L218_0) T1 (H.push (.cells [.int .i64 most] 3 false)) = X ∧ T1.at 0 = .slice (some ⟨lb, 0, none⟩) vs.length vs.length ∧ T1.at 1 = .func (.func 182) #[] #[.pointer (some ⟨H.next, 0, none⟩)] ∧ T1.at 7 = .int .i64 (vs.length : Int) ∧ T1.at 8 = .int .i64 ((0 : Nat) : Int) := ⟨_, hX, by simp, by simp, by simp, by simp⟩
      obtain ⟨T', h1 | ⟨h1, h2⟩⟩ := c_overl_3 (H := H.push (.cells [.int .i64 most] 3 false)) H.next lb most vs hl (IH.get_push_same _ _) (by rw [IH.get_push_other _ _ _ hlb]; exact hg) vs 0 T1 rfl (by omega) a0 a1 a7 a8
      · have h2 := hT.symm.trans h1.2
        subst h2
        simp [regsOf, fin, iresult1, h1.1]
      · have h1 := hT.symm.trans h1
        subst h1
        simp [regsOf, fin, iresult1, h2]
    have k3 := firstI_nonneg (fun n => decide (most < (n : Int))) (vs.map (·.2.1)) 0
    simp only [List.any_map] at k3
    simp [C181, regsOf, fin, iresult1, k2, k3]
    rfl
  simp [C116, regsOf, fin, iresult1, inew, Value.cells, key]
theorem c_overc_4 (mb n : Nat) (a : Option Addr) (c : Nat) (most : Int) (hm : H.get mb = some (.cells [.int .i64 most] 3 false)) :
    cal J okAll 186 #[.slice a n c, .pointer (some ⟨mb, 0, none⟩)] H = some (.ret (.bool (decide (most < n))), H) := by
  rw [cal186 _ _ (by simp)]
  simp [C186, regsOf, fin, iresult1, hm]
theorem c_overl_4 (mb lb : Nat) (most : Int) (vs : List (Option Addr × Nat × Nat)) (hl : vs.length ≤ 1000) (hm : H.get mb = some (.cells [.int .i64 most] 3 false)) (hg : H.get lb = some (.cells (vs.map slV) 28 false)) : ∀ (rest : List (Option Addr × Nat × Nat)) (i : Nat) (T : Regs), vs.drop i = rest → i ≤ vs.length →
    T.at 0 = .slice (some ⟨lb, 0, none⟩) vs.length vs.length → T.at 1 = .func (.func 186) #[] #[.pointer (some ⟨mb, 0, none⟩)] → T.at 7 = .int .i64 (vs.length : Int) → T.at 8 = .int .i64 (i : Int) →
    ∃ T', (firstI (fun n => decide (most < n)) i (rest.map (·.2.1)) = -1 ∧ run J okAll (.loop L220_0) T H = some (.exit 0, T', H)) ∨ (run J okAll (.loop L220_0) T H = some (.ret, T', H) ∧ T'.at 4 = .int .i64 (firstI (fun n => decide (most < n)) i (rest.map (·.2.1)))) := by
  intro rest
  induction rest with
  | nil =>
    intro i T hr hi t0 t1 t7 t8
    have : i = vs.length := by have := congrArg List.length hr; simp at this; omega
    subst this
    rw [r_loop]
    simp [L220_0, t0, t1, t7, t8, firstI]
  | cons v rest ih =>
    intro i T hr hi t0 t1 t7 t8
    have hlt : i < vs.length := by have := congrArg List.length hr; simp at this; omega
    have hj : vs[i]? = some v := by have := congrArg (fun u => u[0]?) hr; simpa using this
    have hr2 : vs.drop (i + 1) = rest := by rw [← List.tail_drop, hr]; rfl
    have hc : (vs.map slV)[i]? = some (.slice v.1 v.2.1 v.2.2) := by rw [List.getElem?_map, hj]; rfl
    have hcl := c_overc_4 (H := H) mb v.2.1 v.1 v.2.2 most hm
    have hw1 : IntKind.i64.wrap ((i : Int) + 1) = ((i + 1 : Nat) : Int) := by rw [wrap64 _ (by omega) (by omega)]; simp
    generalize vs.map slV = cs at *
    simp only [List.map_cons, firstI]
    cases hb : decide (most < (v.2.1 : Int)) with
    | true =>
      rw [hb] at hcl
      rw [r_loop]
      simp [L220_0, t0, t1, t7, t8, hlt, iindexAddr, hg, hc, hcl]
    | false =>
      rw [hb] at hcl
      rw [r_loop]
      simp [L220_0, t0, t1, t7, t8, hlt, iindexAddr, hg, hc, hcl, hw1]
      exact ih (i + 1) _ hr2 (by omega) (by simp [t0]) (by simp [t1]) (by simp [t7]) (by simp)
theorem c_over_4 (lb : Nat) (most : Int) (vs : List (Option Addr × Nat × Nat)) (hl : vs.length ≤ 1000) (hlb : lb < H.next) (hg : H.get lb = some (.cells (vs.map slV) 28 false)) :
    cal J okAll 118 #[.int .i64 most, .slice (some ⟨lb, 0, none⟩) vs.length vs.length] H = some (.ret (.bool (vs.any fun v => decide (most < v.2.1))), H.push (.cells [.int .i64 most] 3 false)) := by
  rw [cal118 _ _ (by simp)]
  have key : cal J okAll 185 #[.slice (some ⟨lb, 0, none⟩) vs.length vs.length, .func (.func 186) #[] #[.pointer (some ⟨H.next, 0, none⟩)]] (H.push (.cells [.int .i64 most] 3 false)) = some (.ret (.bool (vs.any fun v => decide (most < v.2.1))), H.push (.cells [.int .i64 most] 3 false)) := by
    rw [cal185 _ _ (by simp)]
    have k2 : cal J okAll 220 #[.slice (some ⟨lb, 0, none⟩) vs.length vs.length, .func (.func 186) #[] #[.pointer (some ⟨H.next, 0, none⟩)]] (H.push (.cells [.int .i64 most] 3 false)) = some (.ret (.int .i64 (firstI (fun n => decide (most < n)) 0 (vs.map (·.2.1)))), H.push (.cells [.int .i64 most] 3 false)) := by
      rw [cal220 _ _ (by simp)]
      simp [C220, regsOf, fin, iresult1]
      generalize hX : run J okAll (.loop L220_0) _ _ = X
      obtain ⟨T1, hT, a0, a1, a7, a8⟩ : ∃ T1, run J okAll (.loop L220_0) T1 (H.push (.cells [.int .i64 most] 3 false)) = X ∧ T1.at 0 = .slice (some ⟨lb, 0, none⟩) vs.length vs.length ∧ T1.at 1 = .func (.func 186) #[] #[.pointer (some ⟨H.next, 0, none⟩)] ∧ T1.at 7 = .int .i64 (vs.length : Int) ∧ T1.at 8 = .int .i64 ((0 : Nat) : Int) := ⟨_, hX, by simp, by simp, by simp, by simp⟩
      obtain ⟨T', h1 | ⟨h1, h2⟩⟩ := c_overl_4 (H := H.push (.cells [.int .i64 most] 3 false)) H.next lb most vs hl (IH.get_push_same _ _) (by rw [IH.get_push_other _ _ _ hlb]; exact hg) vs 0 T1 rfl (by omega) a0 a1 a7 a8
      · have h2 := hT.symm.trans h1.2
        subst h2
        simp [regsOf, fin, iresult1, h1.1]
      · have h1 := hT.symm.trans h1
        subst h1
        simp [regsOf, fin, iresult1, h2]
    have k3 := firstI_nonneg (fun n => decide (most < (n : Int))) (vs.map (·.2.1)) 0
    simp only [List.any_map] at k3
    simp [C185, regsOf, fin, iresult1, k2, k3]
    rfl
  simp [C118, regsOf, fin, iresult1, inew, Value.cells, key]
theorem c_overc_5 (mb n : Nat) (a : Option Addr) (c : Nat) (most : Int) (hm : H.get mb = some (.cells [.int .i64 most] 3 false)) :
    cal J okAll 188 #[.slice a n c, .pointer (some ⟨mb, 0, none⟩)] H = some (.ret (.bool (decide (most < n))), H) := by
  rw [cal188 _ _ (by simp)]
  simp [C188, regsOf, fin, iresult1, hm]
theorem c_overl_5 (mb lb : Nat) (most : Int) (vs : List (Option Addr × Nat × Nat)) (hl : vs.length ≤ 1000) (hm : H.get mb = some (.cells [.int .i64 most] 3 false)) (hg : H.get lb = some (.cells (vs.map slV) 57 false)) : ∀ (rest : List (Option Addr × Nat × Nat)) (i : Nat) (T : Regs), vs.drop i = rest → i ≤ vs.length →
    T.at 0 = .slice (some ⟨lb, 0, none⟩) vs.length vs.length → T.at 1 = .func (.func 188) #[] #[.pointer (some ⟨mb, 0, none⟩)] → T.at 7 = .int .i64 (vs.length : Int) → T.at 8 = .int .i64 (i : Int) →
    ∃ T', (firstI (fun n => decide (most < n)) i (rest.map (·.2.1)) = -1 ∧ run J okAll (.loop L221_0) T H = some (.exit 0, T', H)) ∨ (run J okAll (.loop L221_0) T H = some (.ret, T', H) ∧ T'.at 4 = .int .i64 (firstI (fun n => decide (most < n)) i (rest.map (·.2.1)))) := by
  intro rest
  induction rest with
  | nil =>
    intro i T hr hi t0 t1 t7 t8
    have : i = vs.length := by have := congrArg List.length hr; simp at this; omega
    subst this
    rw [r_loop]
    simp [L221_0, t0, t1, t7, t8, firstI]
  | cons v rest ih =>
    intro i T hr hi t0 t1 t7 t8
    have hlt : i < vs.length := by have := congrArg List.length hr; simp at this; omega
    have hj : vs[i]? = some v := by have := congrArg (fun u => u[0]?) hr; simpa using this
    have hr2 : vs.drop (i + 1) = rest := by rw [← List.tail_drop, hr]; rfl
    have hc : (vs.map slV)[i]? = some (.slice v.1 v.2.1 v.2.2) := by rw [List.getElem?_map, hj]; rfl
    have hcl := c_overc_5 (H := H) mb v.2.1 v.1 v.2.2 most hm
    have hw1 : IntKind.i64.wrap ((i : Int) + 1) = ((i + 1 : Nat) : Int) := by rw [wrap64 _ (by omega) (by omega)]; simp
    generalize vs.map slV = cs at *
    simp only [List.map_cons, firstI]
    cases hb : decide (most < (v.2.1 : Int)) with
    | true =>
      rw [hb] at hcl
      rw [r_loop]
      simp [L221_0, t0, t1, t7, t8, hlt, iindexAddr, hg, hc, hcl]
    | false =>
      rw [hb] at hcl
      rw [r_loop]
      simp [L221_0, t0, t1, t7, t8, hlt, iindexAddr, hg, hc, hcl, hw1]
      exact ih (i + 1) _ hr2 (by omega) (by simp [t0]) (by simp [t1]) (by simp [t7]) (by simp)
theorem c_over_5 (lb : Nat) (most : Int) (vs : List (Option Addr × Nat × Nat)) (hl : vs.length ≤ 1000) (hlb : lb < H.next) (hg : H.get lb = some (.cells (vs.map slV) 57 false)) :
    cal J okAll 119 #[.int .i64 most, .slice (some ⟨lb, 0, none⟩) vs.length vs.length] H = some (.ret (.bool (vs.any fun v => decide (most < v.2.1))), H.push (.cells [.int .i64 most] 3 false)) := by
  rw [cal119 _ _ (by simp)]
  have key : cal J okAll 187 #[.slice (some ⟨lb, 0, none⟩) vs.length vs.length, .func (.func 188) #[] #[.pointer (some ⟨H.next, 0, none⟩)]] (H.push (.cells [.int .i64 most] 3 false)) = some (.ret (.bool (vs.any fun v => decide (most < v.2.1))), H.push (.cells [.int .i64 most] 3 false)) := by
    rw [cal187 _ _ (by simp)]
    have k2 : cal J okAll 221 #[.slice (some ⟨lb, 0, none⟩) vs.length vs.length, .func (.func 188) #[] #[.pointer (some ⟨H.next, 0, none⟩)]] (H.push (.cells [.int .i64 most] 3 false)) = some (.ret (.int .i64 (firstI (fun n => decide (most < n)) 0 (vs.map (·.2.1)))), H.push (.cells [.int .i64 most] 3 false)) := by
      rw [cal221 _ _ (by simp)]
      simp [C221, regsOf, fin, iresult1]
      generalize hX : run J okAll (.loop L221_0) _ _ = X
      obtain ⟨T1, hT, a0, a1, a7, a8⟩ : ∃ T1, run J okAll (.loop L221_0) T1 (H.push (.cells [.int .i64 most] 3 false)) = X ∧ T1.at 0 = .slice (some ⟨lb, 0, none⟩) vs.length vs.length ∧ T1.at 1 = .func (.func 188) #[] #[.pointer (some ⟨H.next, 0, none⟩)] ∧ T1.at 7 = .int .i64 (vs.length : Int) ∧ T1.at 8 = .int .i64 ((0 : Nat) : Int) := ⟨_, hX, by simp, by simp, by simp, by simp⟩
      obtain ⟨T', h1 | ⟨h1, h2⟩⟩ := c_overl_5 (H := H.push (.cells [.int .i64 most] 3 false)) H.next lb most vs hl (IH.get_push_same _ _) (by rw [IH.get_push_other _ _ _ hlb]; exact hg) vs 0 T1 rfl (by omega) a0 a1 a7 a8
      · have h2 := hT.symm.trans h1.2
        subst h2
        simp [regsOf, fin, iresult1, h1.1]
      · have h1 := hT.symm.trans h1
        subst h1
        simp [regsOf, fin, iresult1, h2]
    have k3 := firstI_nonneg (fun n => decide (most < (n : Int))) (vs.map (·.2.1)) 0
    simp only [List.any_map] at k3
    simp [C187, regsOf, fin, iresult1, k2, k3]
    rfl
  simp [C119, regsOf, fin, iresult1, inew, Value.cells, key]
end
end Go.Proofs.YtchlbfmjnhgpgaaGreat.Idl
namespace Go.Proofs.YtchlbfmjnhgpgaaGreat.Idl
open Go
set_option maxHeartbeats 8000000
set_option maxRecDepth 100000
set_option linter.unusedSimpArgs false
def firstT (p : ByteArray → Bool) : Nat → List ByteArray → Int
  | _, [] => -1
  | i, n :: l => if p n then (i : Int) else firstT p (i + 1) l
theorem firstT_nonneg (p : ByteArray → Bool) : ∀ (l : List ByteArray) (i : Nat), decide (0 ≤ firstT p i l) = l.any p
  | [], i => by simp [firstT]
  | n :: l, i => by
    unfold firstT
    cases h : p n with
    | true => simp [h]
    | false => simp [h, firstT_nonneg p l (i + 1)]
section
variable {H : IH} {lo : Nat}
theorem c_widec (s : ByteArray) : cal J okAll 184 #[.string s] H = some (.ret (.bool (decide (16384 < (s.size : Int)))), H) := by
  rw [cal184 _ _ (by simp)]
  simp [C184, regsOf, fin, iresult1]
abbrev TextsAt (H : IH) (lo : Nat) (v : Value) (l : List ByteArray) : Prop := LAt lo 1 (CellAt H 9 Value.string) v l
theorem c_widel {v : Value} {l : List ByteArray} (hv : TextsAt H lo v l) (hl : l.length ≤ 100000) : ∀ (rest : List ByteArray) (i : Nat) (T : Regs), l.drop i = rest → i ≤ l.length →
    T.at 0 = v → T.at 1 = .func (.func 184) #[] #[] → T.at 7 = .int .i64 (l.length : Int) → T.at 8 = .int .i64 (i : Int) →
    ∃ T', (firstT (fun s => decide (16384 < (s.size : Int))) i rest = -1 ∧ run J okAll (.loop L219_0) T H = some (.exit 0, T', H)) ∨ (run J okAll (.loop L219_0) T H = some (.ret, T', H) ∧ T'.at 4 = .int .i64 (firstT (fun s => decide (16384 < (s.size : Int))) i rest)) := by
  intro rest
  induction rest with
  | nil =>
    intro i T hr hi t0 t1 t7 t8
    have : i = l.length := by have := congrArg List.length hr; simp at this; omega
    subst this
    rw [r_loop]
    simp [L219_0, t0, t1, t7, t8, firstT]
  | cons s rest ih =>
    intro i T hr hi t0 t1 t7 t8
    have hlt : i < l.length := by have := congrArg List.length hr; simp at this; omega
    have hj : l[i]? = some s := by have := congrArg (fun u => u[0]?) hr; simpa using this
    have hr2 : l.drop (i + 1) = rest := by rw [← List.tail_drop, hr]; rfl
    obtain ⟨b, o, c, rfl, hb, _, hcell⟩ := hv.get hj
    obtain ⟨cs, pr, hg, hc⟩ := hcell
    simp only [Nat.mul_one] at hc
    have hcl := c_widec (H := H) s
    have hw1 : IntKind.i64.wrap ((i : Int) + 1) = ((i + 1 : Nat) : Int) := by rw [wrap64 _ (by omega) (by omega)]; simp
    simp only [firstT]
    by_cases hp : 16384 < (s.size : Int)
    · have hd : decide (16384 < (s.size : Int)) = true := decide_eq_true hp
      rw [hd] at hcl
      rw [if_pos hd, r_loop]
      simp [L219_0, t0, t1, t7, t8, hlt, iindexAddr, hg, hc, hcl]
    · have hd : decide (16384 < (s.size : Int)) = false := decide_eq_false hp
      rw [hd] at hcl
      rw [if_neg (by simp [hd]), r_loop]
      simp [L219_0, t0, t1, t7, t8, hlt, iindexAddr, hg, hc, hcl, hw1]
      exact ih (i + 1) _ hr2 (by omega) (by simp [t0]) (by simp [t1]) (by simp [t7]) (by simp)
theorem c_wide {v : Value} {l : List ByteArray} (hv : TextsAt H lo v l) (hl : l.length ≤ 100000) : cal J okAll 117 #[v] H = some (.ret (.bool (l.any fun s => decide (16384 < (s.size : Int)))), H) := by
  rw [cal117 _ _ (by simp)]
  have key : cal J okAll 183 #[v, .func (.func 184) #[] #[]] H = some (.ret (.bool (l.any fun s => decide (16384 < (s.size : Int)))), H) := by
    rw [cal183 _ _ (by simp)]
    have k2 : cal J okAll 219 #[v, .func (.func 184) #[] #[]] H = some (.ret (.int .i64 (firstT (fun s => decide (16384 < (s.size : Int))) 0 l)), H) := by
      rw [cal219 _ _ (by simp)]
      obtain ⟨a, c, rfl, _⟩ := id hv
      simp [C219, regsOf, fin, iresult1]
      generalize hX : run J okAll (.loop L219_0) _ _ = X
      obtain ⟨T1, hT, a0, a1, a7, a8⟩ : ∃ T1, run J okAll (.loop L219_0) T1 H = X ∧ T1.at 0 = .slice a l.length c ∧ T1.at 1 = .func (.func 184) #[] #[] ∧ T1.at 7 = .int .i64 (l.length : Int) ∧ T1.at 8 = .int .i64 ((0 : Nat) : Int) := ⟨_, hX, by simp, by simp, by simp, by simp⟩
      obtain ⟨T', h1 | ⟨h1, h2⟩⟩ := c_widel hv hl l 0 T1 rfl (by omega) a0 a1 a7 a8
      · have h2 := hT.symm.trans h1.2
        subst h2
        simp [regsOf, fin, iresult1, h1.1]
      · have h1 := hT.symm.trans h1
        subst h1
        simp [regsOf, fin, iresult1, h2]
    have k3 := firstT_nonneg (fun s => decide (16384 < (s.size : Int))) l 0
    simp [C183, regsOf, fin, iresult1, k2, k3]
  simp [C117, regsOf, fin, iresult1, key]
def usesL (op : Int) : List UInt8 :=
  if op = 1 then [68, 78] else if op = 2 then [68, 65, 108] else if op = 3 ∨ op = 11 then [68, 65] else if op = 4 then [68, 65, 66, 78] else if op = 5 then [68, 65, 76, 108]
  else if op = 6 ∨ op = 9 ∨ op = 12 ∨ op = 14 then [68, 65, 66] else if op = 7 ∨ op = 10 ∨ op = 19 then [65, 66, 67] else if op = 8 then [68, 65, 66, 67, 108] else if op = 13 then [68, 65, 66, 108]
  else if op = 15 then [68] else if op = 16 ∨ op = 18 ∨ op = 22 ∨ op = 23 then [65] else if op = 17 then [68, 65, 66, 67, 76, 108] else if op = 20 then [65, 76, 77, 66] else if op = 21 then [65, 76] else []
def usesB (op : Int) : ByteArray := ⟨(usesL op).toArray⟩
theorem c_Uses (op : Int) : cal J okAll 121 #[.int .i64 op] H = some (.ret (.string (usesB op)), H) := by
  rw [cal121 _ _ (by simp)]
  by_cases h : 1 ≤ op ∧ op ≤ 23
  · obtain ⟨n, rfl⟩ : ∃ n : Nat, op = n := ⟨op.toNat, by omega⟩
    have h1 : n < 24 := by omega
    have h0 : 1 ≤ n := by omega
    clear h
    rcases n with _ | n
    · omega
    iterate 23 (rcases n with _ | n; (simp [C121, regsOf, fin, iresult1, usesB, usesL]))
    omega
  · have e : ∀ k : Int, 1 ≤ k → k ≤ 23 → ¬ op = k := fun k h1 h2 e => h ⟨by omega, by omega⟩
    have e1 := e 1 (by omega) (by omega)
    have e2 := e 2 (by omega) (by omega)
    have e3 := e 3 (by omega) (by omega)
    have e4 := e 4 (by omega) (by omega)
    have e5 := e 5 (by omega) (by omega)
    have e6 := e 6 (by omega) (by omega)
    have e7 := e 7 (by omega) (by omega)
    have e8 := e 8 (by omega) (by omega)
    have e9 := e 9 (by omega) (by omega)
    have e10 := e 10 (by omega) (by omega)
    have e11 := e 11 (by omega) (by omega)
    have e12 := e 12 (by omega) (by omega)
    have e13 := e 13 (by omega) (by omega)
    have e14 := e 14 (by omega) (by omega)
    have e15 := e 15 (by omega) (by omega)
    have e16 := e 16 (by omega) (by omega)
    have e17 := e 17 (by omega) (by omega)
    have e18 := e 18 (by omega) (by omega)
    have e19 := e 19 (by omega) (by omega)
    have e20 := e 20 (by omega) (by omega)
    have e21 := e 21 (by omega) (by omega)
    have e22 := e 22 (by omega) (by omega)
    have e23 := e 23 (by omega) (by omega)
    simp [C121, regsOf, fin, iresult1, usesB, usesL, e1, e2, e3, e4, e5, e6, e7, e8, e9, e10, e11, e12, e13, e14, e15, e16, e17, e18, e19, e20, e21, e22, e23]
end
end Go.Proofs.YtchlbfmjnhgpgaaGreat.Idl
namespace Go.Proofs.YtchlbfmjnhgpgaaGreat.Idl
open Go
set_option maxHeartbeats 8000000
set_option maxRecDepth 100000
set_option linter.unusedSimpArgs false
structure LI where
  d : Int
  a : Int
  b : Int
  c : Int
  n : Int
  l : Option Addr × Nat × Nat
  m : Option Addr × Nat × Nat
  v : Option Addr × Nat × Nat
def LI.cells (op : Int) (y : LI) : List Value := [.int .i64 op, .int .i64 y.d, .int .i64 y.a, .int .i64 y.b, .int .i64 y.c, .int .i64 y.n, slV y.l, slV y.m, slV y.v]
def LI.zero (y : LI) (c : UInt8) : LI :=
  if c = 78 then { y with n := 0 } else if c = 68 then { y with d := 0 } else if c = 65 then { y with a := 0 } else if c = 66 then { y with b := 0 } else if c = 67 then { y with c := 0 }
  else if c = 76 then { y with l := (none, 0, 0) } else if c = 77 then { y with m := (none, 0, 0) } else { y with v := (none, 0, 0) }
structure PK where
  d : Int
  a : Int
  b : Int
  c : Int
  n : Int
  l : Nat
  m : Nat
  v : Nat
def PK.zero (y : PK) (c : UInt8) : PK :=
  if c = 78 then { y with n := 0 } else if c = 68 then { y with d := 0 } else if c = 65 then { y with a := 0 } else if c = 66 then { y with b := 0 } else if c = 67 then { y with c := 0 }
  else if c = 76 then { y with l := 0 } else if c = 77 then { y with m := 0 } else { y with v := 0 }
def PK.plain (y : PK) : Bool := decide (y.d = 0) && decide (y.a = 0) && decide (y.b = 0) && decide (y.c = 0) && decide (y.n = 0) && decide (y.l = 0) && decide (y.m = 0) && decide (y.v = 0)
def LI.key (y : LI) : PK := ⟨y.d, y.a, y.b, y.c, y.n, y.l.2.1, y.m.2.1, y.v.2.1⟩
theorem LI.key_zero (y : LI) (c : UInt8) : (y.zero c).key = y.key.zero c := by
  unfold LI.zero PK.zero
  repeat' split
  all_goals rfl
theorem LI.key_fold (us : List UInt8) : ∀ y : LI, (us.foldl LI.zero y).key = us.foldl PK.zero y.key := by
  induction us with
  | nil => intro y; rfl
  | cons c us ih => intro y; rw [List.foldl_cons, List.foldl_cons, ih, LI.key_zero]
def plainK (op : Int) (k : PK) : Bool := !(usesL op).isEmpty && ((usesL op).foldl PK.zero k).plain
def plainF (x : Ins) : Bool := plainK x.op ⟨x.d, x.a, x.b, x.c, x.n, x.l.length, x.m.length, x.live.length⟩
section
variable {H : IH} {lo : Nat}
theorem u8_eq (c : UInt8) (k : Nat) (hk : k < 256) : decide ((c.toNat : Int) = (k : Int)) = decide (c = UInt8.ofNat k) := by
  rw [decide_eq_decide]
  constructor
  · intro h
    have : c.toNat = k := by omega
    rw [← this]; simp
  · intro h
    rw [h]; simp; omega
def numF (c : UInt8) : Option Nat := if c = 68 then some 1 else if c = 65 then some 2 else if c = 66 then some 3 else if c = 67 then some 4 else none
def lstF (c : UInt8) : Nat := if c = 76 then 6 else if c = 77 then 7 else 8
theorem c_number (b : Nat) (c : UInt8) : cal J okAll 122 #[.pointer (some ⟨b, 0, none⟩), .int .u8 (c.toNat : Int)] H = some (.ret (.pointer ((numF c).map fun k => ⟨b, k, none⟩)), H) := by
  rw [cal122 _ _ (by simp)]
  have e68 := u8_eq c 68 (by omega)
  have e65 := u8_eq c 65 (by omega)
  have e66 := u8_eq c 66 (by omega)
  have e67 := u8_eq c 67 (by omega)
  simp only [Int.cast_ofNat_Int, UInt8.reduceOfNat] at e68 e65 e66 e67
  unfold numF
  by_cases h1 : c = 68
  · subst h1; simp [C122, regsOf, fin, iresult1]
  rw [if_neg h1]
  by_cases h2 : c = 65
  · subst h2; simp [C122, regsOf, fin, iresult1]
  rw [if_neg h2]
  by_cases h3 : c = 66
  · subst h3; simp [C122, regsOf, fin, iresult1]
  rw [if_neg h3]
  by_cases h4 : c = 67
  · subst h4; simp [C122, regsOf, fin, iresult1]
  rw [if_neg h4]
  simp only [h1, h2, h3, h4, decide_false] at e68 e65 e66 e67
  simp [C122, regsOf, fin, iresult1, e68, e65, e66, e67]
theorem c_list (b : Nat) (c : UInt8) : cal J okAll 123 #[.pointer (some ⟨b, 0, none⟩), .int .u8 (c.toNat : Int)] H = some (.ret (.pointer (some ⟨b, lstF c, none⟩)), H) := by
  rw [cal123 _ _ (by simp)]
  have e68 := u8_eq c 76 (by omega)
  have e65 := u8_eq c 77 (by omega)
  simp only [Int.cast_ofNat_Int, UInt8.reduceOfNat] at e68 e65
  unfold lstF
  by_cases h1 : c = 76
  · subst h1; simp [C123, regsOf, fin, iresult1]
  rw [if_neg h1]
  by_cases h2 : c = 77
  · subst h2; simp [C123, regsOf, fin, iresult1]
  rw [if_neg h2]
  simp only [h1, h2, decide_false] at e68 e65
  simp [C123, regsOf, fin, iresult1, e68, e65]
theorem bin_nn (x y : Operand) (H : IH) : binR J .neq 193 x y (.pointer none) (.pointer none) H = some (.val (.bool false) H) := binR_pure J H rfl rfl rfl (by kernel_rfl) rfl
@[simp] theorem iconvert_strb (s : ByteArray) (H : IH) : iconvert J 9 34 (.string s) H = some (.slice (some ⟨H.next, 0, none⟩) s.size capU, H.push (.cells (bytesCells s) 5 false)) := by
  simp [iconvert]
def bytesC (us : List UInt8) : List Value := us.map fun c => .int .u8 (c.toNat : Int)
theorem loop73 (yb ub : Nat) (op : Int) (us : List UInt8) (hl : us.length ≤ 100) (cc : Nat) (hyu : yb ≠ ub) : ∀ (rest : List UInt8) (i : Nat) (T : Regs) (H' : IH) (y : LI), us.drop i = rest → i ≤ us.length → H'.get yb = some (.cells (y.cells op) 30 false) → H'.get ub = some (.cells (bytesC us) 5 false) →
    T.at 3 = ptrV yb → T.at 13 = .slice (some ⟨ub, 0, none⟩) us.length cc → T.at 14 = .int .i64 (us.length : Int) → T.at 15 = .int .i64 (i : Int) →
    ∃ T' H'', run J okAll (.loop L73_0) T H' = some (.exit 0, T', H'') ∧ H''.next = H'.next ∧ (∀ x, x ≠ yb → H''.get x = H'.get x) ∧ H''.get yb = some (.cells ((rest.foldl LI.zero y).cells op) 30 false) ∧ T'.at 3 = ptrV yb ∧ T'.at 4 = T.at 4 := by
  intro rest
  induction rest with
  | nil =>
    intro i T H' y hr hi hy hu t3 t13 t14 t15
    have : i = us.length := by have := congrArg List.length hr; simp at this; omega
    subst this
    rw [r_loop]
    simp [L73_0, t3, t13, t14, t15]
    exact ⟨_, _, ⟨rfl, rfl⟩, rfl, fun _ _ => rfl, hy, by simp [t3], by simp⟩
  | cons c rest ih =>
    intro i T H' y hr hi hy hu t3 t13 t14 t15
    have hlt : i < us.length := by have := congrArg List.length hr; simp at this; omega
    have hj : us[i]? = some c := by have := congrArg (fun u => u[0]?) hr; simpa using this
    have hr2 : us.drop (i + 1) = rest := by rw [← List.tail_drop, hr]; rfl
    have hc : (bytesC us)[i]? = some (.int .u8 (c.toNat : Int)) := by unfold bytesC; rw [List.getElem?_map, hj]; rfl
    have hw1 : IntKind.i64.wrap ((i : Int) + 1) = ((i + 1 : Nat) : Int) := by rw [wrap64 _ (by omega) (by omega)]; simp
    have e78 := u8_eq c 78 (by omega)
    simp only [Int.cast_ofNat_Int, UInt8.reduceOfNat] at e78
    have hcn := c_number (H := H') yb c
    have hcl := c_list (H := H') yb c
    simp only [ptrV] at t3
    generalize hbs : bytesC us = bs at *
    rw [List.foldl_cons]
    have step : ∃ T1, run J okAll (.loop L73_0) T H' = run J okAll (.loop L73_0) T1 (H'.set yb (.cells ((y.zero c).cells op) 30 false)) ∧ T1.at 3 = ptrV yb ∧ T1.at 13 = .slice (some ⟨ub, 0, none⟩) us.length cc ∧ T1.at 14 = .int .i64 (us.length : Int) ∧ T1.at 15 = .int .i64 ((i + 1 : Nat) : Int) ∧ T1.at 4 = T.at 4 := by
      simp only [LI.cells] at hy
      unfold LI.zero
      by_cases h1 : c = 78
      · rw [if_pos h1]
        simp only [h1, decide_true] at e78
        rw [← h1] at e78
        rw [r_loop]
        simp [L73_0, t3, t13, t14, t15, hlt, iindexAddr, hu, hc, e78, hy, istore, Value.cells, plain1, overlay, hw1, LI.cells]
        exact ⟨_, rfl, by simp [t3, ptrV], by simp [t13], by simp [t14], by simp, by simp⟩
      rw [if_neg h1]
      simp only [h1, decide_false] at e78
      by_cases h68 : c = 68
      · rw [if_pos h68]
        have hnf : numF c = some 1 := by rw [h68]; rfl
        rw [hnf] at hcn
        simp only [Option.map_some] at hcn
        rw [r_loop]
        simp [L73_0, t3, t13, t14, t15, hlt, iindexAddr, hu, hc, e78, hy, istore, Value.cells, plain1, overlay, hw1, LI.cells, hcn, hcl, nilEq, fitsNil, bin_nn, slV]
        exact ⟨_, rfl, by simp [t3, ptrV], by simp [t13], by simp [t14], by simp, by simp⟩
      rw [if_neg h68]
      by_cases h65 : c = 65
      · rw [if_pos h65]
        have hnf : numF c = some 2 := by rw [h65]; rfl
        rw [hnf] at hcn
        simp only [Option.map_some] at hcn
        rw [r_loop]
        simp [L73_0, t3, t13, t14, t15, hlt, iindexAddr, hu, hc, e78, hy, istore, Value.cells, plain1, overlay, hw1, LI.cells, hcn, hcl, nilEq, fitsNil, bin_nn, slV]
        exact ⟨_, rfl, by simp [t3, ptrV], by simp [t13], by simp [t14], by simp, by simp⟩
      rw [if_neg h65]
      by_cases h66 : c = 66
      · rw [if_pos h66]
        have hnf : numF c = some 3 := by rw [h66]; rfl
        rw [hnf] at hcn
        simp only [Option.map_some] at hcn
        rw [r_loop]
        simp [L73_0, t3, t13, t14, t15, hlt, iindexAddr, hu, hc, e78, hy, istore, Value.cells, plain1, overlay, hw1, LI.cells, hcn, hcl, nilEq, fitsNil, bin_nn, slV]
        exact ⟨_, rfl, by simp [t3, ptrV], by simp [t13], by simp [t14], by simp, by simp⟩
      rw [if_neg h66]
      by_cases h67 : c = 67
      · rw [if_pos h67]
        have hnf : numF c = some 4 := by rw [h67]; rfl
        rw [hnf] at hcn
        simp only [Option.map_some] at hcn
        rw [r_loop]
        simp [L73_0, t3, t13, t14, t15, hlt, iindexAddr, hu, hc, e78, hy, istore, Value.cells, plain1, overlay, hw1, LI.cells, hcn, hcl, nilEq, fitsNil, bin_nn, slV]
        exact ⟨_, rfl, by simp [t3, ptrV], by simp [t13], by simp [t14], by simp, by simp⟩
      rw [if_neg h67]
      have hnf : numF c = none := by simp [numF, h68, h65, h66, h67]
      rw [hnf] at hcn
      simp only [Option.map_none] at hcn
      by_cases h76 : c = 76
      · rw [if_pos h76]
        have hlf : lstF c = 6 := by rw [h76]; rfl
        rw [hlf] at hcl
        rw [r_loop]
        simp [L73_0, t3, t13, t14, t15, hlt, iindexAddr, hu, hc, e78, hy, istore, Value.cells, plain1, overlay, hw1, LI.cells, hcn, hcl, nilEq, fitsNil, bin_nn, slV]
        exact ⟨_, rfl, by simp [t3, ptrV], by simp [t13], by simp [t14], by simp, by simp⟩
      rw [if_neg h76]
      by_cases h77 : c = 77
      · rw [if_pos h77]
        have hlf : lstF c = 7 := by rw [h77]; rfl
        rw [hlf] at hcl
        rw [r_loop]
        simp [L73_0, t3, t13, t14, t15, hlt, iindexAddr, hu, hc, e78, hy, istore, Value.cells, plain1, overlay, hw1, LI.cells, hcn, hcl, nilEq, fitsNil, bin_nn, slV]
        exact ⟨_, rfl, by simp [t3, ptrV], by simp [t13], by simp [t14], by simp, by simp⟩
      rw [if_neg h77]
      have hlf : lstF c = 8 := by simp [lstF, h76, h77]
      rw [hlf] at hcl
      rw [r_loop]
      simp [L73_0, t3, t13, t14, t15, hlt, iindexAddr, hu, hc, e78, hy, istore, Value.cells, plain1, overlay, hw1, LI.cells, hcn, hcl, nilEq, fitsNil, bin_nn, slV]
      exact ⟨_, rfl, by simp [t3, ptrV], by simp [t13], by simp [t14], by simp, by simp⟩
    obtain ⟨T1, s1, s2, s3, s4, s5, s6⟩ := step
    obtain ⟨T', H'', q1, q2, q3, q4, q5, q6⟩ := ih (i + 1) T1 (H'.set yb (.cells ((y.zero c).cells op) 30 false)) (y.zero c) hr2 (by omega) (by rw [IH.get_set, if_pos rfl]) (by rw [IH.get_set, if_neg (Ne.symm hyu)]; exact hu) s2 s3 s4 s5
    exact ⟨T', H'', s1.trans q1, q2.trans rfl, fun x hx => (q3 x hx).trans (by rw [IH.get_set, if_neg hx]), q4, q5, q6.trans s6⟩
def insV (x : Ins) (l m v : Option Addr × Nat × Nat) : Value := .agg #[.int .i64 x.op, .int .i64 x.d, .int .i64 x.a, .int .i64 x.b, .int .i64 x.c, .int .i64 x.n, slV l, slV m, slV v]
theorem ite_len {p : Prop} [Decidable p] {a b : List UInt8} (h1 : a.length ≤ 100) (h2 : b.length ≤ 100) : (if p then a else b).length ≤ 100 := by split <;> assumption
theorem usesL_len (op : Int) : (usesL op).length ≤ 100 := by
  unfold usesL
  repeat' (refine ite_len ?_ ?_)
  all_goals exact by decide
theorem c_Plain (x : Ins) (l m v : Option Addr × Nat × Nat) (hl : l.2.1 = x.l.length) (hm : m.2.1 = x.m.length) (hv : v.2.1 = x.live.length) : ∃ H', cal J okAll 73 #[insV x l m v] H = some (.ret (.bool (plainF x)), H') ∧ Fr H.next H H' := by
  rw [cal73 _ _ (by simp)]
  have hu := fun H => c_Uses (H := H) x.op
  obtain ⟨la, ln, lc⟩ := l
  obtain ⟨ma, mn, mc⟩ := m
  obtain ⟨va, vn, vc⟩ := v
  dsimp only at hl hm hv
  subst hl hm hv
  have husz : (usesB x.op).size = (usesL x.op).length := by simp [usesB, ByteArray.size]
  have hul := usesL_len x.op
  have hbc : bytesCells (usesB x.op) = bytesC (usesL x.op) := by simp [bytesCells, bytesC, usesB]
  have hstr : decide (usesB x.op = ⟨#[]⟩) = (usesL x.op).isEmpty := by
    unfold usesB
    cases usesL x.op with
    | nil => rfl
    | cons c l => simp
  simp [C73, regsOf, fin, iresult1, insV, slV, inew, Value.cells, IH.get_push, istore, plain1, overlay, IH.get_set, loadT_agg, hu, husz, hbc]
  generalize hX : run J okAll (.loop L73_0) _ _ = X
  have hFr : Fr H.next H ((((H.push (.cells [.int .i64 x.op, .int .i64 x.d, .int .i64 x.a, .int .i64 x.b, .int .i64 x.c, .int .i64 x.n, .slice la x.l.length lc, .slice ma x.m.length mc, .slice va x.live.length vc] 30 false)).push (.cells [.int .i64 0, .int .i64 0, .int .i64 0, .int .i64 0, .int .i64 0, .int .i64 0, .slice none 0 0, .slice none 0 0, .slice none 0 0] 30 false)).set (H.next + 1) (.cells [.int .i64 x.op, .int .i64 x.d, .int .i64 x.a, .int .i64 x.b, .int .i64 x.c, .int .i64 x.n, .slice la x.l.length lc, .slice ma x.m.length mc, .slice va x.live.length vc] 30 false)).push (.cells (bytesC (usesL x.op)) 5 false)) :=
    ((((Fr.refl _ _).push (Nat.le_refl _) _).push (by simp) _).set (by omega) _).push (by simp; omega) _
  generalize hG : ((((H.push (.cells [.int .i64 x.op, .int .i64 x.d, .int .i64 x.a, .int .i64 x.b, .int .i64 x.c, .int .i64 x.n, .slice la x.l.length lc, .slice ma x.m.length mc, .slice va x.live.length vc] 30 false)).push (.cells [.int .i64 0, .int .i64 0, .int .i64 0, .int .i64 0, .int .i64 0, .int .i64 0, .slice none 0 0, .slice none 0 0, .slice none 0 0] 30 false)).set (H.next + 1) (.cells [.int .i64 x.op, .int .i64 x.d, .int .i64 x.a, .int .i64 x.b, .int .i64 x.c, .int .i64 x.n, .slice la x.l.length lc, .slice ma x.m.length mc, .slice va x.live.length vc] 30 false)).push (.cells (bytesC (usesL x.op)) 5 false)) = G at *
  have g1 : G.get (H.next + 1) = some (.cells (LI.cells x.op ⟨x.d, x.a, x.b, x.c, x.n, (la, x.l.length, lc), (ma, x.m.length, mc), (va, x.live.length, vc)⟩) 30 false) := by
    rw [← hG, IH.get_push_other _ _ _ (by simp), IH.get_set, if_pos rfl]; rfl
  have g2 : G.get (H.next + 1 + 1) = some (.cells (bytesC (usesL x.op)) 5 false) := by rw [← hG]; simp [IH.get_push]
  obtain ⟨T1, hT, a3, a13, a14, a15, a4⟩ : ∃ T1, run J okAll (.loop L73_0) T1 G = X ∧ T1.at 3 = ptrV (H.next + 1) ∧ T1.at 13 = .slice (some ⟨H.next + 1 + 1, 0, none⟩) (usesL x.op).length capU ∧ T1.at 14 = .int .i64 ((usesL x.op).length : Int) ∧ T1.at 15 = .int .i64 ((0 : Nat) : Int) ∧ T1.at 4 = .string (usesB x.op) := ⟨_, hX, by simp [ptrV], by simp, by simp, by simp, by simp⟩
  obtain ⟨T', H2, q1, q2, q3, q4, q5, q6⟩ := loop73 (H.next + 1) (H.next + 1 + 1) x.op (usesL x.op) hul capU (by omega) (usesL x.op) 0 T1 G _ rfl (by omega) g1 g2 a3 a13 a14 a15
  have q1 := hT.symm.trans q1
  subst q1
  rw [a4] at q6
  have hkey := LI.key_fold (usesL x.op) ⟨x.d, x.a, x.b, x.c, x.n, (la, x.l.length, lc), (ma, x.m.length, mc), (va, x.live.length, vc)⟩
  generalize hy : (usesL x.op).foldl LI.zero ⟨x.d, x.a, x.b, x.c, x.n, (la, x.l.length, lc), (ma, x.m.length, mc), (va, x.live.length, vc)⟩ = y at *
  have hF : Fr H.next H H2 := hFr.trans ⟨by omega, fun z hz => q3 z (by omega)⟩
  have hpf : plainF x = (!(usesL x.op).isEmpty && y.key.plain) := by
    unfold plainF plainK
    rw [hkey]; rfl
  rw [hpf]
  simp only [ptrV] at q5
  simp only [LI.cells, slV] at q4
  unfold PK.plain LI.key
  simp only
  cases b0 : (usesL x.op).isEmpty with
  | true => simp [regsOf, fin, iresult1, q5, q6, hstr, b0]; exact hF
  | false =>
    cases b1 : decide (y.d = 0) with
    | false => simp [regsOf, fin, iresult1, q5, q6, hstr, b0, q4, b1]; exact hF
    | true =>
      cases b2 : decide (y.a = 0) with
      | false => simp [regsOf, fin, iresult1, q5, q6, hstr, b0, q4, b1, b2]; exact hF
      | true =>
        cases b3 : decide (y.b = 0) with
        | false => simp [regsOf, fin, iresult1, q5, q6, hstr, b0, q4, b1, b2, b3]; exact hF
        | true =>
          cases b4 : decide (y.c = 0) with
          | false => simp [regsOf, fin, iresult1, q5, q6, hstr, b0, q4, b1, b2, b3, b4]; exact hF
          | true =>
            cases b5 : decide (y.n = 0) with
            | false => simp [regsOf, fin, iresult1, q5, q6, hstr, b0, q4, b1, b2, b3, b4, b5]; exact hF
            | true =>
              cases b6 : decide (y.l.2.1 = 0) with
              | false => simp [regsOf, fin, iresult1, q5, q6, hstr, b0, q4, b1, b2, b3, b4, b5, b6]; exact hF
              | true =>
                cases b7 : decide (y.m.2.1 = 0) with
                | false => simp [regsOf, fin, iresult1, q5, q6, hstr, b0, q4, b1, b2, b3, b4, b5, b6, b7]; exact hF
                | true => simp [regsOf, fin, iresult1, q5, q6, hstr, b0, q4, b1, b2, b3, b4, b5, b6, b7]; exact hF
end
end Go.Proofs.YtchlbfmjnhgpgaaGreat.Idl
namespace Go.Proofs.YtchlbfmjnhgpgaaGreat.Idl
open Go
set_option maxHeartbeats 8000000
set_option maxRecDepth 100000
set_option linter.unusedSimpArgs false
theorem cellsOf_of {cs vs : List Value} {e : TypeId} {pr : Bool} {off n : Nat} (hn : vs.length = n) (h0 : 0 < n) (h : ∀ j, j < n → cs[off + j]? = vs[j]?) : cellsOf (some (.cells cs e pr)) off n = some vs := by
  have hl : off + n ≤ cs.length := by
    have h1 := h (n - 1) (by omega)
    rw [List.getElem?_eq_getElem (show n - 1 < vs.length by omega)] at h1
    obtain ⟨h2, _⟩ := List.getElem?_eq_some_iff.1 h1
    omega
  rw [cellsOf_cells, if_pos hl]
  congr 1
  apply List.ext_getElem?
  intro j
  by_cases hj : j < n
  · rw [List.getElem?_take, if_pos hj, List.getElem?_drop]; exact h j hj
  · rw [List.getElem?_take, if_neg hj, List.getElem?_eq_none (by omega)]
def firstG {α : Type} (p : α → Bool) : Nat → List α → Int
  | _, [] => -1
  | i, n :: l => if p n then (i : Int) else firstG p (i + 1) l
theorem firstG_nonneg {α : Type} (p : α → Bool) : ∀ (l : List α) (i : Nat), decide (0 ≤ firstG p i l) = l.any p
  | [], i => by simp [firstG]
  | n :: l, i => by
    unfold firstG
    cases h : p n with
    | true => simp [h]
    | false => simp [h, firstG_nonneg p l (i + 1)]
theorem Fr.of_le {lo lo' : Nat} {H H' : IH} (h : Fr lo' H H') (hl : lo ≤ lo') : Fr lo H H' := ⟨h.1, fun x hx => h.2 x (by omega)⟩
section
variable {H : IH} {lo : Nat}
theorem InsAt.cells {b off : Nat} {x : Ins} (h : InsAt H lo b off x) : ∃ cs pr l m v, H.get b = some (.cells cs 30 pr) ∧ cellsOf (some (.cells cs 30 pr)) off 9 = some [.int .i64 x.op, .int .i64 x.d, .int .i64 x.a, .int .i64 x.b, .int .i64 x.c, .int .i64 x.n, slV l, slV m, slV v] ∧ l.2.1 = x.l.length ∧ m.2.1 = x.m.length ∧ v.2.1 = x.live.length := by
  obtain ⟨cs, pr, vl, vm, vv, g0, g1, g2, g3, g4, g5, g6, g7, g8, g9, g10, g11, g12⟩ := h.ex
  obtain ⟨la, lc, rfl, _⟩ := g10
  obtain ⟨ma, mc, rfl, _⟩ := g11
  obtain ⟨va, vc, rfl, _⟩ := g12
  refine ⟨cs, pr, (la, x.l.length, lc), (ma, x.m.length, mc), (va, x.live.length, vc), g0, cellsOf_of rfl (by omega) fun j hj => ?_, rfl, rfl, rfl⟩
  match j, hj with
  | 0, _ => simpa using g1
  | 1, _ => simpa using g2
  | 2, _ => simpa using g3
  | 3, _ => simpa using g4
  | 4, _ => simpa using g5
  | 5, _ => simpa using g6
  | 6, _ => simpa [slV] using g7
  | 7, _ => simpa [slV] using g8
  | 8, _ => simpa [slV] using g9
theorem c_plainc (x : Ins) (l m v : Option Addr × Nat × Nat) (hl : l.2.1 = x.l.length) (hm : m.2.1 = x.m.length) (hv : v.2.1 = x.live.length) : ∃ H', cal J okAll 72 #[insV x l m v] H = some (.ret (.bool (!plainF x)), H') ∧ Fr H.next H H' := by
  rw [cal72 _ _ (by simp)]
  obtain ⟨H', c1, f1⟩ := c_Plain (H := H.push (.cells [.int .i64 x.op, .int .i64 x.d, .int .i64 x.a, .int .i64 x.b, .int .i64 x.c, .int .i64 x.n, slV l, slV m, slV v] 30 false)) x l m v hl hm hv
  simp only [insV] at c1 ⊢
  simp [C72, regsOf, fin, iresult1, inew, Value.cells, IH.get_push, loadT_agg, c1]
  exact ⟨by have := f1.1; simp at this; omega, fun z hz => by rw [f1.2 z (by simp; omega), IH.get_push_other _ _ _ hz]⟩
theorem c_plainl {v : Value} {l : List Ins} (hv : LAt lo 9 (InsAt H lo) v l) (hlo : lo ≤ H.next) (hl : l.length ≤ 100000) : ∀ (rest : List Ins) (i : Nat) (T : Regs) (H' : IH), l.drop i = rest → i ≤ l.length → Fr H.next H H' →
    T.at 0 = v → T.at 1 = .func (.func 72) #[] #[] → T.at 7 = .int .i64 (l.length : Int) → T.at 8 = .int .i64 (i : Int) →
    ∃ T' H'', Fr H.next H H'' ∧ ((firstG (fun x => !plainF x) i rest = -1 ∧ run J okAll (.loop L120_0) T H' = some (.exit 0, T', H'')) ∨ (run J okAll (.loop L120_0) T H' = some (.ret, T', H'') ∧ T'.at 4 = .int .i64 (firstG (fun x => !plainF x) i rest))) := by
  intro rest
  induction rest with
  | nil =>
    intro i T H' hr hi hf t0 t1 t7 t8
    have : i = l.length := by have := congrArg List.length hr; simp at this; omega
    subst this
    rw [r_loop]
    obtain ⟨a, c, rfl, _⟩ := id hv
    simp [L120_0, t0, t1, t7, t8, firstG]
    exact hf
  | cons x rest ih =>
    intro i T H' hr hi hf t0 t1 t7 t8
    have hlt : i < l.length := by have := congrArg List.length hr; simp at this; omega
    have hj : l[i]? = some x := by have := congrArg (fun u => u[0]?) hr; simpa using this
    have hr2 : l.drop (i + 1) = rest := by rw [← List.tail_drop, hr]; rfl
    obtain ⟨b, o, c, rfl, hb, _, hcell⟩ := hv.get hj
    have hsb : SameB lo H H' := fun z hz => hf.2 z (Nat.lt_of_lt_of_le hz hlo)
    obtain ⟨cs, pr, sl, sm, sv, g0, g1, g2, g3, g4⟩ := (hcell.same hsb hb).cells
    obtain ⟨H2, c1, f1⟩ := c_plainc (H := H') x sl sm sv g2 g3 g4
    have hf2 := hf.trans (f1.of_le hf.1)
    have hw1 : IntKind.i64.wrap ((i : Int) + 1) = ((i + 1 : Nat) : Int) := by rw [wrap64 _ (by omega) (by omega)]; simp
    simp only [insV] at c1
    simp only [firstG]
    rcases Bool.eq_false_or_eq_true (plainF x) with hp | hp
    case inr =>
      rw [hp] at c1
      rw [if_pos (by simp [hp])]
      obtain ⟨T', key⟩ : ∃ T', run J okAll (.loop L120_0) T H' = some (.ret, T', H2) ∧ T'.at 4 = .int .i64 (i : Int) := by
        rw [r_loop]
        simp [L120_0, t0, t1, t7, t8, hlt, iindexAddr, g0, g1, loadT_agg, c1]
      exact ⟨T', H2, hf2, .inr key⟩
    case inl =>
      rw [hp] at c1
      rw [if_neg (by simp [hp]), r_loop]
      simp [L120_0, t0, t1, t7, t8, hlt, iindexAddr, g0, g1, loadT_agg, c1, hw1]
      exact ih (i + 1) _ _ hr2 (by omega) hf2 (by simp [t0]) (by simp [t1]) (by simp [t7]) (by simp)
theorem c_plains {v : Value} {l : List Ins} (hv : LAt lo 9 (InsAt H lo) v l) (hlo : lo ≤ H.next) (hl : l.length ≤ 100000) : ∃ H', Fr H.next H H' ∧ cal J okAll 71 #[v, .func (.func 72) #[] #[]] H = some (.ret (.bool (l.any fun x => !plainF x)), H') := by
  rw [cal71 _ _ (by simp)]
  have k2 : ∃ H', Fr H.next H H' ∧ cal J okAll 120 #[v, .func (.func 72) #[] #[]] H = some (.ret (.int .i64 (firstG (fun x => !plainF x) 0 l)), H') := by
    rw [cal120 _ _ (by simp)]
    obtain ⟨a, c, rfl, _⟩ := id hv
    simp [C120, regsOf, fin, iresult1]
    generalize hX : run J okAll (.loop L120_0) _ _ = X
    obtain ⟨T1, hT, a0, a1, a7, a8⟩ : ∃ T1, run J okAll (.loop L120_0) T1 H = X ∧ T1.at 0 = .slice a l.length c ∧ T1.at 1 = .func (.func 72) #[] #[] ∧ T1.at 7 = .int .i64 (l.length : Int) ∧ T1.at 8 = .int .i64 ((0 : Nat) : Int) := ⟨_, hX, by simp, by simp, by simp, by simp⟩
    obtain ⟨T', H', f, h1 | ⟨h1, h2⟩⟩ := c_plainl hv hlo hl l 0 T1 H rfl (by omega) (Fr.refl _ _) a0 a1 a7 a8
    · have h2 := hT.symm.trans h1.2
      subst h2
      simp [regsOf, fin, iresult1, h1.1]
      exact f
    · have h1 := hT.symm.trans h1
      subst h1
      simp [regsOf, fin, iresult1, h2]
      exact f
  obtain ⟨H', f, k2⟩ := k2
  have k3 := firstG_nonneg (fun x => !plainF x) l 0
  refine ⟨H', f, ?_⟩
  simp [C71, regsOf, fin, iresult1, k2]
  exact k3
end
end Go.Proofs.YtchlbfmjnhgpgaaGreat.Idl
namespace Go.Proofs.YtchlbfmjnhgpgaaGreat.Idl
open Go
set_option maxHeartbeats 8000000
set_option maxRecDepth 100000
set_option linter.unusedSimpArgs false
theorem nxs (H : IH) (b : Nat) (x : Blk) : (H.set b x).next = H.next := id rfl
theorem nxp (H : IH) (x : Blk) : (H.push x).next = H.next + 1 := id rfl
theorem bs_int1 (H : IH) (a : Option Addr) (n c : Nat) : ibuildSlice J 260 1 [(0, .slice a n c)] H = some (.slice (some ⟨H.next, 0, none⟩) 1 1, H.push (.cells [.slice a n c] 28 false)) := by kernel_rfl
theorem bs_int2 (H : IH) (a b : Option Addr) (n c m d : Nat) : ibuildSlice J 260 2 [(0, .slice a n c), (1, .slice b m d)] H = some (.slice (some ⟨H.next, 0, none⟩) 2 2, H.push (.cells [.slice a n c, .slice b m d] 28 false)) := by kernel_rfl
theorem ov_int1 (H : IH) (nb : Nat) (hnb : H.next = nb) (a : Option Addr) (n c : Nat) (most : Int) : cal J okAll 118 #[.int .i64 most, .slice (some ⟨nb, 0, none⟩) 1 1] (H.push (.cells [.slice a n c] 28 false)) = some (.ret (.bool (decide (most < n))), (H.push (.cells [.slice a n c] 28 false)).push (.cells [.int .i64 most] 3 false)) := by
  subst hnb
  have := c_over_4 (H := H.push (.cells [.slice a n c] 28 false)) H.next most [(a, n, c)] (by simp) (by simp) (IH.get_push_same _ _)
  simpa using this
theorem ov_int2 (H : IH) (nb : Nat) (hnb : H.next = nb) (a b : Option Addr) (n c m d : Nat) (most : Int) : cal J okAll 118 #[.int .i64 most, .slice (some ⟨nb, 0, none⟩) 2 2] (H.push (.cells [.slice a n c, .slice b m d] 28 false)) = some (.ret (.bool (decide (most < n) || decide (most < m))), (H.push (.cells [.slice a n c, .slice b m d] 28 false)).push (.cells [.int .i64 most] 3 false)) := by
  subst hnb
  have := c_over_4 (H := H.push (.cells [.slice a n c, .slice b m d] 28 false)) H.next most [(a, n, c), (b, m, d)] (by simp) (by simp) (IH.get_push_same _ _)
  simpa using this
theorem bs_type (H : IH) (a : Option Addr) (n c : Nat) : ibuildSlice J 246 1 [(0, .slice a n c)] H = some (.slice (some ⟨H.next, 0, none⟩) 1 1, H.push (.cells [.slice a n c] 22 false)) := by kernel_rfl
theorem ov_type (H : IH) (nb : Nat) (hnb : H.next = nb) (a : Option Addr) (n c : Nat) (most : Int) : cal J okAll 113 #[.int .i64 most, .slice (some ⟨nb, 0, none⟩) 1 1] (H.push (.cells [.slice a n c] 22 false)) = some (.ret (.bool (decide (most < n))), (H.push (.cells [.slice a n c] 22 false)).push (.cells [.int .i64 most] 3 false)) := by
  subst hnb
  have := c_over_0 (H := H.push (.cells [.slice a n c] 22 false)) H.next most [(a, n, c)] (by simp) (by simp) (IH.get_push_same _ _)
  simpa using this
theorem bs_shape (H : IH) (a : Option Addr) (n c : Nat) : ibuildSlice J 249 1 [(0, .slice a n c)] H = some (.slice (some ⟨H.next, 0, none⟩) 1 1, H.push (.cells [.slice a n c] 23 false)) := by kernel_rfl
theorem ov_shape (H : IH) (nb : Nat) (hnb : H.next = nb) (a : Option Addr) (n c : Nat) (most : Int) : cal J okAll 114 #[.int .i64 most, .slice (some ⟨nb, 0, none⟩) 1 1] (H.push (.cells [.slice a n c] 23 false)) = some (.ret (.bool (decide (most < n))), (H.push (.cells [.slice a n c] 23 false)).push (.cells [.int .i64 most] 3 false)) := by
  subst hnb
  have := c_over_1 (H := H.push (.cells [.slice a n c] 23 false)) H.next most [(a, n, c)] (by simp) (by simp) (IH.get_push_same _ _)
  simpa using this
theorem bs_strs (H : IH) (a b : Option Addr) (n c m d : Nat) : ibuildSlice J 252 2 [(0, .slice a n c), (1, .slice b m d)] H = some (.slice (some ⟨H.next, 0, none⟩) 2 2, H.push (.cells [.slice a n c, .slice b m d] 24 false)) := by kernel_rfl
theorem ov_strs (H : IH) (nb : Nat) (hnb : H.next = nb) (a b : Option Addr) (n c m d : Nat) (most : Int) : cal J okAll 115 #[.int .i64 most, .slice (some ⟨nb, 0, none⟩) 2 2] (H.push (.cells [.slice a n c, .slice b m d] 24 false)) = some (.ret (.bool (decide (most < n) || decide (most < m))), (H.push (.cells [.slice a n c, .slice b m d] 24 false)).push (.cells [.int .i64 most] 3 false)) := by
  subst hnb
  have := c_over_2 (H := H.push (.cells [.slice a n c, .slice b m d] 24 false)) H.next most [(a, n, c), (b, m, d)] (by simp) (by simp) (IH.get_push_same _ _)
  simpa using this
theorem bs_func (H : IH) (a : Option Addr) (n c : Nat) : ibuildSlice J 255 1 [(0, .slice a n c)] H = some (.slice (some ⟨H.next, 0, none⟩) 1 1, H.push (.cells [.slice a n c] 25 false)) := by kernel_rfl
theorem ov_func (H : IH) (nb : Nat) (hnb : H.next = nb) (a : Option Addr) (n c : Nat) (most : Int) : cal J okAll 116 #[.int .i64 most, .slice (some ⟨nb, 0, none⟩) 1 1] (H.push (.cells [.slice a n c] 25 false)) = some (.ret (.bool (decide (most < n))), (H.push (.cells [.slice a n c] 25 false)).push (.cells [.int .i64 most] 3 false)) := by
  subst hnb
  have := c_over_3 (H := H.push (.cells [.slice a n c] 25 false)) H.next most [(a, n, c)] (by simp) (by simp) (IH.get_push_same _ _)
  simpa using this
theorem bs_block (H : IH) (a : Option Addr) (n c : Nat) : ibuildSlice J 262 1 [(0, .slice a n c)] H = some (.slice (some ⟨H.next, 0, none⟩) 1 1, H.push (.cells [.slice a n c] 57 false)) := by kernel_rfl
theorem ov_block (H : IH) (nb : Nat) (hnb : H.next = nb) (a : Option Addr) (n c : Nat) (most : Int) : cal J okAll 119 #[.int .i64 most, .slice (some ⟨nb, 0, none⟩) 1 1] (H.push (.cells [.slice a n c] 57 false)) = some (.ret (.bool (decide (most < n))), (H.push (.cells [.slice a n c] 57 false)).push (.cells [.int .i64 most] 3 false)) := by
  subst hnb
  have := c_over_5 (H := H.push (.cells [.slice a n c] 57 false)) H.next most [(a, n, c)] (by simp) (by simp) (IH.get_push_same _ _)
  simpa using this
theorem bs_str (H : IH) (s : ByteArray) : ibuildSlice J 24 1 [(0, .string s)] H = some (.slice (some ⟨H.next, 0, none⟩) 1 1, H.push (.cells [.string s] 9 false)) := by kernel_rfl
theorem wide1 (H : IH) (nb : Nat) (hnb : H.next = nb) (s : ByteArray) : cal J okAll 117 #[.slice (some ⟨nb, 0, none⟩) 1 1] (H.push (.cells [.string s] 9 false)) = some (.ret (.bool (decide (16384 < (s.size : Int)))), H.push (.cells [.string s] 9 false)) := by
  subst hnb
  have := c_wide (H := H.push (.cells [.string s] 9 false)) (lo := H.next + 1) (v := .slice (some ⟨H.next, 0, none⟩) 1 1) (l := [s]) ⟨_, 1, rfl, fun _ => ⟨H.next, 0, rfl, by omega, fun i hi => by
    have : i = 0 := by simp at hi; omega
    subst this
    exact ⟨[.string s], false, IH.get_push_same _ _, rfl⟩⟩⟩ (by simp)
  simpa using this
section
variable {H : IH} {lo : Nat}
theorem loop70t {v : Value} {l : List Typ} (hv : LAt lo 2 (TypAt H lo) v l) (hlo : lo ≤ H.next) (hl : l.length ≤ 100000) (K : Nat → Value) : ∀ (rest : List Typ) (i : Nat) (T : Regs) (H' : IH), l.drop i = rest → i ≤ l.length → Fr H.next H H' →
    (∀ t, t < 4 → T.at t = K t) → T.at 49 = v → T.at 50 = .int .i64 (l.length : Int) → T.at 51 = .int .i64 (i : Int) →
    ∃ T' H'', Fr H.next H H'' ∧ ((rest.any (fun x => decide ((512 : Int) < x.shapes.length)) = true ∧ run J okAll (.loop L70_0) T H' = some (.ret, T', H'') ∧ T'.at 2 = .bool true) ∨ (rest.any (fun x => decide ((512 : Int) < x.shapes.length)) = false ∧ run J okAll (.loop L70_0) T H' = some (.exit 0, T', H'') ∧ (∀ t, t < 4 → T'.at t = K t))) := by
  intro rest
  induction rest with
  | nil =>
    intro i T H' hr hi hf hK t49 t50 t51
    have : i = l.length := by have := congrArg List.length hr; simp at this; omega
    subst this
    obtain ⟨T', key⟩ : ∃ T', run J okAll (.loop L70_0) T H' = some (.exit 0, T', H') ∧ (∀ t, t < 4 → T'.at t = K t) := by
      rw [r_loop]
      simp [L70_0, t49, t50, t51]
      exact fun t ht => by simp (disch := omega) only [at_set_gt]; exact hK t ht
    exact ⟨T', H', hf, .inr ⟨rfl, key⟩⟩
  | cons x rest ih =>
    intro i T H' hr hi hf hK t49 t50 t51
    have hlt : i < l.length := by have := congrArg List.length hr; simp at this; omega
    have hj : l[i]? = some x := by have := congrArg (fun u => u[0]?) hr; simpa using this
    have hr2 : l.drop (i + 1) = rest := by rw [← List.tail_drop, hr]; rfl
    obtain ⟨b, o, c, rfl, hb, _, hcell⟩ := hv.get hj
    have hsb : SameB lo H H' := fun z hz => hf.2 z (Nat.lt_of_lt_of_le hz hlo)
    obtain ⟨cs, pr, vf, g0, g1, g2, g3⟩ := (hcell.same hsb hb).ex
    obtain ⟨sa, sc, rfl, _⟩ := id g3
    have hco : cellsOf (some (.cells cs 88 pr)) (o + i * 2) 2 = some [.bool x.imm, .slice sa x.shapes.length sc] := cellsOf_of rfl (by omega) fun j hj => by
      match j, hj with
      | 0, _ => simpa using g1
      | 1, _ => simpa using g2
    have hw1 : IntKind.i64.wrap ((i : Int) + 1) = ((i + 1 : Nat) : Int) := by rw [wrap64 _ (by omega) (by omega)]; simp
    have hn := hf.1
    by_cases hp : (512 : Int) < x.shapes.length
    · have hd : decide ((512 : Int) < x.shapes.length) = true := decide_eq_true hp
      obtain ⟨T', H'', key, hF⟩ : ∃ T' H'', (run J okAll (.loop L70_0) T H' = some (.ret, T', H'') ∧ T'.at 2 = .bool true) ∧ Fr H.next H H'' := by
        rw [r_loop]
        simp [L70_0, t49, t50, t51, hlt, iindexAddr, g0, hco, loadT_agg, inew, istore, Value.cells, plain1, overlay, IH.get_push, IH.get_set, iparts, -IH.next_set, -IH.next_push, nxs, nxp, bs_int1, ov_int1, hd]
        refine ⟨_, _, ⟨⟨rfl, rfl⟩, by simp⟩, ?_⟩
        repeat' first | exact hf | apply Fr.push | apply Fr.set
        all_goals first | omega | (simp <;> omega)
      exact ⟨T', H'', hF, .inl ⟨by simp [hp], key⟩⟩
    · have hd : decide ((512 : Int) < x.shapes.length) = false := decide_eq_false hp
      obtain ⟨T1, H2, s1, hF, s2, s3, s4, s5⟩ : ∃ T1 H2, run J okAll (.loop L70_0) T H' = run J okAll (.loop L70_0) T1 H2 ∧ Fr H.next H H2 ∧ (∀ t, t < 4 → T1.at t = K t) ∧ T1.at 49 = .slice (some ⟨b, o, none⟩) l.length c ∧ T1.at 50 = .int .i64 (l.length : Int) ∧ T1.at 51 = .int .i64 ((i + 1 : Nat) : Int) := by
        rw [r_loop]
        simp [L70_0, t49, t50, t51, hlt, iindexAddr, g0, hco, loadT_agg, inew, istore, Value.cells, plain1, overlay, IH.get_push, IH.get_set, iparts, -IH.next_set, -IH.next_push, nxs, nxp, bs_int1, ov_int1, hd, hw1]
        refine ⟨_, _, rfl, ?_, fun t ht => by simp (disch := omega) only [at_set_gt]; exact hK t ht, by simp [t49], by simp [t50], by simp⟩
        repeat' first | exact hf | apply Fr.push | apply Fr.set
        all_goals first | omega | (simp <;> omega)
      obtain ⟨T', H'', f, d⟩ := ih (i + 1) T1 H2 hr2 (by omega) hF s2 s3 s4 s5
      rw [s1]
      simp only [List.any_cons, hd, Bool.false_or]
      exact ⟨T', H'', f, d⟩
end
end Go.Proofs.YtchlbfmjnhgpgaaGreat.Idl
namespace Go.Proofs.YtchlbfmjnhgpgaaGreat.Idl
open Go
set_option maxHeartbeats 8000000
set_option maxRecDepth 100000
set_option linter.unusedSimpArgs false
theorem at_set_om (T : Regs) (d t : Nat) (v : Value) (h : t ≠ d) : Regs.at (Tr.set T d v) t = T.at t := by rw [at_set, if_neg h]
def bigShape (x : Shp) : Bool := decide ((200 : Int) < x.fields.length) || decide ((16384 : Int) < x.name.size)
def bigCode (x : Ins) : Bool := decide ((1024 : Int) < x.l.length) || decide ((1024 : Int) < x.m.length) || decide ((200 : Int) < x.live.length)
def bigBlocks : Int → List Bl → Option Int
  | left, [] => some left
  | left, b :: bs => if decide (left - b.code.length < 0) || decide ((200 : Int) < b.inn.length) || b.code.any bigCode then none else bigBlocks (left - b.code.length) bs
def bigFns : Int → List Fn → Option Int
  | left, [] => some left
  | left, f :: fs => if decide (200 < f.slots) || decide ((200 : Int) < f.params.length) || decide ((2000 : Int) < f.blocks.length) then none else
    match bigBlocks left f.blocks with
    | none => none
    | some l => bigFns l fs
section
variable {H : IH} {lo : Nat}
theorem loop70s {v : Value} {l : List Shp} (hv : LAt lo 3 (ShpAt H lo) v l) (hlo : lo ≤ H.next) (hl : l.length ≤ 100000) (K : Nat → Value) : ∀ (rest : List Shp) (i : Nat) (T : Regs) (H' : IH), l.drop i = rest → i ≤ l.length → Fr H.next H H' →
    (∀ t, t < 4 → T.at t = K t) → T.at 61 = v → T.at 62 = .int .i64 (l.length : Int) → T.at 63 = .int .i64 (i : Int) →
    ∃ T' H'', Fr H.next H H'' ∧ ((rest.any bigShape = true ∧ run J okAll (.loop L70_1) T H' = some (.ret, T', H'') ∧ T'.at 2 = .bool true) ∨ (rest.any bigShape = false ∧ run J okAll (.loop L70_1) T H' = some (.exit 2, T', H'') ∧ (∀ t, t < 4 → T'.at t = K t))) := by
  intro rest
  induction rest with
  | nil =>
    intro i T H' hr hi hf hK tv tl ti
    have : i = l.length := by have := congrArg List.length hr; simp at this; omega
    subst this
    obtain ⟨T', key⟩ : ∃ T', run J okAll (.loop L70_1) T H' = some (.exit 2, T', H') ∧ (∀ t, t < 4 → T'.at t = K t) := by
      rw [r_loop]
      simp [L70_1, tv, tl, ti]
      first | exact fun t ht => by simp (disch := omega) only [at_set_om]; exact hK t ht | exact fun t h1 h2 => by simp (disch := omega) only [at_set_om]; exact hK t ⟨h1, h2⟩
    exact ⟨T', H', hf, .inr ⟨rfl, key⟩⟩
  | cons x rest ih =>
    intro i T H' hr hi hf hK tv tl ti
    have hlt : i < l.length := by have := congrArg List.length hr; simp at this; omega
    have hj : l[i]? = some x := by have := congrArg (fun u => u[0]?) hr; simpa using this
    have hr2 : l.drop (i + 1) = rest := by rw [← List.tail_drop, hr]; rfl
    obtain ⟨b, o, c, rfl, hb, _, hcell⟩ := hv.get hj
    have hsb : SameB lo H H' := fun z hz => hf.2 z (Nat.lt_of_lt_of_le hz hlo)
    have hw1 : IntKind.i64.wrap ((i : Int) + 1) = ((i + 1 : Nat) : Int) := by rw [wrap64 _ (by omega) (by omega)]; simp
    have hn := hf.1
    have nx2 : ¬ H'.next = H'.next + 1 + 1 := by omega
    have nx3 : ¬ H'.next = H'.next + 1 + 1 + 1 := by omega
    have nx4 : ¬ H'.next = H'.next + 1 + 1 + 1 + 1 := by omega
    obtain ⟨cs, pr, vf, g0, g1, g2, g3, g4⟩ := (hcell.same hsb hb).ex
    obtain ⟨sa, sc, rfl, _⟩ := id g4
    have hco : cellsOf (some (.cells cs 90 pr)) (o + i * 3) 3 = some [.int .i64 x.kind, .slice sa x.fields.length sc, .string x.name] := cellsOf_of rfl (by omega) fun j hj => by
      match j, hj with
      | 0, _ => simpa using g1
      | 1, _ => simpa using g2
      | 2, _ => simpa using g3
    by_cases hp : (200 : Int) < x.fields.length
    · have hd : decide ((200 : Int) < x.fields.length) = true := decide_eq_true hp
      obtain ⟨T', H'', key, hF⟩ : ∃ T' H'', (run J okAll (.loop L70_1) T H' = some (.ret, T', H'') ∧ T'.at 2 = .bool true) ∧ Fr H.next H H'' := by
        rw [r_loop]
        simp [L70_1, tv, tl, ti, hlt, iindexAddr, g0, hco, loadT_agg, inew, istore, Value.cells, plain1, overlay, IH.get_push, IH.get_set, iparts, -IH.next_set, -IH.next_push, nxs, nxp, nx2, nx3, nx4, bs_int1, ov_int1, bs_str, wide1, hd]
        refine ⟨_, _, ⟨⟨rfl, rfl⟩, by simp⟩, ?_⟩
        repeat' first | exact hf | apply Fr.push | apply Fr.set
        all_goals first | omega | (simp <;> omega)
      exact ⟨T', H'', hF, .inl ⟨by simp [bigShape, hd], key⟩⟩
    · have hd : decide ((200 : Int) < x.fields.length) = false := decide_eq_false hp
      by_cases hq : (16384 : Int) < x.name.size
      · have he : decide ((16384 : Int) < x.name.size) = true := decide_eq_true hq
        obtain ⟨T', H'', key, hF⟩ : ∃ T' H'', (run J okAll (.loop L70_1) T H' = some (.ret, T', H'') ∧ T'.at 2 = .bool true) ∧ Fr H.next H H'' := by
          rw [r_loop]
          simp [L70_1, tv, tl, ti, hlt, iindexAddr, g0, hco, loadT_agg, inew, istore, Value.cells, plain1, overlay, IH.get_push, IH.get_set, iparts, -IH.next_set, -IH.next_push, nxs, nxp, nx2, nx3, nx4, bs_int1, ov_int1, bs_str, wide1, hd, he]
          refine ⟨_, _, ⟨⟨rfl, rfl⟩, by simp⟩, ?_⟩
          repeat' first | exact hf | apply Fr.push | apply Fr.set
          all_goals first | omega | (simp <;> omega)
        exact ⟨T', H'', hF, .inl ⟨by simp [bigShape, he], key⟩⟩
      · have he : decide ((16384 : Int) < x.name.size) = false := decide_eq_false hq
        obtain ⟨T1, H2, s1, hF, s2, s3, s4, s5⟩ : ∃ T1 H2, run J okAll (.loop L70_1) T H' = run J okAll (.loop L70_1) T1 H2 ∧ Fr H.next H H2 ∧ (∀ t, t < 4 → T1.at t = K t) ∧ T1.at 61 = .slice (some ⟨b, o, none⟩) l.length c ∧ T1.at 62 = .int .i64 (l.length : Int) ∧ T1.at 63 = .int .i64 ((i + 1 : Nat) : Int) := by
          rw [r_loop]
          simp [L70_1, tv, tl, ti, hlt, iindexAddr, g0, hco, loadT_agg, inew, istore, Value.cells, plain1, overlay, IH.get_push, IH.get_set, iparts, -IH.next_set, -IH.next_push, nxs, nxp, nx2, nx3, nx4, bs_int1, ov_int1, bs_str, wide1, hd, he, hw1]
          refine ⟨_, _, rfl, ?_, ?_, by simp [tv], by simp [tl], by simp⟩
          · repeat' first | exact hf | apply Fr.push | apply Fr.set
            all_goals first | omega | (simp <;> omega)
          · first | exact fun t ht => by simp (disch := omega) only [at_set_om]; exact hK t ht | exact fun t h1 h2 => by simp (disch := omega) only [at_set_om]; exact hK t ⟨h1, h2⟩
        obtain ⟨T', H'', f, d⟩ := ih (i + 1) T1 H2 hr2 (by omega) hF s2 s3 s4 s5
        rw [s1]
        have hno : bigShape x = false := by simp only [bigShape, hd, he, Bool.or_self]
        simp only [List.any_cons, hno, Bool.false_or]
        exact ⟨T', H'', f, d⟩
theorem loop70c {v : Value} {l : List Ins} (hv : LAt lo 9 (InsAt H lo) v l) (hlo : lo ≤ H.next) (hl : l.length ≤ 100000) (K : Nat → Value) : ∀ (rest : List Ins) (i : Nat) (T : Regs) (H' : IH), l.drop i = rest → i ≤ l.length → Fr H.next H H' →
    (∀ t, t < 121 ∧ t ≠ 13 → T.at t = K t) → T.at 121 = v → T.at 122 = .int .i64 (l.length : Int) → T.at 123 = .int .i64 (i : Int) →
    ∃ T' H'', Fr H.next H H'' ∧ ((rest.any bigCode = true ∧ run J okAll (.loop L70_2) T H' = some (.ret, T', H'') ∧ T'.at 2 = .bool true) ∨ (rest.any bigCode = false ∧ run J okAll (.loop L70_2) T H' = some (.exit 8, T', H'') ∧ (∀ t, t < 121 ∧ t ≠ 13 → T'.at t = K t))) := by
  intro rest
  induction rest with
  | nil =>
    intro i T H' hr hi hf hK tv tl ti
    have : i = l.length := by have := congrArg List.length hr; simp at this; omega
    subst this
    obtain ⟨T', key⟩ : ∃ T', run J okAll (.loop L70_2) T H' = some (.exit 8, T', H') ∧ (∀ t, t < 121 ∧ t ≠ 13 → T'.at t = K t) := by
      rw [r_loop]
      simp [L70_2, tv, tl, ti]
      first | exact fun t ht => by simp (disch := omega) only [at_set_om]; exact hK t ht | exact fun t h1 h2 => by simp (disch := omega) only [at_set_om]; exact hK t ⟨h1, h2⟩
    exact ⟨T', H', hf, .inr ⟨rfl, key⟩⟩
  | cons x rest ih =>
    intro i T H' hr hi hf hK tv tl ti
    have hlt : i < l.length := by have := congrArg List.length hr; simp at this; omega
    have hj : l[i]? = some x := by have := congrArg (fun u => u[0]?) hr; simpa using this
    have hr2 : l.drop (i + 1) = rest := by rw [← List.tail_drop, hr]; rfl
    obtain ⟨b, o, c, rfl, hb, _, hcell⟩ := hv.get hj
    have hsb : SameB lo H H' := fun z hz => hf.2 z (Nat.lt_of_lt_of_le hz hlo)
    have hw1 : IntKind.i64.wrap ((i : Int) + 1) = ((i + 1 : Nat) : Int) := by rw [wrap64 _ (by omega) (by omega)]; simp
    have hn := hf.1
    have nx2 : ¬ H'.next = H'.next + 1 + 1 := by omega
    have nx3 : ¬ H'.next = H'.next + 1 + 1 + 1 := by omega
    have nx4 : ¬ H'.next = H'.next + 1 + 1 + 1 + 1 := by omega
    obtain ⟨cs, pr, ⟨la, ln, lc⟩, ⟨ma, mn, mc⟩, ⟨va, vn, vc⟩, g0, hco, g2, g3, g4⟩ := (hcell.same hsb hb).cells
    dsimp only at g2 g3 g4
    subst g2 g3 g4
    by_cases hp : (1024 : Int) < x.l.length ∨ (1024 : Int) < x.m.length
    · have hd : (decide ((1024 : Int) < x.l.length) || decide ((1024 : Int) < x.m.length)) = true := by simpa using hp
      obtain ⟨T', H'', key, hF⟩ : ∃ T' H'', (run J okAll (.loop L70_2) T H' = some (.ret, T', H'') ∧ T'.at 2 = .bool true) ∧ Fr H.next H H'' := by
        rw [r_loop]
        simp [L70_2, tv, tl, ti, hlt, iindexAddr, g0, hco, loadT_agg, inew, istore, Value.cells, plain1, overlay, IH.get_push, IH.get_set, iparts, -IH.next_set, -IH.next_push, nxs, nxp, nx2, nx3, nx4, slV, bs_int1, ov_int1, bs_int2, ov_int2, hd]
        refine ⟨_, _, ⟨⟨rfl, rfl⟩, by simp⟩, ?_⟩
        repeat' first | exact hf | apply Fr.push | apply Fr.set
        all_goals first | omega | (simp <;> omega)
      exact ⟨T', H'', hF, .inl ⟨by simp only [List.any_cons, bigCode, hd, Bool.true_or], key⟩⟩
    · have hd : (decide ((1024 : Int) < x.l.length) || decide ((1024 : Int) < x.m.length)) = false := by simpa using hp
      by_cases hq : (200 : Int) < x.live.length
      · have he : decide ((200 : Int) < x.live.length) = true := decide_eq_true hq
        obtain ⟨T', H'', key, hF⟩ : ∃ T' H'', (run J okAll (.loop L70_2) T H' = some (.ret, T', H'') ∧ T'.at 2 = .bool true) ∧ Fr H.next H H'' := by
          rw [r_loop]
          simp [L70_2, tv, tl, ti, hlt, iindexAddr, g0, hco, loadT_agg, inew, istore, Value.cells, plain1, overlay, IH.get_push, IH.get_set, iparts, -IH.next_set, -IH.next_push, nxs, nxp, nx2, nx3, nx4, slV, bs_int1, ov_int1, bs_int2, ov_int2, hd, he]
          refine ⟨_, _, ⟨⟨rfl, rfl⟩, by simp⟩, ?_⟩
          repeat' first | exact hf | apply Fr.push | apply Fr.set
          all_goals first | omega | (simp <;> omega)
        exact ⟨T', H'', hF, .inl ⟨by simp only [List.any_cons, bigCode, he, Bool.or_true, Bool.true_or], key⟩⟩
      · have he : decide ((200 : Int) < x.live.length) = false := decide_eq_false hq
        obtain ⟨T1, H2, s1, hF, s2, s3, s4, s5⟩ : ∃ T1 H2, run J okAll (.loop L70_2) T H' = run J okAll (.loop L70_2) T1 H2 ∧ Fr H.next H H2 ∧ (∀ t, t < 121 ∧ t ≠ 13 → T1.at t = K t) ∧ T1.at 121 = .slice (some ⟨b, o, none⟩) l.length c ∧ T1.at 122 = .int .i64 (l.length : Int) ∧ T1.at 123 = .int .i64 ((i + 1 : Nat) : Int) := by
          rw [r_loop]
          simp [L70_2, tv, tl, ti, hlt, iindexAddr, g0, hco, loadT_agg, inew, istore, Value.cells, plain1, overlay, IH.get_push, IH.get_set, iparts, -IH.next_set, -IH.next_push, nxs, nxp, nx2, nx3, nx4, slV, bs_int1, ov_int1, bs_int2, ov_int2, hd, he, hw1]
          refine ⟨_, _, rfl, ?_, ?_, by simp [tv], by simp [tl], by simp⟩
          · repeat' first | exact hf | apply Fr.push | apply Fr.set
            all_goals first | omega | (simp <;> omega)
          · first | exact fun t ht => by simp (disch := omega) only [at_set_om]; exact hK t ht | exact fun t h1 h2 => by simp (disch := omega) only [at_set_om]; exact hK t ⟨h1, h2⟩
        obtain ⟨T', H'', f, d⟩ := ih (i + 1) T1 H2 hr2 (by omega) hF s2 s3 s4 s5
        rw [s1]
        have hno : bigCode x = false := by simp only [bigCode, hd, he, Bool.or_self]
        simp only [List.any_cons, hno, Bool.false_or]
        exact ⟨T', H'', f, d⟩
end
end Go.Proofs.YtchlbfmjnhgpgaaGreat.Idl
namespace Go.Proofs.YtchlbfmjnhgpgaaGreat.Idl
open Go
set_option maxHeartbeats 8000000
set_option maxRecDepth 100000
set_option linter.unusedSimpArgs false
section
variable {H : IH} {lo : Nat}
theorem step70b {v : Value} {l : List Bl} (hv : LAt lo 2 (BlAt H lo) v l) (hlo : lo ≤ H.next) (hl : l.length ≤ 100000) (K : Nat → Value) {i : Nat} {T : Regs} {H' : IH} {left : Int} {x : Bl} (hj : l[i]? = some x) (hxl : x.code.length ≤ 4611686018427387904) (hf : Fr H.next H H')
    (hlf : 0 ≤ left ∧ left ≤ 20000) (hK : ∀ t, t < 104 ∧ t ≠ 7 ∧ t ≠ 11 ∧ t ≠ 13 ∧ t ≠ 103 → T.at t = K t) (t7 : T.at 7 = .int .i64 left) (tv : T.at 101 = v) (tl : T.at 102 = .int .i64 (l.length : Int)) (ti : T.at 103 = .int .i64 (i : Int)) :
    ∃ T1 H2, Fr H.next H H2 ∧ (((decide (left - x.code.length < 0) || decide ((200 : Int) < x.inn.length) || x.code.any bigCode) = true ∧ run J okAll (.loop L70_3) T H' = some (.ret, T1, H2) ∧ T1.at 2 = .bool true) ∨
      ((decide (left - x.code.length < 0) || decide ((200 : Int) < x.inn.length) || x.code.any bigCode) = false ∧ run J okAll (.loop L70_3) T H' = run J okAll (.loop L70_3) T1 H2 ∧ (∀ t, t < 104 ∧ t ≠ 7 ∧ t ≠ 11 ∧ t ≠ 13 ∧ t ≠ 103 → T1.at t = K t) ∧ T1.at 7 = .int .i64 (left - x.code.length) ∧ T1.at 103 = .int .i64 ((i + 1 : Nat) : Int))) := by
  obtain ⟨b, o, c, rfl, hb, hlt, hcell⟩ := hv.get hj
  have hsb : SameB lo H H' := fun z hz => hf.2 z (Nat.lt_of_lt_of_le hz hlo)
  have hw1 : IntKind.i64.wrap ((i : Int) + 1) = ((i + 1 : Nat) : Int) := by rw [wrap64 _ (by omega) (by omega)]; simp
  have hw2 : IntKind.i64.wrap (left - x.code.length) = left - x.code.length := by rw [wrapI]; omega
  have hn := hf.1
  have nx2 : ¬ H'.next = H'.next + 1 + 1 := by omega
  obtain ⟨cs, pr, vi, vc, g0, g1, g2, g3, g4⟩ := hcell.ex
  replace g0 := (hsb b hb).trans g0
  obtain ⟨ia, ic, rfl, _⟩ := id g3
  obtain ⟨ca, cc, rfl, _⟩ := id g4
  have hco : cellsOf (some (.cells cs 56 pr)) (o + i * 2) 2 = some [.slice ia x.inn.length ic, .slice ca x.code.length cc] := cellsOf_of rfl (by omega) fun j hj => by
    match j, hj with
    | 0, _ => simpa using g1
    | 1, _ => simpa using g2
  by_cases hp : left - x.code.length < 0
  · have hd : decide (left - (x.code.length : Int) < 0) = true := decide_eq_true hp
    obtain ⟨T', H'', key, hF⟩ : ∃ T' H'', (run J okAll (.loop L70_3) T H' = some (.ret, T', H'') ∧ T'.at 2 = .bool true) ∧ Fr H.next H H'' := by
      rw [r_loop]
      simp [L70_3, tv, tl, ti, t7, hlt, iindexAddr, g0, hco, loadT_agg, inew, istore, Value.cells, plain1, overlay, IH.get_push, IH.get_set, iparts, -IH.next_set, -IH.next_push, nxs, nxp, nx2, hw2, hd, bs_int1, ov_int1]
      refine ⟨_, _, ⟨⟨rfl, rfl⟩, by simp⟩, ?_⟩
      repeat' first | exact hf | apply Fr.push | apply Fr.set
      all_goals first | omega | (simp <;> omega)
    exact ⟨T', H'', hF, .inl ⟨by simp only [hd, Bool.true_or], key⟩⟩
  have hd : decide (left - (x.code.length : Int) < 0) = false := decide_eq_false hp
  by_cases hq : (200 : Int) < x.inn.length
  · have he : decide ((200 : Int) < x.inn.length) = true := decide_eq_true hq
    obtain ⟨T', H'', key, hF⟩ : ∃ T' H'', (run J okAll (.loop L70_3) T H' = some (.ret, T', H'') ∧ T'.at 2 = .bool true) ∧ Fr H.next H H'' := by
      rw [r_loop]
      simp [L70_3, tv, tl, ti, t7, hlt, iindexAddr, g0, hco, loadT_agg, inew, istore, Value.cells, plain1, overlay, IH.get_push, IH.get_set, iparts, -IH.next_set, -IH.next_push, nxs, nxp, nx2, hw2, hd, he, bs_int1, ov_int1]
      refine ⟨_, _, ⟨⟨rfl, rfl⟩, by simp⟩, ?_⟩
      repeat' first | exact hf | apply Fr.push | apply Fr.set
      all_goals first | omega | (simp <;> omega)
    exact ⟨T', H'', hF, .inl ⟨by simp only [hd, he, Bool.true_or, Bool.or_true], key⟩⟩
  have he : decide ((200 : Int) < x.inn.length) = false := decide_eq_false hq
  simp only [hd, he, Bool.false_or]
  obtain ⟨T2, G, eq, hF, f2, f7, f103, f121, f122, f123⟩ : ∃ T2 G, run J okAll (.loop L70_3) T H' = rseq J okAll (.loop L70_3) (rseq J okAll (.region 33 #[Idl.o 140 (.binOp .add 3 (.tmp 103) (xi 1) 3) 3, Idl.o 103 (.move (.tmp 140)) 3] false) (blockOut 7 (blockOut 8 (run J okAll (.loop L70_2) T2 G)))) ∧ Fr H.next H G ∧
      (∀ t, t < 104 ∧ t ≠ 7 ∧ t ≠ 11 ∧ t ≠ 13 ∧ t ≠ 103 → T2.at t = K t) ∧ T2.at 7 = .int .i64 (left - x.code.length) ∧ T2.at 103 = .int .i64 (i : Int) ∧ T2.at 121 = .slice ca x.code.length cc ∧ T2.at 122 = .int .i64 (x.code.length : Int) ∧ T2.at 123 = .int .i64 ((0 : Nat) : Int) := by
    rw [r_loop]
    simp [L70_3, tv, tl, ti, t7, hlt, iindexAddr, g0, hco, loadT_agg, inew, istore, Value.cells, plain1, overlay, IH.get_push, IH.get_set, iparts, -IH.next_set, -IH.next_push, nxs, nxp, nx2, hw2, hd, he, bs_int1, ov_int1]
    refine ⟨_, _, rfl, ?_, fun t h1 h2 h3 h4 h5 => by simp (disch := omega) only [at_set_om]; exact hK t ⟨h1, h2, h3, h4, h5⟩, by simp, by simp [ti], by simp, by simp, by simp⟩
    repeat' first | exact hf | apply Fr.push | apply Fr.set
    all_goals first | omega | (simp <;> omega)
  have hc100 : x.code.length ≤ 100000 := by omega
  obtain ⟨T3, H3, f3, d⟩ := loop70c g4 hlo hc100 (fun t => T2.at t) x.code 0 T2 G rfl (by omega) hF (fun t ht => rfl) f121 f122 f123
  rcases d with ⟨d1, d2, d3⟩ | ⟨d1, d2, d3⟩
  · refine ⟨T3, H3, f3, .inl ⟨d1, ?_, d3⟩⟩
    rw [eq, d2]
    simp
  · rw [d2] at eq
    have k7 := (d3 7 (by omega)).trans f7
    have k103 := (d3 103 (by omega)).trans f103
    obtain ⟨T4, e4, q1, q2, q3⟩ : ∃ T4, rseq J okAll (.loop L70_3) (rseq J okAll (.region 33 #[Idl.o 140 (.binOp .add 3 (.tmp 103) (xi 1) 3) 3, Idl.o 103 (.move (.tmp 140)) 3] false) (blockOut 7 (blockOut 8 (some (.exit 8, T3, H3))))) = run J okAll (.loop L70_3) T4 H3 ∧
        (∀ t, t < 104 ∧ t ≠ 7 ∧ t ≠ 11 ∧ t ≠ 13 ∧ t ≠ 103 → T4.at t = K t) ∧ T4.at 7 = .int .i64 (left - x.code.length) ∧ T4.at 103 = .int .i64 ((i + 1 : Nat) : Int) := by
      simp [k103, hw1]
      exact ⟨_, rfl, fun t h1 h2 h3 h4 h5 => by simp (disch := omega) only [at_set_om]; exact (d3 t (by omega)).trans (f2 t ⟨h1, h2, h3, h4, h5⟩), by simp [k7], by simp⟩
    exact ⟨T4, H3, f3, .inr ⟨d1, eq.trans e4, q1, q2, q3⟩⟩
theorem loop70b {v : Value} {l : List Bl} (hv : LAt lo 2 (BlAt H lo) v l) (hlo : lo ≤ H.next) (hl : l.length ≤ 100000) (hsm : ∀ x ∈ l, x.code.length ≤ 4611686018427387904) (K : Nat → Value) : ∀ (rest : List Bl) (i : Nat) (T : Regs) (H' : IH) (left : Int), l.drop i = rest → i ≤ l.length → Fr H.next H H' → 0 ≤ left ∧ left ≤ 20000 →
    (∀ t, t < 104 ∧ t ≠ 7 ∧ t ≠ 11 ∧ t ≠ 13 ∧ t ≠ 103 → T.at t = K t) → T.at 7 = .int .i64 left → K 101 = v → K 102 = .int .i64 (l.length : Int) → T.at 103 = .int .i64 (i : Int) →
    ∃ T' H'', Fr H.next H H'' ∧ ((bigBlocks left rest = none ∧ run J okAll (.loop L70_3) T H' = some (.ret, T', H'') ∧ T'.at 2 = .bool true) ∨ (∃ left', bigBlocks left rest = some left' ∧ (0 ≤ left' ∧ left' ≤ 20000) ∧ run J okAll (.loop L70_3) T H' = some (.exit 6, T', H'') ∧ T'.at 7 = .int .i64 left' ∧ (∀ t, t < 104 ∧ t ≠ 7 ∧ t ≠ 11 ∧ t ≠ 13 ∧ t ≠ 103 → T'.at t = K t))) := by
  intro rest
  induction rest with
  | nil =>
    intro i T H' left hr hi hf hlf hK t7 tv tl ti
    have : i = l.length := by have := congrArg List.length hr; simp at this; omega
    subst this
    have tl := (hK 102 (by omega)).trans tl
    obtain ⟨T', key⟩ : ∃ T', run J okAll (.loop L70_3) T H' = some (.exit 6, T', H') ∧ T'.at 7 = .int .i64 left ∧ (∀ t, t < 104 ∧ t ≠ 7 ∧ t ≠ 11 ∧ t ≠ 13 ∧ t ≠ 103 → T'.at t = K t) := by
      rw [r_loop]
      simp [L70_3, tl, ti, t7]
      exact fun t h1 h2 h3 h4 h5 => by simp (disch := omega) only [at_set_om]; exact hK t ⟨h1, h2, h3, h4, h5⟩
    exact ⟨T', H', hf, .inr ⟨left, rfl, hlf, key⟩⟩
  | cons x rest ih =>
    intro i T H' left hr hi hf hlf hK t7 tv tl ti
    have hlt : i < l.length := by have := congrArg List.length hr; simp at this; omega
    have hj : l[i]? = some x := by have := congrArg (fun u => u[0]?) hr; simpa using this
    have hr2 : l.drop (i + 1) = rest := by rw [← List.tail_drop, hr]; rfl
    obtain ⟨T1, H2, f, d⟩ := step70b hv hlo hl K hj (hsm x (List.mem_of_getElem? hj)) hf hlf hK t7 ((hK 101 (by omega)).trans tv) ((hK 102 (by omega)).trans tl) ti
    unfold bigBlocks
    rcases d with ⟨d1, d2, d3⟩ | ⟨d1, d2, d3, d4, d5⟩
    · rw [if_pos d1]
      exact ⟨T1, H2, f, .inl ⟨rfl, d2, d3⟩⟩
    · rw [if_neg (by rw [d1]; simp), d2]
      have hle : ¬ left - x.code.length < 0 := by
        simp only [Bool.or_eq_false_iff, decide_eq_false_iff_not] at d1
        exact d1.1.1
      exact ih (i + 1) T1 H2 (left - x.code.length) hr2 (by omega) f (by omega) d3 d4 tv tl d5
end
end Go.Proofs.YtchlbfmjnhgpgaaGreat.Idl
namespace Go.Proofs.YtchlbfmjnhgpgaaGreat.Idl
open Go
set_option maxHeartbeats 8000000
set_option maxRecDepth 100000
set_option linter.unusedSimpArgs false
def bigFn (f : Fn) : Bool := decide (200 < f.slots) || decide ((200 : Int) < f.params.length) || decide ((2000 : Int) < f.blocks.length)
section
variable {H : IH} {lo : Nat}
theorem step70f {v : Value} {l : List Fn} (hv : LAt lo 4 (FnAt H lo) v l) (hlo : lo ≤ H.next) (hl : l.length ≤ 100000) (K : Nat → Value) {i : Nat} {T : Regs} {H' : IH} {left : Int} {x : Fn} (hj : l[i]? = some x) (hsm : ∀ y ∈ x.blocks, y.code.length ≤ 4611686018427387904) (hf : Fr H.next H H')
    (hlf : 0 ≤ left ∧ left ≤ 20000) (hK : ∀ t, t < 81 ∧ t ≠ 7 ∧ t ≠ 9 ∧ t ≠ 11 ∧ t ≠ 13 → T.at t = K t) (t7 : T.at 7 = .int .i64 left) (tv : T.at 79 = v) (tl : T.at 80 = .int .i64 (l.length : Int)) (ti : T.at 81 = .int .i64 (i : Int)) :
    ∃ T1 H2, Fr H.next H H2 ∧ (((bigFn x = true ∨ (bigFn x = false ∧ bigBlocks left x.blocks = none)) ∧ run J okAll (.loop L70_4) T H' = some (.ret, T1, H2) ∧ T1.at 2 = .bool true) ∨
      (∃ left', bigFn x = false ∧ bigBlocks left x.blocks = some left' ∧ (0 ≤ left' ∧ left' ≤ 20000) ∧ run J okAll (.loop L70_4) T H' = run J okAll (.loop L70_4) T1 H2 ∧ (∀ t, t < 81 ∧ t ≠ 7 ∧ t ≠ 9 ∧ t ≠ 11 ∧ t ≠ 13 → T1.at t = K t) ∧ T1.at 7 = .int .i64 left' ∧ T1.at 81 = .int .i64 ((i + 1 : Nat) : Int))) := by
  obtain ⟨b, o, c, rfl, hb, hlt, hcell⟩ := hv.get hj
  have hsb : SameB lo H H' := fun z hz => hf.2 z (Nat.lt_of_lt_of_le hz hlo)
  have hw1 : IntKind.i64.wrap ((i : Int) + 1) = ((i + 1 : Nat) : Int) := by rw [wrap64 _ (by omega) (by omega)]; simp
  have hn := hf.1
  have nx2 : ¬ H'.next = H'.next + 1 + 1 := by omega
  have nx3 : ¬ H'.next = H'.next + 1 + 1 + 1 := by omega
  have nx4 : ¬ H'.next = H'.next + 1 + 1 + 1 + 1 := by omega
  obtain ⟨cs, pr, vp, vb, g0, g1, g2, g3, g4, g5, g6⟩ := hcell.ex
  replace g0 := (hsb b hb).trans g0
  obtain ⟨pa, pc, rfl, _⟩ := id g5
  obtain ⟨ba, bc, rfl, _⟩ := id g6
  have hco : cellsOf (some (.cells cs 59 pr)) (o + i * 4) 4 = some [.slice pa x.params.length pc, .int .i64 x.result, .int .i64 x.slots, .slice ba x.blocks.length bc] := cellsOf_of rfl (by omega) fun j hj => by
    match j, hj with
    | 0, _ => simpa using g1
    | 1, _ => simpa using g2
    | 2, _ => simpa using g3
    | 3, _ => simpa using g4
  by_cases hp : 200 < x.slots
  · have hd : decide (200 < x.slots) = true := decide_eq_true hp
    obtain ⟨T', H'', key, hF⟩ : ∃ T' H'', (run J okAll (.loop L70_4) T H' = some (.ret, T', H'') ∧ T'.at 2 = .bool true) ∧ Fr H.next H H'' := by
      rw [r_loop]
      simp [L70_4, tv, tl, ti, t7, hlt, iindexAddr, g0, hco, loadT_agg, inew, istore, Value.cells, plain1, overlay, IH.get_push, IH.get_set, iparts, -IH.next_set, -IH.next_push, nxs, nxp, nx2, nx3, nx4, hd, bs_int1, ov_int1, bs_block, ov_block]
      refine ⟨_, _, ⟨⟨rfl, rfl⟩, by simp⟩, ?_⟩
      repeat' first | exact hf | apply Fr.push | apply Fr.set
      all_goals first | omega | (simp <;> omega)
    exact ⟨T', H'', hF, .inl ⟨.inl (by simp only [bigFn, hd, Bool.true_or]), key⟩⟩
  have hd : decide (200 < x.slots) = false := decide_eq_false hp
  by_cases hq : (200 : Int) < x.params.length
  · have he : decide ((200 : Int) < x.params.length) = true := decide_eq_true hq
    obtain ⟨T', H'', key, hF⟩ : ∃ T' H'', (run J okAll (.loop L70_4) T H' = some (.ret, T', H'') ∧ T'.at 2 = .bool true) ∧ Fr H.next H H'' := by
      rw [r_loop]
      simp [L70_4, tv, tl, ti, t7, hlt, iindexAddr, g0, hco, loadT_agg, inew, istore, Value.cells, plain1, overlay, IH.get_push, IH.get_set, iparts, -IH.next_set, -IH.next_push, nxs, nxp, nx2, nx3, nx4, hd, he, bs_int1, ov_int1, bs_block, ov_block]
      refine ⟨_, _, ⟨⟨rfl, rfl⟩, by simp⟩, ?_⟩
      repeat' first | exact hf | apply Fr.push | apply Fr.set
      all_goals first | omega | (simp <;> omega)
    exact ⟨T', H'', hF, .inl ⟨.inl (by simp only [bigFn, hd, he, Bool.true_or, Bool.or_true]), key⟩⟩
  have he : decide ((200 : Int) < x.params.length) = false := decide_eq_false hq
  by_cases hr : (2000 : Int) < x.blocks.length
  · have hh : decide ((2000 : Int) < x.blocks.length) = true := decide_eq_true hr
    obtain ⟨T', H'', key, hF⟩ : ∃ T' H'', (run J okAll (.loop L70_4) T H' = some (.ret, T', H'') ∧ T'.at 2 = .bool true) ∧ Fr H.next H H'' := by
      rw [r_loop]
      simp [L70_4, tv, tl, ti, t7, hlt, iindexAddr, g0, hco, loadT_agg, inew, istore, Value.cells, plain1, overlay, IH.get_push, IH.get_set, iparts, -IH.next_set, -IH.next_push, nxs, nxp, nx2, nx3, nx4, hd, he, hh, bs_int1, ov_int1, bs_block, ov_block]
      refine ⟨_, _, ⟨⟨rfl, rfl⟩, by simp⟩, ?_⟩
      repeat' first | exact hf | apply Fr.push | apply Fr.set
      all_goals first | omega | (simp <;> omega)
    exact ⟨T', H'', hF, .inl ⟨.inl (by simp only [bigFn, hh, Bool.or_true]), key⟩⟩
  have hh : decide ((2000 : Int) < x.blocks.length) = false := decide_eq_false hr
  have hbf : bigFn x = false := by simp only [bigFn, hd, he, hh, Bool.or_self]
  obtain ⟨T2, G, eq, hF, f2, f7, f79, f80, f81, f101, f102, f103⟩ : ∃ T2 G, run J okAll (.loop L70_4) T H' = rseq J okAll (.loop L70_4) (rseq J okAll (.region 34 #[Idl.o 141 (.binOp .add 3 (.tmp 81) (xi 1) 3) 3, Idl.o 81 (.move (.tmp 141)) 3] false) (blockOut 5 (blockOut 6 (run J okAll (.loop L70_3) T2 G)))) ∧ Fr H.next H G ∧
      (∀ t, t < 81 ∧ t ≠ 7 ∧ t ≠ 9 ∧ t ≠ 11 ∧ t ≠ 13 → T2.at t = K t) ∧ T2.at 7 = .int .i64 left ∧ T2.at 79 = .slice (some ⟨b, o, none⟩) l.length c ∧ T2.at 80 = .int .i64 (l.length : Int) ∧ T2.at 81 = .int .i64 (i : Int) ∧ T2.at 101 = .slice ba x.blocks.length bc ∧ T2.at 102 = .int .i64 (x.blocks.length : Int) ∧ T2.at 103 = .int .i64 ((0 : Nat) : Int) := by
    rw [r_loop]
    simp [L70_4, tv, tl, ti, t7, hlt, iindexAddr, g0, hco, loadT_agg, inew, istore, Value.cells, plain1, overlay, IH.get_push, IH.get_set, iparts, -IH.next_set, -IH.next_push, nxs, nxp, nx2, nx3, nx4, hd, he, hh, bs_int1, ov_int1, bs_block, ov_block]
    refine ⟨_, _, rfl, ?_, fun t h1 h2 h3 h4 h5 => by simp (disch := omega) only [at_set_om]; exact hK t ⟨h1, h2, h3, h4, h5⟩, by simp [t7], by simp [tv], by simp [tl], by simp [ti], by simp, by simp, by simp⟩
    repeat' first | exact hf | apply Fr.push | apply Fr.set
    all_goals first | omega | (simp <;> omega)
  obtain ⟨T3, H3, f3, d⟩ := loop70b g6 hlo (by omega) hsm (fun t => T2.at t) x.blocks 0 T2 G left rfl (by omega) hF hlf (fun t ht => rfl) f7 f101 f102 f103
  rcases d with ⟨d1, d2, d3⟩ | ⟨left', d1, dl, d2, d7, d3⟩
  · refine ⟨T3, H3, f3, .inl ⟨.inr ⟨hbf, d1⟩, ?_, d3⟩⟩
    rw [eq, d2]
    simp
  · rw [d2] at eq
    have k81 := (d3 81 (by omega)).trans f81
    obtain ⟨T4, e4, q1, q2, q3⟩ : ∃ T4, rseq J okAll (.loop L70_4) (rseq J okAll (.region 34 #[Idl.o 141 (.binOp .add 3 (.tmp 81) (xi 1) 3) 3, Idl.o 81 (.move (.tmp 141)) 3] false) (blockOut 5 (blockOut 6 (some (.exit 6, T3, H3))))) = run J okAll (.loop L70_4) T4 H3 ∧
        (∀ t, t < 81 ∧ t ≠ 7 ∧ t ≠ 9 ∧ t ≠ 11 ∧ t ≠ 13 → T4.at t = K t) ∧ T4.at 7 = .int .i64 left' ∧ T4.at 81 = .int .i64 ((i + 1 : Nat) : Int) := by
      simp [k81, hw1]
      exact ⟨_, rfl, fun t h1 h2 h3 h4 h5 => by simp (disch := omega) only [at_set_om]; exact (d3 t (by omega)).trans (f2 t ⟨h1, h2, h3, h4, h5⟩), by simp [d7], by simp⟩
    exact ⟨T4, H3, f3, .inr ⟨left', hbf, d1, dl, eq.trans e4, q1, q2, q3⟩⟩
theorem loop70f {v : Value} {l : List Fn} (hv : LAt lo 4 (FnAt H lo) v l) (hlo : lo ≤ H.next) (hl : l.length ≤ 100000) (hsm : ∀ x ∈ l, ∀ y ∈ x.blocks, y.code.length ≤ 4611686018427387904) (K : Nat → Value) : ∀ (rest : List Fn) (i : Nat) (T : Regs) (H' : IH) (left : Int), l.drop i = rest → i ≤ l.length → Fr H.next H H' → 0 ≤ left ∧ left ≤ 20000 →
    (∀ t, t < 81 ∧ t ≠ 7 ∧ t ≠ 9 ∧ t ≠ 11 ∧ t ≠ 13 → T.at t = K t) → T.at 7 = .int .i64 left → K 79 = v → K 80 = .int .i64 (l.length : Int) → T.at 81 = .int .i64 (i : Int) →
    ∃ T' H'', Fr H.next H H'' ∧ ((bigFns left rest = none ∧ run J okAll (.loop L70_4) T H' = some (.ret, T', H'') ∧ T'.at 2 = .bool true) ∨ ((bigFns left rest).isSome = true ∧ run J okAll (.loop L70_4) T H' = some (.exit 4, T', H'') ∧ (∀ t, t < 81 ∧ t ≠ 7 ∧ t ≠ 9 ∧ t ≠ 11 ∧ t ≠ 13 → T'.at t = K t))) := by
  intro rest
  induction rest with
  | nil =>
    intro i T H' left hr hi hf hlf hK t7 tv tl ti
    have : i = l.length := by have := congrArg List.length hr; simp at this; omega
    subst this
    have tl := (hK 80 (by omega)).trans tl
    obtain ⟨T', key⟩ : ∃ T', run J okAll (.loop L70_4) T H' = some (.exit 4, T', H') ∧ (∀ t, t < 81 ∧ t ≠ 7 ∧ t ≠ 9 ∧ t ≠ 11 ∧ t ≠ 13 → T'.at t = K t) := by
      rw [r_loop]
      simp [L70_4, tl, ti, t7]
      exact fun t h1 h2 h3 h4 h5 => by simp (disch := omega) only [at_set_om]; exact hK t ⟨h1, h2, h3, h4, h5⟩
    exact ⟨T', H', hf, .inr ⟨rfl, key⟩⟩
  | cons x rest ih =>
    intro i T H' left hr hi hf hlf hK t7 tv tl ti
    have hlt : i < l.length := by have := congrArg List.length hr; simp at this; omega
    have hj : l[i]? = some x := by have := congrArg (fun u => u[0]?) hr; simpa using this
    have hr2 : l.drop (i + 1) = rest := by rw [← List.tail_drop, hr]; rfl
    obtain ⟨T1, H2, f, d⟩ := step70f hv hlo hl K hj (hsm x (List.mem_of_getElem? hj)) hf hlf hK t7 ((hK 79 (by omega)).trans tv) ((hK 80 (by omega)).trans tl) ti
    unfold bigFns
    rcases d with ⟨d1, d2, d3⟩ | ⟨left', d1, d2, dl, d3, d4, d5, d6⟩
    · refine ⟨T1, H2, f, .inl ⟨?_, d2, d3⟩⟩
      rcases d1 with d1 | ⟨d1, d1'⟩
      · unfold bigFn at d1; rw [if_pos d1]
      · unfold bigFn at d1; rw [if_neg (by rw [d1]; simp), d1']
    · unfold bigFn at d1
      rw [if_neg (by rw [d1]; simp), d2, d3]
      exact ih (i + 1) T1 H2 left' hr2 (by omega) f dl d4 d5 tv tl d6
def bigF (im : Img) : Bool :=
  decide ((1024 : Int) < im.types.length) || decide ((512 : Int) < im.shapes.length) || (decide ((256 : Int) < im.strings.length) || decide ((256 : Int) < im.names.length)) || decide ((1024 : Int) < im.funcs.length) ||
  (im.strings.any fun s => decide ((16384 : Int) < s.size)) || (im.names.any fun s => decide ((16384 : Int) < s.size)) ||
  (im.types.any fun x => decide ((512 : Int) < x.shapes.length)) || im.shapes.any bigShape || (bigFns 20000 im.funcs).isNone
def ImV.val (u : ImV) (im : Img) : Value := .agg (ImV.cells u im).toArray
end
end Go.Proofs.YtchlbfmjnhgpgaaGreat.Idl
namespace Go.Proofs.YtchlbfmjnhgpgaaGreat.Idl
open Go
set_option maxHeartbeats 8000000
set_option maxRecDepth 100000
set_option linter.unusedSimpArgs false
structure ImSm (im : Img) : Prop where
  code : ∀ x ∈ im.funcs, ∀ y ∈ x.blocks, y.code.length ≤ 4611686018427387904
  num : ∀ x ∈ im.funcs, ∀ y ∈ x.blocks, ∀ z ∈ y.code, -9223372036854775808 ≤ z.n ∧ z.n ≤ 9223372036854775807
section
variable {H : IH} {lo : Nat}
theorem c_big {u : ImV} {im : Img} (hv : ImvAt H lo u im) (hlo : lo ≤ H.next) (hsm : ImSm im) : ∃ H', Fr H.next H H' ∧ cal J okAll 70 #[u.val im] H = some (.ret (.bool (bigF im)), H') := by
  rw [cal70 _ _ (by simp)]
  obtain ⟨vt, vs, vst, vn, vf⟩ := u
  obtain ⟨ta, tc, et, _⟩ := id hv.types
  obtain ⟨sa, sc, es, _⟩ := id hv.shapes
  obtain ⟨ga, gc, eg, _⟩ := id hv.strings
  obtain ⟨na, nc, en, _⟩ := id hv.names
  obtain ⟨fa, fc, ef, _⟩ := id hv.funcs
  dsimp only at et es eg en ef
  subst et es eg en ef
  obtain ⟨B0, hB0⟩ : ∃ B0, B0 = H.push (.cells [.slice ta im.types.length tc, .slice sa im.shapes.length sc, .slice ga im.strings.length gc, .slice na im.names.length nc, .slice fa im.funcs.length fc, .int .i64 im.main, .int .i64 im.exn] 27 false) := ⟨_, rfl⟩
  have nB0 : B0.next = H.next + 1 := by rw [hB0]; simp
  have gB0 : B0.get H.next = some (.cells [.slice ta im.types.length tc, .slice sa im.shapes.length sc, .slice ga im.strings.length gc, .slice na im.names.length nc, .slice fa im.funcs.length fc, .int .i64 im.main, .int .i64 im.exn] 27 false) := by rw [hB0, IH.get_push_same]
  have sB0 : SameB lo H B0 := fun z hz => by rw [hB0, IH.get_push_other _ _ _ (by omega)]
  have fB0 : Fr H.next H B0 := by rw [hB0]; exact (Fr.refl _ _).push (Nat.le_refl _) _
  obtain ⟨M, hM⟩ : ∃ M, M = ((((((((B0.push (.cells [.slice ta im.types.length tc] 22 false)).push (.cells [.int .i64 1024] 3 false)).push (.cells [.slice sa im.shapes.length sc] 23 false)).push (.cells [.int .i64 512] 3 false)).push (.cells [.slice ga im.strings.length gc, .slice na im.names.length nc] 24 false)).push (.cells [.int .i64 256] 3 false)).push (.cells [.slice fa im.funcs.length fc] 25 false)).push (.cells [.int .i64 1024] 3 false)) := ⟨_, rfl⟩
  have fM : Fr B0.next B0 M := by
    rw [hM]
    repeat' first | exact Fr.refl _ _ | apply Fr.push | apply Fr.set
    all_goals first | omega | (simp <;> omega)
  have sM : SameB lo H M := fun z hz => (fM.2 z (by omega)).trans (sB0 z hz)
  have gM : M.get H.next = _ := (fM.2 H.next (by omega)).trans gB0
  have hv0 := hv.same sB0
  have hvM := hv.same sM
  have k2 : ¬ H.next = H.next + 1 + 1 := by omega
  have k3 : ¬ H.next = H.next + 1 + 1 + 1 := by omega
  have k4 : ¬ H.next = H.next + 1 + 1 + 1 + 1 := by omega
  have k5 : ¬ H.next = H.next + 1 + 1 + 1 + 1 + 1 := by omega
  have k6 : ¬ H.next = H.next + 1 + 1 + 1 + 1 + 1 + 1 := by omega
  have k7 : ¬ H.next = H.next + 1 + 1 + 1 + 1 + 1 + 1 + 1 := by omega
  have k8 : ¬ H.next = H.next + 1 + 1 + 1 + 1 + 1 + 1 + 1 + 1 := by omega
  unfold bigF
  simp only [ImV.val, ImV.cells]
  by_cases b1 : (1024 : Int) < im.types.length
  · have d1 : decide ((1024 : Int) < im.types.length) = true := decide_eq_true b1
    simp only [d1, Bool.true_or, Bool.or_true]
    simp [C70, regsOf, fin, iresult1, inew, Value.cells, IH.get_push, IH.get_set, iparts, -IH.next_set, -IH.next_push, nxs, nxp, k2, k3, k4, k5, k6, k7, k8, bs_type, ov_type, bs_shape, ov_shape, bs_strs, ov_strs, bs_func, ov_func, d1]
    repeat' first | exact Fr.refl _ _ | apply Fr.push | apply Fr.set
    all_goals first | omega | (simp <;> omega)
  have d1 : decide ((1024 : Int) < im.types.length) = false := decide_eq_false b1
  by_cases b2 : (512 : Int) < im.shapes.length
  · have d2 : decide ((512 : Int) < im.shapes.length) = true := decide_eq_true b2
    simp only [d1, d2, Bool.true_or, Bool.or_true]
    simp [C70, regsOf, fin, iresult1, inew, Value.cells, IH.get_push, IH.get_set, iparts, -IH.next_set, -IH.next_push, nxs, nxp, k2, k3, k4, k5, k6, k7, k8, bs_type, ov_type, bs_shape, ov_shape, bs_strs, ov_strs, bs_func, ov_func, d1, d2]
    repeat' first | exact Fr.refl _ _ | apply Fr.push | apply Fr.set
    all_goals first | omega | (simp <;> omega)
  have d2 : decide ((512 : Int) < im.shapes.length) = false := decide_eq_false b2
  by_cases b3 : (256 : Int) < im.strings.length ∨ (256 : Int) < im.names.length
  · have d3 : (decide ((256 : Int) < im.strings.length) || decide ((256 : Int) < im.names.length)) = true := by simpa using b3
    simp only [d1, d2, d3, Bool.true_or, Bool.or_true]
    simp [C70, regsOf, fin, iresult1, inew, Value.cells, IH.get_push, IH.get_set, iparts, -IH.next_set, -IH.next_push, nxs, nxp, k2, k3, k4, k5, k6, k7, k8, bs_type, ov_type, bs_shape, ov_shape, bs_strs, ov_strs, bs_func, ov_func, d1, d2, d3]
    repeat' first | exact Fr.refl _ _ | apply Fr.push | apply Fr.set
    all_goals first | omega | (simp <;> omega)
  have d3 : (decide ((256 : Int) < im.strings.length) || decide ((256 : Int) < im.names.length)) = false := by simpa using b3
  by_cases b4 : (1024 : Int) < im.funcs.length
  · have d4 : decide ((1024 : Int) < im.funcs.length) = true := decide_eq_true b4
    simp only [d1, d2, d3, d4, Bool.true_or, Bool.or_true]
    simp [C70, regsOf, fin, iresult1, inew, Value.cells, IH.get_push, IH.get_set, iparts, -IH.next_set, -IH.next_push, nxs, nxp, k2, k3, k4, k5, k6, k7, k8, bs_type, ov_type, bs_shape, ov_shape, bs_strs, ov_strs, bs_func, ov_func, d1, d2, d3, d4]
    repeat' first | exact Fr.refl _ _ | apply Fr.push | apply Fr.set
    all_goals first | omega | (simp <;> omega)
  have d4 : decide ((1024 : Int) < im.funcs.length) = false := decide_eq_false b4
  have hsl : im.strings.length ≤ 100000 ∧ im.names.length ≤ 100000 := by omega
  have w5 := c_wide hvM.strings hsl.1
  have w6 := c_wide hvM.names hsl.2
  dsimp only at w5 w6
  by_cases b5 : (im.strings.any fun s => decide ((16384 : Int) < s.size)) = true
  · rw [b5] at w5
    simp only [d1, d2, d3, d4, b5, Bool.true_or, Bool.or_true]
    simp [C70, regsOf, fin, iresult1, inew, Value.cells, IH.get_push, IH.get_set, iparts, -IH.next_set, -IH.next_push, nxs, nxp, k2, k3, k4, k5, k6, k7, k8, bs_type, ov_type, bs_shape, ov_shape, bs_strs, ov_strs, bs_func, ov_func, d1, d2, d3, d4, ← hB0, nB0, gB0, ← hM, gM, w5]
    exact fB0.trans (fM.of_le (by omega))
  rw [Bool.not_eq_true] at b5
  by_cases b6 : (im.names.any fun s => decide ((16384 : Int) < s.size)) = true
  · rw [b5] at w5
    rw [b6] at w6
    simp only [d1, d2, d3, d4, b5, b6, Bool.true_or, Bool.or_true]
    simp [C70, regsOf, fin, iresult1, inew, Value.cells, IH.get_push, IH.get_set, iparts, -IH.next_set, -IH.next_push, nxs, nxp, k2, k3, k4, k5, k6, k7, k8, bs_type, ov_type, bs_shape, ov_shape, bs_strs, ov_strs, bs_func, ov_func, d1, d2, d3, d4, ← hB0, nB0, gB0, ← hM, gM, w5, w6]
    exact fB0.trans (fM.of_le (by omega))
  rw [Bool.not_eq_true] at b6
  rw [b5] at w5
  rw [b6] at w6
  simp only [d1, d2, d3, d4, b5, b6, Bool.false_or]
  simp [C70, regsOf, fin, iresult1, inew, Value.cells, IH.get_push, IH.get_set, iparts, -IH.next_set, -IH.next_push, nxs, nxp, k2, k3, k4, k5, k6, k7, k8, bs_type, ov_type, bs_shape, ov_shape, bs_strs, ov_strs, bs_func, ov_func, d1, d2, d3, d4, ← hB0, nB0, gB0, ← hM, gM, w5, w6]
  have hlb : lo ≤ B0.next := by omega
  generalize hX : run J okAll (.loop L70_0) _ _ = X
  obtain ⟨T1, hT, a1, a2, a49, a50, a51⟩ : ∃ T1, run J okAll (.loop L70_0) T1 M = X ∧ T1.at 1 = ptrV H.next ∧ T1.at 2 = .bool false ∧ T1.at 49 = .slice ta im.types.length tc ∧ T1.at 50 = .int .i64 (im.types.length : Int) ∧ T1.at 51 = .int .i64 ((0 : Nat) : Int) := ⟨_, hX, by simp [ptrV], by simp, by simp, by simp, by simp⟩
  obtain ⟨T2, H2, f2, e⟩ := loop70t hv0.types hlb (by omega) (fun t => T1.at t) im.types 0 T1 M rfl (by omega) fM (fun t ht => rfl) a49 a50 a51
  have ff2 := fB0.trans (f2.of_le (lo := H.next) (by omega))
  rcases e with ⟨e1, e2, e3⟩ | ⟨e1, e2, e3⟩
  · have e2 := hT.symm.trans e2
    subst e2
    simp only [e1, Bool.true_or]
    simp [regsOf, fin, iresult1, e3]
    exact ff2
  have e2 := hT.symm.trans e2
  subst e2
  have c1 := (e3 1 (by omega)).trans a1
  have c2 := (e3 2 (by omega)).trans a2
  have g2 : H2.get H.next = _ := (f2.2 H.next (by omega)).trans gB0
  simp only [e1, Bool.false_or]
  simp only [ptrV] at c1
  simp [c1, g2]
  generalize hX2 : run J okAll (.loop L70_1) _ _ = X2
  obtain ⟨T3, hT3, a1', a2', a61, a62, a63⟩ : ∃ T3, run J okAll (.loop L70_1) T3 H2 = X2 ∧ T3.at 1 = ptrV H.next ∧ T3.at 2 = .bool false ∧ T3.at 61 = .slice sa im.shapes.length sc ∧ T3.at 62 = .int .i64 (im.shapes.length : Int) ∧ T3.at 63 = .int .i64 ((0 : Nat) : Int) := ⟨_, hX2, by simp [ptrV, c1], by simp [c2], by simp, by simp, by simp⟩
  obtain ⟨T4, H4, f4, e⟩ := loop70s hv0.shapes hlb (by omega) (fun t => T3.at t) im.shapes 0 T3 H2 rfl (by omega) f2 (fun t ht => rfl) a61 a62 a63
  have ff4 := fB0.trans (f4.of_le (lo := H.next) (by omega))
  rcases e with ⟨s1, s2, s3⟩ | ⟨s1, s2, s3⟩
  · have s2 := hT3.symm.trans s2
    subst s2
    simp only [s1, Bool.true_or]
    simp [regsOf, fin, iresult1, s3]
    exact ff4
  have s2 := hT3.symm.trans s2
  subst s2
  have c1' := (s3 1 (by omega)).trans a1'
  have c2' := (s3 2 (by omega)).trans a2'
  have g4 : H4.get H.next = _ := (f4.2 H.next (by omega)).trans gB0
  simp only [ptrV] at c1'
  simp only [s1, Bool.false_or]
  simp [c1', g4]
  generalize hX3 : run J okAll (.loop L70_4) _ _ = X3
  obtain ⟨T5, hT5, a2'', a7, a79, a80, a81⟩ : ∃ T5, run J okAll (.loop L70_4) T5 H4 = X3 ∧ T5.at 2 = .bool false ∧ T5.at 7 = .int .i64 20000 ∧ T5.at 79 = .slice fa im.funcs.length fc ∧ T5.at 80 = .int .i64 (im.funcs.length : Int) ∧ T5.at 81 = .int .i64 ((0 : Nat) : Int) := ⟨_, hX3, by simp [c2'], by simp, by simp, by simp, by simp⟩
  obtain ⟨T6, H6, f6, e⟩ := loop70f hv0.funcs hlb (by omega) hsm.code (fun t => T5.at t) im.funcs 0 T5 H4 20000 rfl (by omega) f4 (by omega) (fun t ht => rfl) a7 a79 a80 a81
  have ff6 := fB0.trans (f6.of_le (lo := H.next) (by omega))
  rcases e with ⟨s1, s2, s3⟩ | ⟨s1, s2, s3⟩
  · have s2 := hT5.symm.trans s2
    subst s2
    rw [s1]
    simp [regsOf, fin, iresult1, s3]
    exact ff6
  · have s2 := hT5.symm.trans s2
    subst s2
    have hn : (bigFns 20000 im.funcs).isNone = false := by
      cases hz : bigFns 20000 im.funcs with
      | none => rw [hz] at s1; simp at s1
      | some z => rfl
    rw [hn]
    simp [regsOf, fin, iresult1]
    exact ff6
end
end Go.Proofs.YtchlbfmjnhgpgaaGreat.Idl
namespace Go.Proofs.YtchlbfmjnhgpgaaGreat.Idl
open Go
set_option maxHeartbeats 8000000
set_option maxRecDepth 100000
set_option linter.unusedSimpArgs false
def oddCode (b : Bl) : Bool := b.code.any fun x => !plainF x
def oddFn (f : Fn) : Bool := f.blocks.any oddCode
def checkF (im : Img) : Int := if bigF im then 2 else if im.funcs.any oddFn then 1 else 0
theorem bigBlocks_ok : ∀ (bs : List Bl) (left l : Int), left ≤ 20000 → bigBlocks left bs = some l → l ≤ left ∧ ∀ b ∈ bs, b.code.length ≤ 20000 ∧ b.inn.length ≤ 200 ∧ b.code.any bigCode = false
  | [], left, l, _, h => by
    simp only [bigBlocks, Option.some.injEq] at h
    exact ⟨by omega, fun b hb => by simp at hb⟩
  | b :: bs, left, l, hl, h => by
    unfold bigBlocks at h
    split at h
    · simp at h
    · rename_i hc
      simp only [Bool.not_eq_true, Bool.or_eq_false_iff, decide_eq_false_iff_not] at hc
      obtain ⟨h1, h2⟩ := bigBlocks_ok bs _ l (by omega) h
      refine ⟨by omega, fun x hx => ?_⟩
      rcases List.mem_cons.1 hx with rfl | hx
      · exact ⟨by omega, by omega, hc.2⟩
      · exact h2 x hx
theorem bigFns_ok : ∀ (fs : List Fn) (left l : Int), left ≤ 20000 → bigFns left fs = some l → ∀ f ∈ fs, f.slots ≤ 200 ∧ f.params.length ≤ 200 ∧ f.blocks.length ≤ 2000 ∧ ∀ b ∈ f.blocks, b.code.length ≤ 20000 ∧ b.inn.length ≤ 200 ∧ b.code.any bigCode = false
  | [], left, l, _, h => fun f hf => by simp at hf
  | f :: fs, left, l, hl, h => by
    unfold bigFns at h
    split at h
    · simp at h
    · rename_i hc
      simp only [Bool.not_eq_true, Bool.or_eq_false_iff, decide_eq_false_iff_not] at hc
      cases hb : bigBlocks left f.blocks with
      | none => rw [hb] at h; simp at h
      | some l' =>
        rw [hb] at h
        obtain ⟨h1, h2⟩ := bigBlocks_ok f.blocks left l' hl hb
        intro x hx
        rcases List.mem_cons.1 hx with rfl | hx
        · exact ⟨by omega, by omega, by omega, h2⟩
        · exact bigFns_ok fs l' l (by omega) h x hx
theorem bigF_ok {im : Img} (h : bigF im = false) (hs : ImSm im) : ImOk im := by
  unfold bigF at h
  simp only [Bool.or_eq_false_iff, decide_eq_false_iff_not] at h
  obtain ⟨⟨⟨⟨⟨⟨⟨⟨h1, h2⟩, h3, h4⟩, h5⟩, h6⟩, h7⟩, h8⟩, h9⟩, h10⟩ := h
  cases hb : bigFns 20000 im.funcs with
  | none => rw [hb] at h10; simp at h10
  | some l =>
    have hf := bigFns_ok im.funcs 20000 l (by omega) hb
    refine ⟨fun x hx => ?_, by omega, by omega, fun x hx => ?_, fun x hx => ?_⟩
    · obtain ⟨f1, f2, f3, f4⟩ := hf x hx
      refine ⟨f1, f3, fun b hb => ?_⟩
      obtain ⟨b1, b2, b3⟩ := f4 b hb
      refine ⟨b1, fun y hy => ?_⟩
      rw [List.any_eq_false] at b3
      have hc := b3 y hy
      simp only [bigCode, Bool.not_eq_true, Bool.or_eq_false_iff, decide_eq_false_iff_not] at hc
      exact ⟨hs.num x hx b hb y hy, by omega, by omega, by omega⟩
    · rw [List.any_eq_false] at h9
      have hc := h9 x hx
      simp only [bigShape, Bool.not_eq_true, Bool.or_eq_false_iff, decide_eq_false_iff_not] at hc
      omega
    · rw [List.any_eq_false] at h6
      have hc := h6 x hx
      simp only [decide_eq_true_eq] at hc
      omega
section
variable {H : IH} {lo : Nat}
theorem loop38b {v : Value} {l : List Bl} (hv : LAt lo 2 (BlAt H lo) v l) (hlo : lo ≤ H.next) (hl : l.length ≤ 100000) (hsm : ∀ x ∈ l, x.code.length ≤ 100000) (K : Nat → Value) : ∀ (rest : List Bl) (i : Nat) (T : Regs) (H' : IH), l.drop i = rest → i ≤ l.length → Fr H.next H H' →
    (∀ t, t < 19 ∧ t ≠ 6 → T.at t = K t) → K 17 = v → K 18 = .int .i64 (l.length : Int) → T.at 19 = .int .i64 (i : Int) →
    ∃ T' H'', Fr H.next H H'' ∧ ((rest.any oddCode = true ∧ run J okAll (.loop L38_0) T H' = some (.ret, T', H'') ∧ T'.at 2 = .int .i64 1) ∨ (rest.any oddCode = false ∧ run J okAll (.loop L38_0) T H' = some (.exit 2, T', H'') ∧ (∀ t, t < 19 ∧ t ≠ 6 → T'.at t = K t))) := by
  intro rest
  induction rest with
  | nil =>
    intro i T H' hr hi hf hK tv tl ti
    have : i = l.length := by have := congrArg List.length hr; simp at this; omega
    subst this
    have tl := (hK 18 (by omega)).trans tl
    obtain ⟨T', key⟩ : ∃ T', run J okAll (.loop L38_0) T H' = some (.exit 2, T', H') ∧ (∀ t, t < 19 ∧ t ≠ 6 → T'.at t = K t) := by
      rw [r_loop]
      simp [L38_0, tl, ti]
      exact fun t h1 h2 => by simp (disch := omega) only [at_set_om]; exact hK t ⟨h1, h2⟩
    exact ⟨T', H', hf, .inr ⟨rfl, key⟩⟩
  | cons x rest ih =>
    intro i T H' hr hi hf hK tv tl ti
    have hlt : i < l.length := by have := congrArg List.length hr; simp at this; omega
    have hj : l[i]? = some x := by have := congrArg (fun u => u[0]?) hr; simpa using this
    have hr2 : l.drop (i + 1) = rest := by rw [← List.tail_drop, hr]; rfl
    have tv' := (hK 17 (by omega)).trans tv
    have tl' := (hK 18 (by omega)).trans tl
    obtain ⟨b, o, c, rfl, hb, _, hcell⟩ := hv.get hj
    have hsb : SameB lo H H' := fun z hz => hf.2 z (Nat.lt_of_lt_of_le hz hlo)
    have hw1 : IntKind.i64.wrap ((i : Int) + 1) = ((i + 1 : Nat) : Int) := by rw [wrap64 _ (by omega) (by omega)]; simp
    have hn := hf.1
    obtain ⟨cs, pr, vi, vc, g0, g1, g2, g3, g4⟩ := hcell.ex
    replace g0 := (hsb b hb).trans g0
    obtain ⟨ia, ic, rfl, _⟩ := id g3
    obtain ⟨ca, cc, rfl, _⟩ := id g4
    have hco : cellsOf (some (.cells cs 56 pr)) (o + i * 2) 2 = some [.slice ia x.inn.length ic, .slice ca x.code.length cc] := cellsOf_of rfl (by omega) fun j hj => by
      match j, hj with
      | 0, _ => simpa using g1
      | 1, _ => simpa using g2
    obtain ⟨G, hG⟩ : ∃ G, G = (H'.push (.cells [.slice none 0 0, .slice none 0 0] 56 false)).set H'.next (.cells [.slice ia x.inn.length ic, .slice ca x.code.length cc] 56 false) := ⟨_, rfl⟩
    have fG : Fr H.next H G := by rw [hG]; exact (hf.push (by omega) _).set (by omega) _
    have gG : G.get H'.next = some (.cells [.slice ia x.inn.length ic, .slice ca x.code.length cc] 56 false) := by rw [hG, IH.get_set, if_pos rfl]
    have hsG : SameB lo H G := fun z hz => fG.2 z (Nat.lt_of_lt_of_le hz hlo)
    obtain ⟨H2, f2, cp⟩ := c_plains (H := G) (lo := lo) (g4.mono fun _ _ _ hb hx => InsAt.same hx hsG hb) (by have := fG.1; omega) (hsm x (List.mem_of_getElem? hj))
    have ff := fG.trans (f2.of_le fG.1)
    simp only [List.any_cons]
    cases hp : oddCode x with
    | true =>
      have cp : cal J okAll 71 #[.slice ca x.code.length cc, .func (.func 72) #[] #[]] G = some (.ret (.bool (oddCode x)), H2) := cp
      rw [hp] at cp
      obtain ⟨T', key⟩ : ∃ T', run J okAll (.loop L38_0) T H' = some (.ret, T', H2) ∧ T'.at 2 = .int .i64 1 := by
        rw [r_loop]
        simp [L38_0, tv', tl', ti, hlt, iindexAddr, g0, hco, loadT_agg, inew, istore, Value.cells, plain1, overlay, IH.get_push, ← hG, gG, cp]
      exact ⟨T', H2, ff, .inl ⟨by simp, key⟩⟩
    | false =>
      have cp : cal J okAll 71 #[.slice ca x.code.length cc, .func (.func 72) #[] #[]] G = some (.ret (.bool (oddCode x)), H2) := cp
      rw [hp] at cp
      obtain ⟨T1, s1, s2, s3⟩ : ∃ T1, run J okAll (.loop L38_0) T H' = run J okAll (.loop L38_0) T1 H2 ∧ (∀ t, t < 19 ∧ t ≠ 6 → T1.at t = K t) ∧ T1.at 19 = .int .i64 ((i + 1 : Nat) : Int) := by
        rw [r_loop]
        simp [L38_0, tv', tl', ti, hlt, iindexAddr, g0, hco, loadT_agg, inew, istore, Value.cells, plain1, overlay, IH.get_push, ← hG, gG, cp, hw1]
        exact ⟨_, rfl, fun t h1 h2 => by simp (disch := omega) only [at_set_om]; exact hK t ⟨h1, h2⟩, by simp⟩
      rw [s1]
      simp only [Bool.false_or]
      exact ih (i + 1) T1 H2 hr2 (by omega) ff s2 tv tl s3
end
end Go.Proofs.YtchlbfmjnhgpgaaGreat.Idl
namespace Go.Proofs.YtchlbfmjnhgpgaaGreat.Idl
open Go
set_option maxHeartbeats 8000000
set_option maxRecDepth 100000
set_option linter.unusedSimpArgs false
section
variable {H : IH} {lo : Nat}
theorem loop38f {v : Value} {l : List Fn} (hv : LAt lo 4 (FnAt H lo) v l) (hlo : lo ≤ H.next) (hl : l.length ≤ 100000) (hlim : ∀ x ∈ l, FnLim x) (K : Nat → Value) : ∀ (rest : List Fn) (i : Nat) (T : Regs) (H' : IH), l.drop i = rest → i ≤ l.length → Fr H.next H H' →
    (∀ t, t < 12 ∧ t ≠ 4 ∧ t ≠ 6 → T.at t = K t) → K 10 = v → K 11 = .int .i64 (l.length : Int) → T.at 12 = .int .i64 (i : Int) →
    ∃ T' H'', Fr H.next H H'' ∧ ((rest.any oddFn = true ∧ run J okAll (.loop L38_1) T H' = some (.ret, T', H'') ∧ T'.at 2 = .int .i64 1) ∨ (rest.any oddFn = false ∧ run J okAll (.loop L38_1) T H' = some (.exit 0, T', H''))) := by
  intro rest
  induction rest with
  | nil =>
    intro i T H' hr hi hf hK tv tl ti
    have : i = l.length := by have := congrArg List.length hr; simp at this; omega
    subst this
    have tl := (hK 11 (by omega)).trans tl
    obtain ⟨T', key⟩ : ∃ T', run J okAll (.loop L38_1) T H' = some (.exit 0, T', H') := by
      rw [r_loop]
      simp [L38_1, tl, ti]
    exact ⟨T', H', hf, .inr ⟨rfl, key⟩⟩
  | cons x rest ih =>
    intro i T H' hr hi hf hK tv tl ti
    have hlt : i < l.length := by have := congrArg List.length hr; simp at this; omega
    have hj : l[i]? = some x := by have := congrArg (fun u => u[0]?) hr; simpa using this
    have hr2 : l.drop (i + 1) = rest := by rw [← List.tail_drop, hr]; rfl
    have tv' := (hK 10 (by omega)).trans tv
    have tl' := (hK 11 (by omega)).trans tl
    obtain ⟨b, o, c, rfl, hb, _, hcell⟩ := hv.get hj
    have hsb : SameB lo H H' := fun z hz => hf.2 z (Nat.lt_of_lt_of_le hz hlo)
    have hw1 : IntKind.i64.wrap ((i : Int) + 1) = ((i + 1 : Nat) : Int) := by rw [wrap64 _ (by omega) (by omega)]; simp
    have hn := hf.1
    have hlx := hlim x (List.mem_of_getElem? hj)
    obtain ⟨cs, pr, vp, vb, g0, g1, g2, g3, g4, g5, g6⟩ := hcell.ex
    replace g0 := (hsb b hb).trans g0
    obtain ⟨pa, pc, rfl, _⟩ := id g5
    obtain ⟨ba, bc, rfl, _⟩ := id g6
    have hco : cellsOf (some (.cells cs 59 pr)) (o + i * 4) 4 = some [.slice pa x.params.length pc, .int .i64 x.result, .int .i64 x.slots, .slice ba x.blocks.length bc] := cellsOf_of rfl (by omega) fun j hj => by
      match j, hj with
      | 0, _ => simpa using g1
      | 1, _ => simpa using g2
      | 2, _ => simpa using g3
      | 3, _ => simpa using g4
    obtain ⟨T2, G, eq, hF, f2, f12, f17, f18, f19⟩ : ∃ T2 G, run J okAll (.loop L38_1) T H' = rseq J okAll (.loop L38_1) (rseq J okAll (.region 12 #[Idl.o 27 (.binOp .add 3 (.tmp 12) (xi 1) 3) 3, Idl.o 12 (.move (.tmp 27)) 3] false) (blockOut 1 (blockOut 2 (run J okAll (.loop L38_0) T2 G)))) ∧ Fr H.next H G ∧
        (∀ t, t < 12 ∧ t ≠ 4 ∧ t ≠ 6 → T2.at t = K t) ∧ T2.at 12 = .int .i64 (i : Int) ∧ T2.at 17 = .slice ba x.blocks.length bc ∧ T2.at 18 = .int .i64 (x.blocks.length : Int) ∧ T2.at 19 = .int .i64 ((0 : Nat) : Int) := by
      rw [r_loop]
      simp [L38_1, tv', tl', ti, hlt, iindexAddr, g0, hco, loadT_agg, inew, istore, Value.cells, plain1, overlay, IH.get_push, IH.get_set]
      refine ⟨_, _, rfl, ?_, fun t h1 h2 h3 => by simp (disch := omega) only [at_set_om]; exact hK t ⟨h1, h2, h3⟩, by simp [ti], by simp, by simp, by simp⟩
      repeat' first | exact hf | apply Fr.push | apply Fr.set
      all_goals first | omega | (simp <;> omega)
    obtain ⟨T3, H3, f3, d⟩ := loop38b g6 hlo (by have := hlx.blocks; omega) (fun y hy => by have := (hlx.code y hy).1; omega) (fun t => T2.at t) x.blocks 0 T2 G rfl (by omega) hF (fun t ht => rfl) f17 f18 f19
    simp only [List.any_cons]
    have hof : oddFn x = x.blocks.any oddCode := rfl
    rcases d with ⟨d1, d2, d3⟩ | ⟨d1, d2, d3⟩
    · refine ⟨T3, H3, f3, .inl ⟨by rw [hof, d1, Bool.true_or], ?_, d3⟩⟩
      rw [eq, d2]
      simp
    · rw [d2] at eq
      have k12 := (d3 12 (by omega)).trans f12
      obtain ⟨T4, e4, q1, q3⟩ : ∃ T4, rseq J okAll (.loop L38_1) (rseq J okAll (.region 12 #[Idl.o 27 (.binOp .add 3 (.tmp 12) (xi 1) 3) 3, Idl.o 12 (.move (.tmp 27)) 3] false) (blockOut 1 (blockOut 2 (some (.exit 2, T3, H3))))) = run J okAll (.loop L38_1) T4 H3 ∧
          (∀ t, t < 12 ∧ t ≠ 4 ∧ t ≠ 6 → T4.at t = K t) ∧ T4.at 12 = .int .i64 ((i + 1 : Nat) : Int) := by
        simp [k12, hw1]
        exact ⟨_, rfl, fun t h1 h2 h3 => by simp (disch := omega) only [at_set_om]; exact (d3 t (by omega)).trans (f2 t ⟨h1, h2, h3⟩), by simp⟩
      obtain ⟨T', H'', f, d⟩ := ih (i + 1) T4 H3 hr2 (by omega) f3 q1 tv tl q3
      rw [eq.trans e4, hof, d1, Bool.false_or]
      exact ⟨T', H'', f, d⟩
theorem c_Check {u : ImV} {im : Img} (hv : ImvAt H lo u im) (hlo : lo ≤ H.next) (hsm : ImSm im) : ∃ H', Fr H.next H H' ∧ cal J okAll 38 #[u.val im] H = some (.ret (.int .i64 (checkF im)), H') := by
  rw [cal38 _ _ (by simp)]
  obtain ⟨B0, hB0⟩ : ∃ B0, B0 = H.push (.cells (ImV.cells u im) 27 false) := ⟨_, rfl⟩
  have nB0 : B0.next = H.next + 1 := by rw [hB0]; simp
  have gB0 : B0.get H.next = some (.cells (ImV.cells u im) 27 false) := by rw [hB0, IH.get_push_same]
  have sB0 : SameB lo H B0 := fun z hz => by rw [hB0, IH.get_push_other _ _ _ (by omega)]
  have fB0 : Fr H.next H B0 := by rw [hB0]; exact (Fr.refl _ _).push (Nat.le_refl _) _
  have hv0 := hv.same sB0
  obtain ⟨H1, f1, c1⟩ := c_big hv0 (by omega) hsm
  obtain ⟨fa, fc, ef, _⟩ := id hv.funcs
  have g1 : H1.get H.next = _ := (f1.2 H.next (by omega)).trans gB0
  have ff1 := fB0.trans (f1.of_le (lo := H.next) (by omega))
  unfold checkF
  simp only [ImV.val, ImV.cells] at c1 g1 gB0 hB0 ⊢
  obtain ⟨ta, tc, et, _⟩ := id hv.types
  obtain ⟨sa, sc, es, _⟩ := id hv.shapes
  obtain ⟨ga, gc, eg, _⟩ := id hv.strings
  obtain ⟨na, nc, en, _⟩ := id hv.names
  rw [et, es, eg, en, ef] at c1 g1 gB0 hB0 ⊢
  cases hb : bigF im with
  | true =>
    rw [hb] at c1
    simp only [if_true]
    simp [C38, regsOf, fin, iresult1, inew, Value.cells, ← hB0, gB0, loadT_agg, c1]
    exact ff1
  | false =>
    rw [hb] at c1
    have hok := bigF_ok hb hsm
    simp only [Bool.false_eq_true, if_false]
    obtain ⟨od, hod⟩ : ∃ od, od = im.funcs.any oddFn := ⟨_, rfl⟩
    rw [← hod]
    simp [C38, regsOf, fin, iresult1, inew, Value.cells, ← hB0, gB0, loadT_agg, c1, g1]
    generalize hX : run J okAll (.loop L38_1) _ _ = X
    obtain ⟨T1, hT, a10, a11, a12⟩ : ∃ T1, run J okAll (.loop L38_1) T1 H1 = X ∧ T1.at 10 = u.funcs ∧ T1.at 11 = .int .i64 (im.funcs.length : Int) ∧ T1.at 12 = .int .i64 ((0 : Nat) : Int) := ⟨_, hX, by simp [ef], by simp, by simp⟩
    obtain ⟨T2, H2, f2, e⟩ := loop38f hv0.funcs (by omega) (by have := hok.fnum; omega) hok.funcs (fun t => T1.at t) im.funcs 0 T1 H1 rfl (by omega) f1 (fun t ht => rfl) a10 a11 a12
    have ff2 := fB0.trans (f2.of_le (lo := H.next) (by omega))
    rcases e with ⟨e1, e2, e3⟩ | ⟨e1, e2⟩
    · have e2 := hT.symm.trans e2
      subst e2
      rw [← hod] at e1
      subst e1
      simp [regsOf, fin, iresult1, e3]
      exact ff2
    · have e2 := hT.symm.trans e2
      subst e2
      rw [← hod] at e1
      subst e1
      simp [regsOf, fin, iresult1]
      exact ff2
end
end Go.Proofs.YtchlbfmjnhgpgaaGreat.Idl
namespace Go.Proofs.YtchlbfmjnhgpgaaGreat.Idl
open Go
set_option maxHeartbeats 8000000
set_option maxRecDepth 100000
set_option linter.unusedSimpArgs false
def Shp.ly (s : Shp) : Int × Int := (s.kind, if s.kind = 1 then (s.fields.length : Int) else 0)
theorem bs_ly (H : IH) (x y : Int) : ibuildSlice J 125 1 [(0, .agg #[.int .i64 x, .int .i64 y])] H = some (.slice (some ⟨H.next, 0, none⟩) 1 1, H.push (.cells [.int .i64 x, .int .i64 y] 127 false)) := by kernel_rfl
theorem bl_ly (x : Int) : ibuild J 127 [(0, .int .i64 x)] = some (.agg #[.int .i64 x, .int .i64 0]) := by kernel_rfl
def LySAt (H : IH) (lo : Nat) (v : Value) (l : List (Int × Int)) : Prop := (v = .slice none 0 0 ∧ l = []) ∨ ∃ b, lo ≤ b ∧ b < H.next ∧ v = .slice (some ⟨b, 0, none⟩) l.length capU ∧ H.get b = some (.cells (lyc l) 127 false)
theorem LySAt.at {H : IH} {lo : Nat} {v : Value} {l : List (Int × Int)} (h : LySAt H lo v l) : LyAt H v l := by
  rcases h with ⟨rfl, rfl⟩ | ⟨b, h1, h2, rfl, h4⟩
  · exact ⟨none, 0, rfl, fun h => by simp at h⟩
  · exact ⟨_, _, rfl, fun _ => ⟨b, rfl, h2, h4⟩⟩
theorem LySAt.fr {H H' : IH} {lo : Nat} {v : Value} {l : List (Int × Int)} (h : LySAt H lo v l) (f : Fr H.next H H') : LySAt H' lo v l := by
  rcases h with h | ⟨b, h1, h2, h3, h4⟩
  · exact .inl h
  · exact .inr ⟨b, h1, Nat.lt_of_lt_of_le h2 f.1, h3, (f.2 b h2).trans h4⟩
theorem app_ly {H : IH} {lo : Nat} {u : Value} {l : List (Int × Int)} (h : LySAt H lo u l) (hlo : lo ≤ H.next) (hl : l.length ≤ 1000000) (x y : Int) :
    ∃ u' H', iappend J #[125, 125] u (.slice (some ⟨H.next, 0, none⟩) 1 1) (H.push (.cells [.int .i64 x, .int .i64 y] 127 false)) = some (u', H') ∧ LySAt H' lo u' (l ++ [(x, y)]) ∧ Fr lo H H' := by
  have h1 : icells (H.push (.cells [.int .i64 x, .int .i64 y] 127 false)) ⟨H.next, 0, none⟩ (1 * 2) = some [.int .i64 x, .int .i64 y] := by simp [IH.get_push]
  have hn : (H.push (.cells [.int .i64 x, .int .i64 y] 127 false)).next = H.next + 1 := by simp
  rcases h with ⟨rfl, rfl⟩ | ⟨b, b1, b2, rfl, b4⟩
  · have := app_nil st_ly (c := 1) h1 (by simp) (by omega) (by omega)
    rw [hn] at this
    refine ⟨_, _, this, .inr ⟨H.next + 1, by omega, by simp, by simp, ?_⟩, ((Fr.refl _ _).push hlo _).push (by simp; omega) _⟩
    rw [show H.next + 1 = (H.push (.cells [.int .i64 x, .int .i64 y] 127 false)).next by simp, IH.get_push_same]; rfl
  · have hg : (H.push (.cells [.int .i64 x, .int .i64 y] 127 false)).get b = some (.cells (lyc l) 127 false) := by rw [IH.get_push_other _ _ _ b2]; exact b4
    have := app_some st_ly (c := 1) (len := l.length) h1 (by simp) (by omega) (by omega) hg (by rw [lyc_len]; omega) (by simp [plain1])
    rw [hn] at this
    refine ⟨_, _, this, .inr ⟨H.next + 1, by omega, by simp, by simp, ?_⟩, (((Fr.refl _ _).push hlo _).set b1 _).push (by simp; omega) _⟩
    rw [show H.next + 1 = ((H.push (.cells [.int .i64 x, .int .i64 y] 127 false)).set b .dead).next by simp, IH.get_push_same]
    rw [List.take_of_length_le (by rw [lyc_len]; omega)]; simp [lyc]
section
variable {H : IH} {lo : Nat}
theorem loop36 {v : Value} {l : List Shp} (hv : LAt lo 3 (ShpAt H lo) v l) (hlo : lo ≤ H.next) (hl : l.length ≤ 100000) (K : Nat → Value) : ∀ (rest : List Shp) (i : Nat) (T : Regs) (H' : IH), l.drop i = rest → i ≤ l.length → Fr H.next H H' →
    (∀ t, t < 2 → T.at t = K t) → LySAt H' H.next (T.at 2) ((l.take i).map Shp.ly) → T.at 24 = v → T.at 25 = .int .i64 (l.length : Int) → T.at 26 = .int .i64 (i : Int) →
    ∃ T' H'', Fr H.next H H'' ∧ run J okAll (.loop L36_0) T H' = some (.exit 0, T', H'') ∧ (∀ t, t < 2 → T'.at t = K t) ∧ LySAt H'' H.next (T'.at 2) (l.map Shp.ly) := by
  intro rest
  induction rest with
  | nil =>
    intro i T H' hr hi hf hK hly tv tl ti
    have : i = l.length := by have := congrArg List.length hr; simp at this; omega
    subst this
    rw [List.take_length] at hly
    obtain ⟨T', key⟩ : ∃ T', run J okAll (.loop L36_0) T H' = some (.exit 0, T', H') ∧ (∀ t, t < 2 → T'.at t = K t) ∧ T'.at 2 = T.at 2 := by
      rw [r_loop]
      simp [L36_0, tv, tl, ti]
      exact fun t ht => by simp (disch := omega) only [at_set_om]; exact hK t ht
    exact ⟨T', H', hf, key.1, key.2.1, by rw [key.2.2]; exact hly⟩
  | cons x rest ih =>
    intro i T H' hr hi hf hK hly tv tl ti
    have hlt : i < l.length := by have := congrArg List.length hr; simp at this; omega
    have hj : l[i]? = some x := by have := congrArg (fun u => u[0]?) hr; simpa using this
    have hr2 : l.drop (i + 1) = rest := by rw [← List.tail_drop, hr]; rfl
    have htk : (l.take (i + 1)).map Shp.ly = (l.take i).map Shp.ly ++ [x.ly] := by rw [List.take_add_one, hj]; simp
    obtain ⟨b, o, c, rfl, hb, _, hcell⟩ := hv.get hj
    have hsb : SameB lo H H' := fun z hz => hf.2 z (Nat.lt_of_lt_of_le hz hlo)
    have hw1 : IntKind.i64.wrap ((i : Int) + 1) = ((i + 1 : Nat) : Int) := by rw [wrap64 _ (by omega) (by omega)]; simp
    have hn := hf.1
    obtain ⟨cs, pr, vf, g0, g1, g2, g3, g4⟩ := hcell.ex
    replace g0 := (hsb b hb).trans g0
    obtain ⟨sa, sc, rfl, _⟩ := id g4
    have hco : cellsOf (some (.cells cs 90 pr)) (o + i * 3) 3 = some [.int .i64 x.kind, .slice sa x.fields.length sc, .string x.name] := cellsOf_of rfl (by omega) fun j hj => by
      match j, hj with
      | 0, _ => simpa using g1
      | 1, _ => simpa using g2
      | 2, _ => simpa using g3
    have nx2 : ¬ H'.next = H'.next + 1 + 1 := by omega
    obtain ⟨G, hG⟩ : ∃ G, G = ((((H'.push (.cells [.int .i64 0, .slice none 0 0, .string ⟨#[]⟩] 90 false)).set H'.next (.cells [.int .i64 x.kind, .slice sa x.fields.length sc, .string x.name] 90 false)).push (.cells [.int .i64 0, .int .i64 0] 127 false)).set (H'.next + 1) (.cells [.int .i64 x.ly.1, .int .i64 x.ly.2] 127 false)) := ⟨_, rfl⟩
    have fG : Fr H'.next H' G := by
      rw [hG]
      repeat' first | exact Fr.refl _ _ | apply Fr.push | apply Fr.set
      all_goals first | omega | (simp <;> omega)
    have nG : G.next = H'.next + 2 := by rw [hG]; simp
    have gG : G.get (H'.next + 1) = some (.cells [.int .i64 x.ly.1, .int .i64 x.ly.2] 127 false) := by rw [hG, IH.get_set, if_pos rfl]
    obtain ⟨u', H2, a1, a2, a3⟩ := app_ly (hly.fr fG) (by omega) (by simp; omega) x.ly.1 x.ly.2
    rw [nG] at a1
    have gG0 : G.get H'.next = some (.cells [.int .i64 x.kind, .slice sa x.fields.length sc, .string x.name] 90 false) := by
      rw [hG, IH.get_set, if_neg (by omega), IH.get_push_other _ _ _ (by simp), IH.get_set, if_pos rfl]
    have ff : Fr H.next H H2 := (hf.trans (fG.of_le hn)).trans a3
    have hgo : ∃ T1, run J okAll (.loop L36_0) T H' = run J okAll (.loop L36_0) T1 H2 ∧ (∀ t, t < 2 → T1.at t = K t) ∧ T1.at 2 = u' ∧ T1.at 24 = .slice (some ⟨b, o, none⟩) l.length c ∧ T1.at 25 = .int .i64 (l.length : Int) ∧ T1.at 26 = .int .i64 ((i + 1 : Nat) : Int) := by
      by_cases hk : x.kind = 1
      · have hkd : decide (x.kind = 1) = true := decide_eq_true hk
        have hly2 : x.ly = (x.kind, (x.fields.length : Int)) := by unfold Shp.ly; rw [if_pos hk]
        rw [hly2] at hG gG a1
        dsimp only at hG gG a1
        rw [r_loop]
        simp [L36_0, tv, tl, ti, hlt, iindexAddr, g0, hco, loadT_agg, inew, istore, Value.cells, plain1, overlay, IH.get_push, IH.get_set, iparts, bl_ly, bs_ly, nx2, hkd, ← hG, gG, gG0, nG, a1, hw1]
        exact ⟨_, rfl, fun t ht => by simp (disch := omega) only [at_set_om]; exact hK t ht, by simp, by simp [tv], by simp [tl], by simp⟩
      · have hkd : decide (x.kind = 1) = false := decide_eq_false hk
        have hly2 : x.ly = (x.kind, 0) := by unfold Shp.ly; rw [if_neg hk]
        rw [hly2] at hG gG a1
        dsimp only at hG gG a1
        rw [r_loop]
        simp [L36_0, tv, tl, ti, hlt, iindexAddr, g0, hco, loadT_agg, inew, istore, Value.cells, plain1, overlay, IH.get_push, IH.get_set, iparts, bl_ly, bs_ly, nx2, hkd, ← hG, gG, gG0, nG, a1, hw1]
        exact ⟨_, rfl, fun t ht => by simp (disch := omega) only [at_set_om]; exact hK t ht, by simp, by simp [tv], by simp [tl], by simp⟩
    obtain ⟨T1, s1, s2, s3, s4, s5, s6⟩ := hgo
    rw [s1]
    exact ih (i + 1) T1 H2 hr2 (by omega) ff s2 (by rw [s3, htk]; exact a2) s4 s5 s6
end
end Go.Proofs.YtchlbfmjnhgpgaaGreat.Idl
namespace Go.Proofs.YtchlbfmjnhgpgaaGreat.Idl
open Go
set_option maxHeartbeats 8000000
set_option maxRecDepth 100000
set_option linter.unusedSimpArgs false
structure Scr where
  input : List Nat
  fuel : Nat
  heap : Nat
  stack : Nat
  collect : List Bool
def Img.start (im : Img) (s : Scr) : Mst := ⟨s.fuel, s.heap, s.stack, s.input, s.collect, .new s.heap (im.shapes.map Shp.ly), [], 0, 0, 0, [], ⟨#[]⟩, 0, 0⟩
def cells0 (mp : Nat) (iv cv : Value) (s : Scr) : List Value := [ptrV mp, iv, .int .i64 (s.fuel : Int), .int .i64 (s.heap : Int), .int .i64 (s.stack : Int), cv, .pointer none, .slice none 0 0, .int .i64 0, .int .i64 0, .int .i64 0, .int .i64 0, .slice none 0 0, .string ⟨#[]⟩, .int .i64 0, .int .i64 0]
def mainOk (im : Img) : Bool := decide (0 ≤ im.main) && decide (im.main < im.funcs.length) && ((im.funcs[im.main.toNat]?).map fun f => f.params.isEmpty).getD false
def beginOk (im : Img) : Bool := decide (checkF im = 0) && (im.shapes.map Shp.ly).all lyOk && mainOk im
structure ScrOk (s : Scr) : Prop where
  fuel : s.fuel ≤ 16777216
  heap : s.heap ≤ 65536
  stack : s.stack ≤ 65536
  input : s.input.length ≤ 4611686018427387904 ∧ ∀ c ∈ s.input, c < 256
section
variable {H : IH} {lo : Nat} {im : Img} {s : Scr}
theorem checkF_ok (h : checkF im = 0) (hs : ImSm im) : ImOk im := by
  unfold checkF at h
  cases hb : bigF im with
  | true => rw [hb] at h; simp at h
  | false => exact bigF_ok hb hs
theorem start_at {mp p : Nat} {a : HpA} {iv cv : Value} (hi : ImgAt H lo mp im) (hin : LAt lo 1 (CellAt H 5 byteV) iv s.input) (hcl : LAt lo 1 (CellAt H 4 Value.bool) cv s.collect) (hs : ScrOk s) (hok : ImOk im) (hlo : lo ≤ H.next)
    (hp : HpAt H a (.new s.heap (im.shapes.map Shp.ly))) {n0 : Nat} (h1 : n0 ≤ a.p) (h2 : n0 ≤ a.wb) (h3 : n0 ≤ a.hb) (h4 : ∀ lb l c, a.lv = .slice (some ⟨lb, 0, none⟩) l c → n0 ≤ lb) (hpl : lo ≤ p ∧ p < n0) (hpn : p < H.next)
    (ho : H.get p = some (.cells (({ p := p, mp := mp, hp := a, iv := iv, cv := cv, fv := .slice none 0 0, ov := .slice none 0 0, fr := [] } : VA).cells (im.start s)) 84 false)) :
    VmAt H lo im { p := p, mp := mp, hp := a, iv := iv, cv := cv, fv := .slice none 0 0, ov := .slice none 0 0, fr := [] } (im.start s) := by
  have hb : ∀ x ∈ bOf a.lv, ∃ l c, a.lv = .slice (some ⟨x, 0, none⟩) l c ∧ n0 ≤ x ∧ x < H.next := by
    intro x hx
    rcases hp.ly with ⟨e, _⟩ | ⟨lb, e, e2⟩
    · rw [e] at hx; simp [bOf] at hx
    · rw [e] at hx
      simp only [bOf_some, List.mem_singleton] at hx
      subst hx
      exact ⟨_, _, e, h4 _ _ _ e, hp.lt.2.2.2 _ _ _ e⟩
  have hown : ({ p := p, mp := mp, hp := a, iv := iv, cv := cv, fv := .slice none 0 0, ov := .slice none 0 0, fr := [] } : VA).own = p :: a.p :: a.wb :: a.hb :: bOf a.lv := by simp [VA.own, bOf, frOwn]
  refine ⟨ho, hi, hp, hin, hcl, .nil, .inl ⟨rfl, rfl⟩, .inl ⟨rfl, rfl⟩, ?_, ?_, hlo, ⟨rfl, ⟨?_, ?_⟩, ?_, ⟨?_, ?_⟩, ?_, Nat.le_refl _, Nat.le_refl _, Nat.le_refl _, Nat.zero_le _, hs.input.1, hs.input.2⟩, hok⟩
  · rw [hown]
    have hne := hp.ne1
    have hne2 := hp.ne2
    have hsep := hp.sep
    have hlb : ∀ x ∈ bOf a.lv, x ≠ a.wb ∧ x ≠ a.hb ∧ x ≠ a.p := fun x hx => by
      obtain ⟨l, c, e, _⟩ := hb x hx
      exact hp.ne3 e
    have hnd : (bOf a.lv).Nodup := by
      unfold bOf
      split <;> simp
    simp only [List.nodup_cons, List.mem_cons, not_or]
    refine ⟨⟨by omega, by omega, by omega, fun hx => ?_⟩, ⟨hne, hne2, fun hx => (hlb _ hx).2.2 rfl⟩, ⟨hsep, fun hx => (hlb _ hx).1 rfl⟩, fun hx => (hlb _ hx).2.1 rfl, hnd⟩
    obtain ⟨l, c, e, e2, _⟩ := hb _ hx
    omega
  · rw [hown]
    intro x hx
    have hlt := hp.lt
    simp only [List.mem_cons] at hx
    rcases hx with rfl | rfl | rfl | rfl | hx
    · omega
    · have := hlt.1; omega
    · have := hlt.2.1; omega
    · have := hlt.2.2.1; omega
    · obtain ⟨l, c, e, e2, e3⟩ := hb _ hx; omega
  · simp only [Img.start]; have := hs.stack; omega
  · simp only [Img.start]; omega
  · simp only [Img.start]; omega
  · simp only [Img.start]; omega
  · simp only [Img.start]; have := hs.fuel; omega
  · simp only [Img.start]; omega
end
end Go.Proofs.YtchlbfmjnhgpgaaGreat.Idl
namespace Go.Proofs.YtchlbfmjnhgpgaaGreat.Idl
open Go
set_option maxHeartbeats 8000000
set_option maxRecDepth 100000
set_option linter.unusedSimpArgs false
section
variable {H : IH} {lo : Nat} {im : Img} {s : Scr}
theorem m_begin {p mp : Nat} {iv cv : Value} (hi : ImgAt H lo mp im) (hin : LAt lo 1 (CellAt H 5 byteV) iv s.input) (hcl : LAt lo 1 (CellAt H 4 Value.bool) cv s.collect) (hs : ScrOk s) (hsm : ImSm im) (hlo : lo ≤ H.next) (hp : lo ≤ p ∧ p < H.next)
    (ho : H.get p = some (.cells (cells0 mp iv cv s) 84 false)) :
    (beginOk im = false → ∃ H', cal J okAll 36 #[ptrV p] H = some (.pan (overV 6), H') ∧ Fr H.next H H') ∧
    (beginOk im = true → ∀ r σ', vCall im im.main [] (im.start s) = some (r, σ') → ∃ H' A' e, cal J okAll 36 #[ptrV p] H = some (e, H') ∧ A'.p = p ∧ VmAt H' lo im A' σ' ∧ H.next ≤ H'.next ∧ (∀ x, x < H.next → x ≠ p → H'.get x = H.get x) ∧ RV UnitV H' A' r e ∧ (∀ x ∈ A'.own, x = p ∨ H.next ≤ x)) := by
  rw [cal36 _ _ (by simp)]
  obtain ⟨hmp, u, pr, hg, hv⟩ := hi
  have hmpn : mp < H.next := by omega
  obtain ⟨ta, tc, et, _⟩ := id hv.types
  obtain ⟨sa, sc, es, _⟩ := id hv.shapes
  obtain ⟨ga, gc, eg, _⟩ := id hv.strings
  obtain ⟨na, nc, en, _⟩ := id hv.names
  obtain ⟨fa, fc, ef, _⟩ := id hv.funcs
  obtain ⟨H1, f1, c1⟩ := c_Check hv hlo hsm
  have hm1 := fun G => c_must (H := G) (ptrV p) true
  have hm2 := fun G => c_must (H := G) (ptrV p) false
  simp only [ptrV] at hm1 hm2
  simp only [cells0, ptrV] at ho
  simp only [ImV.val, ImV.cells, et, es, eg, en, ef] at c1 hg
  have ho1 := (f1.2 p hp.2).trans ho
  have hg1 := (f1.2 mp hmpn).trans hg
  by_cases hc : checkF im = 0
  · rw [hc] at c1
    have hok := checkF_ok hc hsm
    have hsl := hok.shapes
    simp [C36, regsOf, ptrV, ho, hg, loadT_agg, c1, hm1, ho1, hg1]
    generalize hX : run J okAll (.loop L36_0) _ _ = X
    obtain ⟨T1, hT, a0, a2, a24, a25, a26⟩ : ∃ T1, run J okAll (.loop L36_0) T1 H1 = X ∧ T1.at 0 = ptrV p ∧ T1.at 2 = .slice none 0 0 ∧ T1.at 24 = u.shapes ∧ T1.at 25 = .int .i64 (im.shapes.length : Int) ∧ T1.at 26 = .int .i64 ((0 : Nat) : Int) := ⟨_, hX, by simp [ptrV], by simp, by simp [es], by simp, by simp⟩
    obtain ⟨T2, H2, f2, e2, k2, ly2⟩ := loop36 hv.shapes hlo (by omega) (fun t => T1.at t) im.shapes 0 T1 H1 rfl (by omega) f1 (fun t ht => rfl) (.inl ⟨a2, rfl⟩) a24 a25 a26
    have e2 := hT.symm.trans e2
    subst e2
    have b0 := (k2 0 (by omega)).trans a0
    have ho2 := (f2.2 p hp.2).trans ho
    have hg2 := (f2.2 mp hmpn).trans hg
    simp only [ptrV] at b0
    by_cases hly : (im.shapes.map Shp.ly).all lyOk = true
    · obtain ⟨H3, a, c3, f3, hp3, q1, q2, q3, q4⟩ := c_New s.heap hs.heap (T2.at 2) (im.shapes.map Shp.ly) ly2.at (by simp; omega) hly
      have ho3 := (f3.2 p (by have := f2.1; omega)).trans ho2
      have hg3 := (f3.2 mp (by have := f2.1; omega)).trans hg2
      have ff3 : Fr H.next H H3 := f2.trans (f3.of_le f2.1)
      simp only [HpA.ptr] at c3
      by_cases hmo : mainOk im = true
      · refine ⟨fun hb => by simp [beginOk, hc, hly, hmo] at hb, fun _ r σ' hx => ?_⟩
        have hmo2 := hmo
        simp only [mainOk, Bool.and_eq_true, decide_eq_true_eq] at hmo2
        obtain ⟨⟨m1, m2⟩, m3⟩ := hmo2
        have m1d : decide (0 ≤ im.main) = true := decide_eq_true m1
        have m2d : decide (im.main < im.funcs.length) = true := decide_eq_true m2
        have hlt : im.main.toNat < im.funcs.length := by omega
        rw [List.getElem?_eq_getElem hlt] at m3
        simp only [Option.map_some, Option.getD_some, List.isEmpty_iff] at m3
        obtain ⟨b, o, c, eq, hb, _, hfn⟩ := hv.funcs.get (List.getElem?_eq_getElem hlt)
        rw [ef] at eq
        simp only [Value.slice.injEq] at eq
        obtain ⟨rfl, _, rfl⟩ := eq
        obtain ⟨cs, pr2, vp, vb, g0, g1, g2, g3, g4, g5, g6⟩ := hfn.ex
        have g0' := (ff3.2 b (by omega)).trans g0
        obtain ⟨pa, pc, rfl, _⟩ := id g5
        rw [m3] at g1
        obtain ⟨H4, hH4⟩ : ∃ H4, H4 = H3.set p (.cells (({ p := p, mp := mp, hp := a, iv := iv, cv := cv, fv := .slice none 0 0, ov := .slice none 0 0, fr := [] } : VA).cells (im.start s)) 84 false) := ⟨_, rfl⟩
        have hs4 : ∀ x, x ≠ p → H4.get x = H3.get x := fun x hx => by rw [hH4, IH.get_set, if_neg hx]
        have n4 : H4.next = H3.next := by rw [hH4]; rfl
        have sb4 : SameB lo H H4 := fun x hx => by rw [hs4 x (by omega)]; exact ff3.2 x (by omega)
        have hf2n := f2.1
        have hf3n := f3.1
        have hap : ∀ x, H2.next ≤ x → x ≠ p := fun x hx e => by omega
        have hp4 : HpAt H4 a (.new s.heap (im.shapes.map Shp.ly)) := hp3.mono (by omega) (hs4 _ (hap _ q1)) (hs4 _ (hap _ q2)) (hs4 _ (hap _ q3)) fun lb l c e => hs4 _ (hap _ (q4 _ _ _ e))
        have hvm : VmAt H4 lo im { p := p, mp := mp, hp := a, iv := iv, cv := cv, fv := .slice none 0 0, ov := .slice none 0 0, fr := [] } (im.start s) :=
          start_at (ImgAt.same ⟨hmp, u, pr, by simpa [ImV.cells, et, es, eg, en, ef] using hg, hv⟩ sb4) (hin.mono fun _ _ _ hb hx => CellAt.same hx sb4 hb) (hcl.mono fun _ _ _ hb hx => CellAt.same hx sb4 hb) hs hok (by omega) hp4 q1 q2 q3 q4 (by omega) (by omega) (by rw [hH4, IH.get_set, if_pos rfl])
        obtain ⟨H5, A5, e5, c5, h5, n5, rv5⟩ := m_call hvm im.main (u := .slice none 0 0) (args := []) (.inl ⟨rfl, rfl⟩) (by simp) r σ' hx
        have hmpp : mp ≠ p := by omega
        have hg4 := (hs4 mp hmpp).trans hg3
        have hown0 : ∀ x ∈ ({ p := p, mp := mp, hp := a, iv := iv, cv := cv, fv := .slice none 0 0, ov := .slice none 0 0, fr := [] } : VA).own, x = p ∨ H.next ≤ x := by
          intro x hm
          simp only [VA.own, bOf, frOwn, List.append_nil, List.mem_cons] at hm
          rcases hm with hm | hm | hm | hm | hm
          · exact .inl hm
          · exact .inr (by omega)
          · exact .inr (by omega)
          · exact .inr (by omega)
          · rcases hp4.ly with ⟨e, _⟩ | ⟨lb, e, _⟩
            · rw [e] at hm; simp [bOf] at hm
            · rw [e] at hm
              simp only [bOf_some, List.mem_singleton] at hm
              have := q4 _ _ _ e
              exact .inr (by omega)
        refine ⟨H5, A5, e5, ?_, n5.p, h5, by have := n5.fx.1; omega, fun x hx hne => ?_, rv5, fun x hm => (n5.own x hm).elim (hown0 x) (fun h1 => .inr (by omega))⟩
        · simp only [VA.cells, Img.start, ptrV, Int.natCast_zero, Int.cast_ofNat_Int] at hH4 c5
          have hg4p := congrArg (fun z => z.get p) hH4
          simp only [IH.get_set, if_true] at hg4p
          cases r with
          | ok z =>
            obtain ⟨u5, rfl, rfl⟩ := rv5
            simp [b0, ho2, c3, ho3, hg3, m1, m1d, m2, m2d, iindexAddr, g0', g1, hm1, istore, Value.cells, plain1, overlay, ← hH4, hg4p, hg4, c5, fin, iresult1]
          | error k =>
            have rv5 : e5 = .pan (overV k) := rv5
            subst rv5
            simp [b0, ho2, c3, ho3, hg3, m1, m1d, m2, m2d, iindexAddr, g0', g1, hm1, istore, Value.cells, plain1, overlay, ← hH4, hg4p, hg4, c5, fin, iresult1]
        · rw [n5.fx.2 x (by omega) (fun hm => ?_), hs4 x hne]; exact ff3.2 x hx
          simp only [VA.own, bOf, frOwn, List.append_nil, List.mem_cons] at hm
          rcases hm with hm | hm | hm | hm | hm
          · exact hne hm
          · omega
          · omega
          · omega
          · rcases hp4.ly with ⟨e, _⟩ | ⟨lb, e, _⟩
            · rw [e] at hm; simp [bOf] at hm
            · rw [e] at hm
              simp only [bOf_some, List.mem_singleton] at hm
              have := q4 _ _ _ e
              omega
      · refine ⟨fun _ => ?_, fun hb => by simp [beginOk, hmo] at hb⟩
        simp only [mainOk] at hmo
        cases m1d : decide (0 ≤ im.main) with
        | false =>
          simp [b0, ho2, c3, ho3, hg3, m1d, hm2, fin, iresult1]
          exact ff3
        | true =>
          have m1 : 0 ≤ im.main := by simpa using m1d
          cases m2d : decide (im.main < im.funcs.length) with
          | false =>
            simp [b0, ho2, c3, ho3, hg3, m1, m1d, m2d, hm2, fin, iresult1]
            exact ff3
          | true =>
            have m2 : im.main < im.funcs.length := by simpa using m2d
            have hlt : im.main.toNat < im.funcs.length := by omega
            rw [m1d, m2d, List.getElem?_eq_getElem hlt] at hmo
            simp only [Option.map_some, Option.getD_some, Bool.true_and, Bool.not_eq_true] at hmo
            obtain ⟨b, o, c, eq, hb, _, hfn⟩ := hv.funcs.get (List.getElem?_eq_getElem hlt)
            rw [ef] at eq
            simp only [Value.slice.injEq] at eq
            obtain ⟨rfl, _, rfl⟩ := eq
            obtain ⟨cs, pr2, vp, vb, g0, g1, g2, g3, g4, g5, g6⟩ := hfn.ex
            have g0' := (ff3.2 b (by omega)).trans g0
            obtain ⟨pa, pc, rfl, _⟩ := id g5
            have hnz : decide (im.funcs[im.main.toNat].params.length = 0) = false := by
              rw [decide_eq_false_iff_not]
              intro e
              rw [List.eq_nil_of_length_eq_zero e] at hmo
              simp at hmo
            obtain ⟨pl, hpl⟩ : ∃ pl, pl = im.funcs[im.main.toNat].params.length := ⟨_, rfl⟩
            rw [← hpl] at g1 hnz
            have hnz2 : ¬ pl = 0 := by simpa using hnz
            simp [b0, ho2, c3, ho3, hg3, m1, m1d, m2, m2d, iindexAddr, g0', g1, hm2, hnz, hnz2, fin, iresult1]
            exact ff3
    · obtain ⟨H3, c3, f3⟩ := c_New_bad s.heap hs.heap (T2.at 2) (im.shapes.map Shp.ly) ly2.at (by simp; omega) hly
      have ff3 : Fr H.next H H3 := f2.trans (f3.of_le f2.1)
      have ho3 := (f3.2 p (by have := f2.1; omega)).trans ho2
      refine ⟨fun _ => ?_, fun hb => by simp [beginOk, hly] at hb⟩
      simp [b0, ho2, c3, ho3, hm2, fin, iresult1]
      exact ff3
  · refine ⟨fun _ => ?_, fun hb => by simp [beginOk, hc] at hb⟩
    have hcd : decide (checkF im = 0) = false := decide_eq_false hc
    simp [C36, regsOf, ptrV, ho, hg, loadT_agg, c1, hm2, hcd, fin, iresult1]
    exact f1
end
end Go.Proofs.YtchlbfmjnhgpgaaGreat.Idl
namespace Go.Proofs.YtchlbfmjnhgpgaaGreat.Idl
open Go Go.RowKit
set_option maxRecDepth 100000
set_option linter.unusedSimpArgs false
section
variable {J : Env}
theorem iopsD_er (call : CallR) (ops : Array Oper) : ∀ (l : List Oper) (T : Regs) (H : IH) (D : Defs), iopsD J call (ops.map erO) (l.map erO) T H D = iopsD J call ops l T H D := by
  intro l
  induction l with
  | nil => intro T H D; rfl
  | cons o r ih =>
    intro T H D
    have h1 : isDefer (erO o) = isDefer o := rfl
    have h2 : deferR T (erO o) = deferR T o := rfl
    have h3 : (erO o).dst = o.dst := rfl
    simp only [List.map_cons, iopsD, wanted_er, h1, h2, h3, iexec_er, ih]
theorem iopsS_er (call : CallR) (ops : Array Oper) : ∀ (l : List Oper) (T : Regs) (H : IH) (u : RS), iopsS J call (ops.map erO) (l.map erO) T H u = iopsS J call ops l T H u := by
  intro l
  induction l with
  | nil => intro T H u; rfl
  | cons o r ih =>
    intro T H u
    have h1 : isRecover (erO o) = isRecover o := rfl
    have h3 : (erO o).dst = o.dst := rfl
    simp only [List.map_cons, iopsS, wanted_er, h1, h3, iexec_er, ih]
def strD : Code → Bool
  | .seq a b => strD a && strD b
  | .region _ _ d => !d
  | .ret => true
  | _ => false
def strS : Code → Bool
  | .seq a b => strS a && strS b
  | .region _ _ d => !d
  | _ => true
theorem icodeD_er (call : CallR) (k : Nat) (Ks : List Tmp) : ∀ (c : Code), strD c = true → ∀ (T : Regs) (H : IH) (D : Defs), icodeD J call k Ks (erC J c) T H D = icodeD J call k Ks c T H D
  | .seq a b, h, T, H, D => by
    simp only [strD, Bool.and_eq_true] at h
    simp only [erC, icodeD, icodeD_er call k Ks a h.1]
    split
    · exact icodeD_er call k Ks b h.2 _ _ _
    · rfl
  | .region i ops d, h, T, H, D => by
    simp only [strD, Bool.not_eq_true'] at h
    subst h
    simp only [erC, Bool.false_eq_true, if_false, icodeD, Array.toList_map, iopsD_er]
  | .ret, _, _, _, _ => rfl
theorem icodeS_er (call : CallR) (k : Nat) : ∀ (c : Code), strS c = true → ∀ (T : Regs) (H : IH) (u : RS), icodeS J call k (erC J c) T H u = icodeS J call k c T H u
  | .seq a b, h, T, H, u => by
    simp only [strS, Bool.and_eq_true] at h
    simp only [erC, icodeS, icodeS_er call k a h.1]
    split
    · exact icodeS_er call k b h.2 _ _ _
    · rfl
  | .region i ops d, h, T, H, u => by
    simp only [strS, Bool.not_eq_true'] at h
    subst h
    simp only [erC, Bool.false_eq_true, if_false, icodeS, Array.toList_map, iopsS_er]
  | .cond c x y, _, T, H, u => by
    have := icode_er (J := J) call k (.cond c x y) T H
    simp only [erC] at this ⊢
    simp only [icodeS, this]
  | .block i c, _, T, H, u => by
    have := icode_er (J := J) call k (.block i c) T H
    simp only [erC] at this ⊢
    simp only [icodeS, this]
  | .loop c, _, T, H, u => by
    have := icode_er (J := J) call k (.loop c) T H
    simp only [erC] at this ⊢
    simp only [icodeS, this]
  | .scope c, _, T, H, u => by
    have := icode_er (J := J) call k (.scope c) T H
    simp only [erC] at this ⊢
    simp only [icodeS, this]
  | .skip, _, _, _, _ => rfl
  | .ret, _, _, _, _ => rfl
  | .exit _, _, _, _, _ => rfl
  | .label _, _, _, _, _ => rfl
  | .rangeFunc _ _ _ _, _, _, _, _ => rfl
  | .goto _, _, _, _, _ => rfl
  | .refuse _, _, _, _, _ => rfl
end
end Go.Proofs.YtchlbfmjnhgpgaaGreat.Idl
namespace Go.Proofs.YtchlbfmjnhgpgaaGreat.Idl
open Go
set_option maxHeartbeats 8000000
set_option maxRecDepth 100000
set_option linter.unusedSimpArgs false
theorem body19 : ∃ c, (Tryz.f19).body = some c ∧ strD c = true ∧ erC J c = C19 := ⟨_, rfl, by kernel_rfl, by kernel_rfl⟩
theorem body35 : ∃ c, (Tryz.f35).body = some c ∧ strS c = true ∧ erC J c = C35 := ⟨_, rfl, by kernel_rfl, by kernel_rfl⟩
def minV : Value → Value → Option Value
  | .int k x, .int _ y => some (.int k (if y < x then y else x))
  | _, _ => none
def maxV : Value → Value → Option Value
  | .int k x, .int _ y => some (.int k (if x < y then y else x))
  | _, _ => none
theorem maxV_int (k k' : IntKind) (x y : Int) : maxV (.int k x) (.int k' y) = some (.int k (if x < y then y else x)) := id rfl
theorem iop_min0 (T : Regs) (H : IH) (dst : Option Tmp) (type : TypeId) (pos : String) (after : Array Edge) (guard : Option (Nat × Bool)) (x y : Operand) (at_ : Array TypeId) (k k' : IntKind) (a b : Int) (hx : iev T x = .int k a) (hy : iev T y = .int k' b) :
    iop J ⟨dst, .call ⟨.builtin .min, #[x, y], at_⟩, type, pos, after, guard⟩ T H = some (.val (.int k (if b < a then b else a)) H) := by
  show ipure J _ T H = _
  have e1 : execOp (iev T) ⟨dst, .call ⟨.builtin .min, #[x, y], at_⟩, type, pos, after, guard⟩ = (do pure (.value (← Builtin.min_ at_ type #[.int k a, .int k' b])) : Sem Next) := by
    simp only [execOp, resolve]
    simp [hx, hy]
    rfl
  have e2 : pureRun J.P (execOp (iev T) ⟨dst, .call ⟨.builtin .min, #[x, y], at_⟩, type, pos, after, guard⟩) = some (.value (.int k (if b < a then b else a))) := by
    rw [e1]
    rfl
  refine ipure_of (J := J) (T := T) (H := H) ?_ e2 rfl
  simp [Op.operands, Call.operands, hx, hy, flat, flatN]
@[simp] theorem iop_min (T : Regs) (H : IH) (dst : Option Tmp) (type : TypeId) (pos : String) (after : Array Edge) (guard : Option (Nat × Bool)) (x y : Operand) (at_ : Array TypeId) :
    iop J ⟨dst, .call ⟨.builtin .min, #[x, y], at_⟩, type, pos, after, guard⟩ T H = lenQ (minV (iev T x) (iev T y)) H (iopP J ⟨dst, .call ⟨.builtin .min, #[x, y], at_⟩, type, pos, after, guard⟩ T H) := by
  cases hx : iev T x with
  | int k a =>
    cases hy : iev T y with
    | int k' b => exact iop_min0 T H dst type pos after guard x y at_ k k' a b hx hy
    | _ => rfl
  | _ => rfl
theorem iop_max0 (T : Regs) (H : IH) (dst : Option Tmp) (type : TypeId) (pos : String) (after : Array Edge) (guard : Option (Nat × Bool)) (x y : Operand) (at_ : Array TypeId) (k k' : IntKind) (a b : Int) (hx : iev T x = .int k a) (hy : iev T y = .int k' b) :
    iop J ⟨dst, .call ⟨.builtin .max, #[x, y], at_⟩, type, pos, after, guard⟩ T H = some (.val (.int k (if a < b then b else a)) H) := by
  show ipure J _ T H = _
  have e1 : execOp (iev T) ⟨dst, .call ⟨.builtin .max, #[x, y], at_⟩, type, pos, after, guard⟩ = (do pure (.value (← Builtin.max_ at_ type #[.int k a, .int k' b])) : Sem Next) := by
    simp only [execOp, resolve]
    simp [hx, hy]
    rfl
  have e2 : pureRun J.P (execOp (iev T) ⟨dst, .call ⟨.builtin .max, #[x, y], at_⟩, type, pos, after, guard⟩) = some (.value (.int k (if a < b then b else a))) := by
    rw [e1]
    rfl
  refine ipure_of (J := J) (T := T) (H := H) ?_ e2 rfl
  simp [Op.operands, Call.operands, hx, hy, flat, flatN]
@[simp] theorem iop_max (T : Regs) (H : IH) (dst : Option Tmp) (type : TypeId) (pos : String) (after : Array Edge) (guard : Option (Nat × Bool)) (x y : Operand) (at_ : Array TypeId) :
    iop J ⟨dst, .call ⟨.builtin .max, #[x, y], at_⟩, type, pos, after, guard⟩ T H = lenQ (maxV (iev T x) (iev T y)) H (iopP J ⟨dst, .call ⟨.builtin .max, #[x, y], at_⟩, type, pos, after, guard⟩ T H) := by
  cases hx : iev T x with
  | int k a =>
    cases hy : iev T y with
    | int k' b => exact iop_max0 T H dst type pos after guard x y at_ k k' a b hx hy
    | _ => rfl
  | _ => rfl
theorem LAt.up {α : Type} {lo lo' k : Nat} {P P' : Nat → Nat → α → Prop} {v : Value} {l : List α} (h : LAt lo k P v l) (hl : lo ≤ lo') (hp : ∀ b o x, b < lo → P b o x → P' b o x) : LAt lo' k P' v l := by
  obtain ⟨a, c, h1, h2⟩ := h
  refine ⟨a, c, h1, fun hl' => ?_⟩
  obtain ⟨b, o, h3, h4, h5⟩ := h2 hl'
  exact ⟨b, o, h3, by omega, fun i hi => hp _ _ _ h4 (h5 i hi)⟩
section
variable {H : IH} {lo lo' : Nat}
theorem IntsAt.up {v : Value} {l : List Int} (h : IntsAt H lo v l) (hl : lo ≤ lo') : IntsAt H lo' v l := LAt.up h hl fun _ _ _ _ hx => hx
theorem InsAt.up {b o : Nat} {x : Ins} (h : InsAt H lo b o x) (hl : lo ≤ lo') : InsAt H lo' b o x := by
  obtain ⟨cs, pr, vl, vm, vv, h1, h2, h3, h4, h5, h6, h7, h8, h9, h10, h11, h12, h13⟩ := h.ex
  exact ⟨cs, pr, vl, vm, vv, h1, h2, h3, h4, h5, h6, h7, h8, h9, h10, IntsAt.up h11 hl, IntsAt.up h12 hl, IntsAt.up h13 hl⟩
theorem BlAt.up {b o : Nat} {x : Bl} (h : BlAt H lo b o x) (hl : lo ≤ lo') : BlAt H lo' b o x := by
  obtain ⟨cs, pr, vi, vc, h1, h2, h3, h4, h5⟩ := h.ex
  exact ⟨cs, pr, vi, vc, h1, h2, h3, IntsAt.up h4 hl, h5.up hl fun _ _ _ _ hx => InsAt.up hx hl⟩
theorem FnAt.up {b o : Nat} {x : Fn} (h : FnAt H lo b o x) (hl : lo ≤ lo') : FnAt H lo' b o x := by
  obtain ⟨cs, pr, vp, vb, h1, h2, h3, h4, h5, h6, h7⟩ := h.ex
  exact ⟨cs, pr, vp, vb, h1, h2, h3, h4, h5, IntsAt.up h6 hl, h7.up hl fun _ _ _ _ hx => BlAt.up hx hl⟩
theorem ImvAt.up {u : ImV} {im : Img} (h : ImvAt H lo u im) (hl : lo ≤ lo') : ImvAt H lo' u im := by
  refine ⟨h.types.up hl fun _ _ _ _ hx => ?_, h.shapes.up hl fun _ _ _ _ hx => ?_, h.strings.up hl fun _ _ _ _ hx => hx, h.names.up hl fun _ _ _ _ hx => hx, h.funcs.up hl fun _ _ _ _ hx => FnAt.up hx hl⟩
  · obtain ⟨cs, pr, vf, h1, h2, h3, h4⟩ := hx.ex
    exact ⟨cs, pr, vf, h1, h2, h3, IntsAt.up h4 hl⟩
  · obtain ⟨cs, pr, vf, h1, h2, h3, h4, h5⟩ := hx.ex
    exact ⟨cs, pr, vf, h1, h2, h3, h4, IntsAt.up h5 hl⟩
end
theorem bl_machine (a b c : Option Addr) (n n' m m' : Nat) (f h s : Int) : ibuild J 84 [(0, .pointer a), (1, .agg #[.slice b n n', .int .i64 f, .int .i64 h, .int .i64 s, .slice c m m'])] = some (.agg #[.pointer a, .slice b n n', .int .i64 f, .int .i64 h, .int .i64 s, .slice c m m', .pointer none, .slice none 0 0, .int .i64 0, .int .i64 0, .int .i64 0, .int .i64 0, .slice none 0 0, .string ⟨#[]⟩, .int .i64 0, .int .i64 0]) := by kernel_rfl
def clampN (n : Int) (most : Nat) : Nat := (if (0 : Int) < (if (most : Int) < n then (most : Int) else n) then (if (most : Int) < n then (most : Int) else n) else 0).toNat
theorem clamp_min (n : Int) (most : Nat) : minV (.int .i64 n) (.int .i64 (most : Int)) = some (.int .i64 (if (most : Int) < n then (most : Int) else n)) := rfl
theorem clamp_max (n : Int) (most : Nat) : maxV (.int .i64 0) (.int .i64 (if (most : Int) < n then (most : Int) else n)) = some (.int .i64 (clampN n most : Int)) := by
  unfold clampN
  simp only [maxV]
  congr 2
  split <;> omega
theorem clampN_le (n : Int) (most : Nat) : clampN n most ≤ most := by
  unfold clampN
  by_cases h : (most : Int) < n
  · simp only [if_pos h]; split <;> omega
  · simp only [if_neg h]; split <;> omega
theorem iexec_os (call : CallR) (o : Oper) (T : Regs) (H : IH) : iexec J call o T H = orStep call (iop J o T H) := rfl
end Go.Proofs.YtchlbfmjnhgpgaaGreat.Idl
namespace Go.Proofs.YtchlbfmjnhgpgaaGreat.Idl
open Go
set_option maxHeartbeats 8000000
set_option maxRecDepth 100000
set_option linter.unusedSimpArgs false
@[simp] theorem iop_typeAssert (J : Env) (T : Regs) (H : IH) (dst : Option Tmp) (type : TypeId) (pos : String) (after : Array Edge) (guard : Option (Nat × Bool)) (x : Operand) (xt t : TypeId) (ok : Bool) : iop J ⟨dst, .typeAssert x xt t ok, type, pos, after, guard⟩ T H = OR.ofVal H (itypeAssert J (iev T x) t ok) := rfl
theorem ta_over (k : Int) : itypeAssert J (.iface 86 (.agg #[.int .i64 k])) 86 true = some (.tuple #[.agg #[.int .i64 k], .bool true]) := by
  obtain ⟨fs, h⟩ := und_over
  simp only [itypeAssert, h, if_true]
def runOut (R : Rest) (im : Img) (s : Scr) : Option (Int × Mst) :=
  if beginOk im = false then some (6, im.start s) else
  match vCall im im.main [] (im.start s) with
  | some (.error k, σ) => some (k, σ)
  | some (.ok _, σ) => match vRunN R im (s.fuel + 1) σ with
    | some (.error k, σ') => some (k, σ')
    | _ => none
  | none => none
def outV (k : Int) (ov : Value) (σ : Mst) : Value := .agg #[.int .i64 k, ov, .string σ.exn, .int .i64 (σ.steps : Int), .int .i64 (σ.swept : Int)]
section
variable {H : IH} {lo : Nat} {im : Img}
theorem d35 (vc oc mb : Nat) (kd : Int) (c0 : List Value) (oa : Option Addr) (on oc' : Nat) (ex : ByteArray) (st sw : Int) (h1 : H.get vc = some (.cells [.pointer (some ⟨mb, 0, none⟩)] 79 false)) (hc0 : c0.length = 11)
    (h2 : H.get mb = some (.cells (c0 ++ [.int .i64 0, .slice oa on oc', .string ex, .int .i64 st, .int .i64 sw]) 84 false)) {x0 x1 x2 x3 x4 : Value} (h3 : H.get oc = some (.cells [x0, x1, x2, x3, x4] 44 false)) (hlt : vc < H.next ∧ oc < H.next ∧ mb < H.next) (_hmo : mb ≠ oc) (_hvo : vc ≠ oc) :
    ∃ k0, ∀ k, k0 ≤ k → ∃ H', icallD J okAll (icall J okAll k) k 35 [.pointer (some ⟨vc, 0, none⟩), .pointer (some ⟨oc, 0, none⟩)] (.pan (overV kd)) H = some (H', .reco (overV kd)) ∧ Fr H.next (H.set oc (.cells [.int .i64 kd, .slice oa on oc', .string ex, .int .i64 st, .int .i64 sw] 44 false)) H' := by
  obtain ⟨c, hb, hs, he⟩ := body35
  obtain ⟨B, hB⟩ : ∃ B, C35 = .seq (.region 0 #[o 4 (.call ⟨.builtin .recover, #[], #[]⟩) 20] false) B := ⟨_, rfl⟩
  obtain ⟨T', H', hr, hF⟩ : ∃ T' H', run J okAll B ((regsOf [.pointer (some ⟨vc, 0, none⟩), .pointer (some ⟨oc, 0, none⟩)] 0 .leaf).set 4 (overV kd)) H = some (.normal, T', H') ∧ Fr H.next (H.set oc (.cells [.int .i64 kd, .slice oa on oc', .string ex, .int .i64 st, .int .i64 sw] 44 false)) H' := by
    simp only [C35, Code.seq.injEq, true_and] at hB
    subst hB
    have hco : cellsOf (some (.cells (c0 ++ [.int .i64 0, .slice oa on oc', .string ex, .int .i64 st, .int .i64 sw]) 84 false)) 11 5 = some [.int .i64 0, .slice oa on oc', .string ex, .int .i64 st, .int .i64 sw] := by
      rw [cellsOf_cells, if_pos (by simp [hc0])]
      rw [List.drop_append_of_le_length (by omega), List.drop_of_length_le (by omega)]
      rfl
    have n1 : oc ≠ H.next := by omega
    have n2 : mb ≠ H.next := by omega
    have n3 : vc ≠ H.next := by omega
    simp [regsOf, overV, ta_over, inew, Value.cells, istore, plain1, overlay, IH.get_push, IH.get_set, n1, n2, n3, h1, h2, h3, hco, loadT_agg, _hmo, _hvo, Ne.symm n1]
    refine ⟨_, _, ⟨rfl, rfl⟩, by simp, fun z hz => ?_⟩
    have nz : z ≠ H.next := by omega
    by_cases hzo : z = oc
    · rw [hzo, IH.get_set, if_pos rfl, IH.get_set, if_pos rfl]
    · rw [IH.get_set, if_neg hzo, IH.get_set, if_neg nz, IH.get_push_other _ _ _ hz, IH.get_set, if_neg hzo]
  obtain ⟨k0, hk⟩ := of_run hr
  refine ⟨k0, fun k hk0 => ⟨H', ?_, hF⟩⟩
  have hrun := hk k k hk0 hk0
  have hcode : icodeS J (icall J okAll k) k c (regsOf [.pointer (some ⟨vc, 0, none⟩), .pointer (some ⟨oc, 0, none⟩)] 0 .leaf) H (.pan (overV kd)) = some (.normal, T', H', .reco (overV kd)) := by
    rw [← icodeS_er _ _ c hs, he, hB]
    have e1 : wantedR #[o 4 (.call ⟨.builtin .recover, #[], #[]⟩) 20] (regsOf [.pointer (some ⟨vc, 0, none⟩), .pointer (some ⟨oc, 0, none⟩)] 0 .leaf) (o 4 (.call ⟨.builtin .recover, #[], #[]⟩) 20) = true := rfl
    have e2 : isRecover (o 4 (.call ⟨.builtin .recover, #[], #[]⟩) 20) = true := rfl
    have hB2 := hB
    simp only [C35, Code.seq.injEq, true_and] at hB2
    subst hB2
    simp only [icodeS, iopsS, List.toList_toArray]
    rw [if_pos e1, if_pos e2]
    simp only [put_some, hrun]
  have hfn : J.fn 35 = some Tryz.f35 := id rfl
  have hlen : [Value.pointer (some ⟨vc, 0, none⟩), Value.pointer (some ⟨oc, 0, none⟩)].length ≤ (Tryz.f35).ntmps := show 2 ≤ (Tryz.f35).ntmps from by decide
  have hres : iresults J Tryz.f35 T' H' = some (.tuple #[]) := rfl
  unfold icallD
  have hok : okAll 35 = true := rfl
  rw [if_pos hok, hfn]
  simp only [hb]
  rw [if_pos hlen, hcode]
  simp only [hres, Option.map_some]
end
end Go.Proofs.YtchlbfmjnhgpgaaGreat.Idl
namespace Go.Proofs.YtchlbfmjnhgpgaaGreat.Idl
open Go
set_option maxHeartbeats 8000000
set_option maxRecDepth 100000
set_option linter.unusedSimpArgs false
def scrV (iv : Option Addr × Nat × Nat) (f h s : Int) (cv : Option Addr × Nat × Nat) : Value := .agg #[slV iv, .int .i64 f, .int .i64 h, .int .i64 s, slV cv]
section
variable {H : IH} {lo : Nat} {im : Img}
theorem d19 {u : ImV} {iv cv : Option Addr × Nat × Nat} {f h st : Int} {s : Scr} {ta sa ga na fa : Option Addr} {tn sn gn nn fn tc sc gc nc fc : Nat} (hu : u = ⟨.slice ta tn tc, .slice sa sn sc, .slice ga gn gc, .slice na nn nc, .slice fa fn fc⟩) (h1 : s.fuel = clampN f 16777216) (h2 : s.heap = clampN h 65536) (h3 : s.stack = clampN st 65536) :
    ∃ M, Fr H.next H M ∧ M.next = H.next + 5 ∧ M.get H.next = some (.cells (ImV.cells u im) 27 false) ∧ M.get (H.next + 1 + 1) = some (.cells [.int .i64 0, .slice none 0 0, .string ⟨#[]⟩, .int .i64 0, .int .i64 0] 44 false) ∧ M.get (H.next + 1 + 1 + 1) = some (.cells (cells0 H.next (slV iv) (slV cv) s) 84 false) ∧ M.get (H.next + 1 + 1 + 1 + 1) = some (.cells [ptrV (H.next + 1 + 1 + 1)] 79 false) ∧
      (∀ (call : CallR) (k : Nat) (v : Value) (H1 : IH), call 36 #[ptrV (H.next + 1 + 1 + 1)] M = some (.pan v, H1) → ∃ T', icodeD J call k [4] C19 (regsOf [u.val im, scrV iv f h st cv] 0 .leaf) H [] = some (.pan v, T', H1, [(35, [ptrV (H.next + 1 + 1 + 1 + 1), ptrV (H.next + 1 + 1)])]) ∧ T'.at 4 = ptrV (H.next + 1 + 1)) ∧
      (∀ (call : CallR) (k : Nat) (v : Value) (M1 H1 : IH) (w : Value), call 36 #[ptrV (H.next + 1 + 1 + 1)] M = some (.ret w, M1) → M1.get (H.next + 1 + 1 + 1 + 1) = some (.cells [ptrV (H.next + 1 + 1 + 1)] 79 false) → call 37 #[ptrV (H.next + 1 + 1 + 1)] M1 = some (.pan v, H1) → ∃ T', icodeD J call k [4] C19 (regsOf [u.val im, scrV iv f h st cv] 0 .leaf) H [] = some (.pan v, T', H1, [(35, [ptrV (H.next + 1 + 1 + 1 + 1), ptrV (H.next + 1 + 1)])]) ∧ T'.at 4 = ptrV (H.next + 1 + 1)) := by
  subst hu
  obtain ⟨ia, inn, ic⟩ := iv
  obtain ⟨ca, cn, cc⟩ := cv
  have e1 := clamp_min f 16777216
  have e1' := clamp_max f 16777216
  have e2 := clamp_min h 65536
  have e2' := clamp_max h 65536
  have e3 := clamp_min st 65536
  have e3' := clamp_max st 65536
  rw [← h1] at e1'
  rw [← h2] at e2'
  rw [← h3] at e3'
  simp only [Int.cast_ofNat_Int] at e1 e1' e2 e2' e3 e3'
  generalize (if (16777216 : Int) < f then (16777216 : Int) else f) = f0 at *
  generalize (if (65536 : Int) < h then (65536 : Int) else h) = h0 at *
  generalize (if (65536 : Int) < st then (65536 : Int) else st) = st0 at *
  obtain ⟨M, hM⟩ : ∃ M, M = (((((((H.push (.cells [.slice ta tn tc, .slice sa sn sc, .slice ga gn gc, .slice na nn nc, .slice fa fn fc, .int .i64 im.main, .int .i64 im.exn] 27 false)).push (.cells [.slice ia inn ic, .int .i64 f, .int .i64 h, .int .i64 st, .slice ca cn cc] 37 false)).push (.cells [.int .i64 0, .slice none 0 0, .string ⟨#[]⟩, .int .i64 0, .int .i64 0] 44 false)).set (H.next + 1) (.cells [.slice ia inn ic, .int .i64 (s.fuel : Int), .int .i64 (s.heap : Int), .int .i64 (s.stack : Int), .slice ca cn cc] 37 false)).push (.cells (cells0 H.next (.slice ia inn ic) (.slice ca cn cc) s) 84 false)).push (.cells [.pointer none] 79 false)).set (H.next + 1 + 1 + 1 + 1) (.cells [ptrV (H.next + 1 + 1 + 1)] 79 false)) := ⟨_, rfl⟩
  have q1 : ¬ H.next = H.next + 1 + 1 := by omega
  have q2 : ¬ H.next = H.next + 1 + 1 + 1 := by omega
  have q3 : ¬ H.next = H.next + 1 + 1 + 1 + 1 := by omega
  have q4 : ¬ H.next + 1 = H.next + 1 + 1 + 1 := by omega
  have q5 : ¬ H.next + 1 = H.next + 1 + 1 + 1 + 1 := by omega
  have q6 : ¬ H.next + 1 + 1 = H.next + 1 + 1 + 1 + 1 := by omega
  refine ⟨M, ?_, ?_, ?_, ?_, ?_, ?_, ?_, ?_⟩
  · rw [hM]
    repeat' first | exact Fr.refl _ _ | apply Fr.push | apply Fr.set
    all_goals first | omega | (simp <;> omega)
  · rw [hM]; simp
  · rw [hM]; simp [IH.get_push, IH.get_set, ImV.cells, q1, q2, q3]
  · rw [hM]; simp [IH.get_push, IH.get_set, q4, q5, q6]
  · rw [hM]; simp [IH.get_push, IH.get_set, slV]
  · rw [hM]; simp [IH.get_push, IH.get_set]
  · intro call k v H1 hc
    have gv : M.get (H.next + 1 + 1 + 1 + 1) = some (.cells [.pointer (some ⟨H.next + 1 + 1 + 1, 0, none⟩)] 79 false) := by rw [hM]; simp [IH.get_push, IH.get_set, ptrV]
    simp only [ptrV, cells0] at hc hM
    simp [C19, regsOf, ImV.val, ImV.cells, scrV, slV, icodeD, iopsD, iexec_os, isDefer, deferR, o, oz, inew, Value.cells, IH.get_push, IH.get_set, istore, plain1, overlay, e1, e1', e2, e2', e3, e3', loadT_agg, iparts, bl_machine, q1, q2, q3, q4, q5, q6, ← hM, gv, hc]
    exact ⟨_, ⟨rfl, rfl, rfl⟩, by simp [ptrV]⟩
  · intro call k v M1 H1 w hc gw hc2
    have gv : M.get (H.next + 1 + 1 + 1 + 1) = some (.cells [.pointer (some ⟨H.next + 1 + 1 + 1, 0, none⟩)] 79 false) := by rw [hM]; simp [IH.get_push, IH.get_set, ptrV]
    simp only [ptrV, cells0] at hc hM gw hc2
    simp [C19, regsOf, ImV.val, ImV.cells, scrV, slV, icodeD, iopsD, iexec_os, isDefer, deferR, o, oz, inew, Value.cells, IH.get_push, IH.get_set, istore, plain1, overlay, e1, e1', e2, e2', e3, e3', loadT_agg, iparts, bl_machine, q1, q2, q3, q4, q5, q6, ← hM, gv, hc, gw, hc2]
    exact ⟨_, ⟨rfl, rfl, rfl⟩, by simp [ptrV]⟩
end
end Go.Proofs.YtchlbfmjnhgpgaaGreat.Idl
namespace Go.Proofs.YtchlbfmjnhgpgaaGreat.Idl
open Go
set_option maxHeartbeats 8000000
set_option maxRecDepth 100000
set_option linter.unusedSimpArgs false
section
variable {H : IH} {lo : Nat} {im : Img}
theorem fin19 {args : Array Value} (hsz : args.size = 2) {H5 : IH} {vc oc mb : Nat} {kd : Int} {c0 : List Value} {oa : Option Addr} {on oc' : Nat} {ex : ByteArray} {st sw : Int} {k1 : Nat}
    (hk : ∀ k, k1 ≤ k → ∃ T', icodeD J (icall J okAll k) k [4] C19 (regsOf args.toList 0 .leaf) H [] = some (.pan (overV kd), T', H5, [(35, [ptrV vc, ptrV oc])]) ∧ T'.at 4 = ptrV oc)
    (h1 : H5.get vc = some (.cells [ptrV mb] 79 false)) (hc0 : c0.length = 11)
    (h2 : H5.get mb = some (.cells (c0 ++ [.int .i64 0, .slice oa on oc', .string ex, .int .i64 st, .int .i64 sw]) 84 false)) {x0 x1 x2 x3 x4 : Value} (h3 : H5.get oc = some (.cells [x0, x1, x2, x3, x4] 44 false)) (hlt : vc < H5.next ∧ oc < H5.next ∧ mb < H5.next) (hmo : mb ≠ oc) (hvo : vc ≠ oc) :
    ∃ H', cal J okAll 19 args H = some (.ret (.agg #[.int .i64 kd, .slice oa on oc', .string ex, .int .i64 st, .int .i64 sw]), H') ∧ Fr H5.next (H5.set oc (.cells [.int .i64 kd, .slice oa on oc', .string ex, .int .i64 st, .int .i64 sw] 44 false)) H' := by
  obtain ⟨k0, hd⟩ := d35 vc oc mb kd c0 oa on oc' ex st sw h1 hc0 h2 h3 hlt hmo hvo
  obtain ⟨c, hb, hs, he⟩ := body19
  have hfn : J.fn 19 = some Tryz.f19 := id rfl
  obtain ⟨H', e1, f1⟩ := hd (max k0 k1) (Nat.le_max_left _ _)
  obtain ⟨T', e2, e3⟩ := hk (max k0 k1) (Nat.le_max_right _ _)
  refine ⟨H', ?_, f1⟩
  apply cal_of (k := max k0 k1 + 1)
  rw [icall_dfr J (max k0 k1) H okAll 19 args Tryz.f19 c rfl hfn hb (by rw [hsz]; decide) rfl rfl]
  unfold icallF
  have hcr : cellRegs (Tryz.f19).results.toList = [4] := rfl
  rw [hcr, ← icodeD_er _ _ _ c hs, he, e2]
  simp only [idefers, ptrV] at e1 ⊢
  rw [e1]
  simp only [RS.settle, iend]
  have hall : allCells (Tryz.f19).results.toList = true := rfl
  rw [hall]
  have hg := f1.2 oc hlt.2.1
  rw [IH.get_set, if_pos rfl] at hg
  have hir : iresults J Tryz.f19 T' H' = fin J [.cell 4 44] T' H' := rfl
  simp only [if_true, hir]
  simp only [ptrV] at e3
  simp [fin, iresult1, e3, hg, loadT_agg]
end
end Go.Proofs.YtchlbfmjnhgpgaaGreat.Idl
namespace Go.Proofs.YtchlbfmjnhgpgaaGreat.Idl
open Go
set_option maxHeartbeats 8000000
set_option maxRecDepth 100000
set_option linter.unusedSimpArgs false
section
variable {H : IH} {lo : Nat} {im : Img}
theorem c_Run {R : Rest} (hR : ∀ lo, RestOk lo im R) {u : ImV} (hv : ImvAt H lo u im) (hlo : lo ≤ H.next) (hsm : ImSm im) {iv cv : Option Addr × Nat × Nat} {f h st : Int} {s : Scr} (hin : LAt lo 1 (CellAt H 5 byteV) (slV iv) s.input) (hcl : LAt lo 1 (CellAt H 4 Value.bool) (slV cv) s.collect)
    (hib : s.input.length ≤ 4611686018427387904 ∧ ∀ c ∈ s.input, c < 256) (s1 : s.fuel = clampN f 16777216) (s2 : s.heap = clampN h 65536) (s3 : s.stack = clampN st 65536) {k : Int} {σ : Mst} (hr : runOut R im s = some (k, σ)) :
    ∃ H' ov, cal J okAll 19 #[u.val im, scrV iv f h st cv] H = some (.ret (outV k ov σ), H') ∧ Fr H.next H H' ∧ OvAt H' ov σ.out ∧ (∀ x ∈ bOf ov, H.next ≤ x ∧ x < H'.next) := by
  have hs : ScrOk s := ⟨by rw [s1]; exact clampN_le _ _, by rw [s2]; exact clampN_le _ _, by rw [s3]; exact clampN_le _ _, hib⟩
  obtain ⟨vt, vs, vst, vn, vf⟩ := id u
  obtain ⟨ta, tc, et, _⟩ := id hv.types
  obtain ⟨sa, sc, es, _⟩ := id hv.shapes
  obtain ⟨ga, gc, eg, _⟩ := id hv.strings
  obtain ⟨na, nc, en, _⟩ := id hv.names
  obtain ⟨fa, fc, ef, _⟩ := id hv.funcs
  have hu : u = ⟨.slice ta im.types.length tc, .slice sa im.shapes.length sc, .slice ga im.strings.length gc, .slice na im.names.length nc, .slice fa im.funcs.length fc⟩ := by
    cases u
    simp only at et es eg en ef
    simp only [et, es, eg, en, ef]
  obtain ⟨M, fM, nM, gi, go, gm, gv, d1, d2⟩ := d19 (H := H) (im := im) (iv := iv) (cv := cv) (f := f) (h := h) (st := st) (s := s) hu s1 s2 s3
  have sM : SameB lo H M := fun z hz => fM.2 z (by omega)
  have hvM := (hv.same sM).up (lo' := H.next + 1 + 1 + 1) (by omega)
  have hiM : ImgAt M (H.next + 1 + 1 + 1) H.next im := ⟨by omega, u, false, gi, hvM⟩
  have hinM : LAt (H.next + 1 + 1 + 1) 1 (CellAt M 5 byteV) (slV iv) s.input := hin.up (by omega) fun _ _ _ hb hx => CellAt.same hx sM hb
  have hclM : LAt (H.next + 1 + 1 + 1) 1 (CellAt M 4 Value.bool) (slV cv) s.collect := hcl.up (by omega) fun _ _ _ hb hx => CellAt.same hx sM hb
  obtain ⟨b1, b2⟩ := m_begin hiM hinM hclM hs hsm (by omega) (p := H.next + 1 + 1 + 1) (by omega) gm
  -- how the end is reached
  have done : ∀ (H5 : IH) (A5 : VA) (σ5 : Mst) (kd : Int) (k1 : Nat), A5.p = H.next + 1 + 1 + 1 → VmAt H5 (H.next + 1 + 1 + 1) im A5 σ5 → M.next ≤ H5.next → (∀ x, x < M.next → x ≠ H.next + 1 + 1 + 1 → H5.get x = M.get x) → (∀ x ∈ A5.own, x = H.next + 1 + 1 + 1 ∨ M.next ≤ x) →
      (∀ k, k1 ≤ k → ∃ T', icodeD J (icall J okAll k) k [4] C19 (regsOf [u.val im, scrV iv f h st cv] 0 .leaf) H [] = some (.pan (overV kd), T', H5, [(35, [ptrV (H.next + 1 + 1 + 1 + 1), ptrV (H.next + 1 + 1)])]) ∧ T'.at 4 = ptrV (H.next + 1 + 1)) →
      ∃ H' ov, cal J okAll 19 #[u.val im, scrV iv f h st cv] H = some (.ret (outV kd ov σ5), H') ∧ Fr H.next H H' ∧ OvAt H' ov σ5.out ∧ (∀ x ∈ bOf ov, H.next ≤ x ∧ x < H'.next) := by
    intro H5 A5 σ5 kd k1 hp h5 hn hx hown hk
    have ho := h5.obj
    rw [hp] at ho
    obtain ⟨oa, on, oc, hov⟩ : ∃ oa on oc, A5.ov = .slice oa on oc := by
      rcases h5.ov with ⟨e, _⟩ | ⟨b, e, _⟩
      · exact ⟨_, _, _, e⟩
      · exact ⟨_, _, _, e⟩
    have ho2 : H5.get (H.next + 1 + 1 + 1) = some (.cells ([ptrV A5.mp, A5.iv, .int .i64 σ5.fuel, .int .i64 σ5.heap, .int .i64 σ5.stack, A5.cv, ptrV A5.hp.p, A5.fv, .int .i64 σ5.words, .int .i64 (σ5.inn : Int), .int .i64 (σ5.made : Int)] ++ [.int .i64 0, .slice oa on oc, .string σ5.exn, .int .i64 (σ5.steps : Int), .int .i64 (σ5.swept : Int)]) 84 false) := by
      rw [ho]; simp [VA.cells, hov]
    obtain ⟨H', c1, f1⟩ := fin19 (args := #[u.val im, scrV iv f h st cv]) rfl hk ((hx _ (by omega) (by omega)).trans gv) rfl ho2 ((hx _ (by omega) (by omega)).trans go) (by omega) (by omega) (by omega)
    have hbo : ∀ x ∈ bOf A5.ov, M.next ≤ x ∧ x < H5.next := by
      intro x hm
      have h1 := h5.own x (by simp [VA.own, hm])
      rcases hown x (by simp [VA.own, hm]) with e | e
      · exfalso
        have h2 := h5.nd
        rw [VA.own, List.nodup_cons] at h2
        exact h2.1 (by rw [hp, ← e]; simp [hm])
      · exact ⟨e, h1.2⟩
    have hn' : H5.next ≤ H'.next := by have := f1.1; simpa using this
    refine ⟨H', A5.ov, by rw [c1, hov]; rfl, ⟨by omega, fun x hx' => ?_⟩, h5.ov.same fun x hm => ?_, fun x hm => ?_⟩
    · rw [f1.2 x (by omega), IH.get_set, if_neg (by omega), hx x (by omega) (by omega)]; exact fM.2 x hx'
    · have := hbo x hm
      rw [f1.2 x (by omega), IH.get_set, if_neg (by omega)]
    · have := hbo x hm; omega
  unfold runOut at hr
  cases hb : beginOk im with
  | false =>
    rw [if_pos hb] at hr
    simp only [Option.some.injEq, Prod.mk.injEq] at hr
    obtain ⟨rfl, rfl⟩ := hr
    obtain ⟨H1, c1, f1⟩ := b1 hb
    obtain ⟨k1, hk1⟩ := of_cal c1
    have hgm := (f1.2 (H.next + 1 + 1 + 1) (by omega)).trans gm
    obtain ⟨H', c2, f2⟩ := fin19 (args := #[u.val im, scrV iv f h st cv]) (k1 := k1) rfl (fun k hk => d1 (icall J okAll k) k _ H1 (hk1 k hk)) ((f1.2 _ (by omega)).trans gv) (c0 := [ptrV H.next, slV iv, .int .i64 (s.fuel : Int), .int .i64 (s.heap : Int), .int .i64 (s.stack : Int), slV cv, .pointer none, .slice none 0 0, .int .i64 0, .int .i64 0, .int .i64 0]) rfl (by rw [hgm]; rfl) ((f1.2 _ (by omega)).trans go) (by have := f1.1; omega) (by omega) (by omega)
    have hn1 := f1.1
    have hn' : H1.next ≤ H'.next := by have := f2.1; simpa using this
    refine ⟨H', .slice none 0 0, c2, ⟨by omega, fun x hx' => ?_⟩, .inl ⟨rfl, rfl⟩, fun x hm => by simp [bOf] at hm⟩
    rw [f2.2 x (by omega), IH.get_set, if_neg (by omega), f1.2 x (by omega)]; exact fM.2 x hx'
  | true =>
    rw [if_neg (by simp [hb])] at hr
    cases hc : vCall im im.main [] (im.start s) with
    | none => rw [hc] at hr; simp at hr
    | some rc =>
      obtain ⟨r1, σ1⟩ := rc
      rw [hc] at hr
      obtain ⟨H1, A1, e1, c1, p1, v1, n1, x1, rv1, o1⟩ := b2 hb r1 σ1 hc
      obtain ⟨k1, hk1⟩ := of_cal c1
      cases r1 with
      | error kd =>
        simp only [Option.some.injEq, Prod.mk.injEq] at hr
        obtain ⟨rfl, rfl⟩ := hr
        have rv1 : e1 = .pan (overV kd) := rv1
        subst rv1
        exact done H1 A1 σ1 kd k1 p1 v1 n1 x1 o1 fun k hk => d1 (icall J okAll k) k _ H1 (hk1 k hk)
      | ok a =>
        obtain ⟨w, rfl, rfl⟩ := rv1
        simp only at hr
        cases hq : vRunN R im (s.fuel + 1) σ1 with
        | none => rw [hq] at hr; simp at hr
        | some rq =>
          obtain ⟨r2, σ2⟩ := rq
          rw [hq] at hr
          obtain ⟨H2, A2, kd, e2, c2, v2, n2⟩ := m_run (hR _) v1 hq
          subst e2
          simp only [Option.some.injEq, Prod.mk.injEq] at hr
          obtain ⟨rfl, rfl⟩ := hr
          rw [p1] at c2
          obtain ⟨k2, hk2⟩ := of_cal c2
          have hx2 : ∀ x, x < M.next → x ≠ H.next + 1 + 1 + 1 → H2.get x = H1.get x := fun x hx hne => n2.fx.2 x (by omega) fun hm => by
            rcases o1 x hm with e | e
            · exact hne e
            · omega
          refine done H2 A2 σ2 kd (max k1 k2) (n2.p.trans p1) v2 (by have := n2.fx.1; omega) (fun x hx hne => (hx2 x hx hne).trans (x1 x hx hne)) (fun x hm => (n2.own x hm).elim (o1 x) fun h1 => .inr (by omega)) fun k hk => ?_
          exact d2 (icall J okAll k) k _ H1 H2 _ (hk1 k (by omega)) ((x1 _ (by omega) (by omega)).trans gv) (hk2 k (by omega))
end
end Go.Proofs.YtchlbfmjnhgpgaaGreat.Idl
namespace Go.Proofs.YtchlbfmjnhgpgaaGreat.Idl
open Go
set_option maxHeartbeats 8000000
set_option maxRecDepth 100000
set_option linter.unusedSimpArgs false
def ins (op d a b c n : Int) : Ins := ⟨op, d, a, b, c, n, [], [], []⟩
def insC (x : Ins) : List Value := [.int .i64 x.op, .int .i64 x.d, .int .i64 x.a, .int .i64 x.b, .int .i64 x.c, .int .i64 x.n, .slice none 0 0, .slice none 0 0, .slice none 0 0]
def leastIm (code : List Ins) : Img := ⟨[⟨true, []⟩, ⟨false, [0]⟩], [⟨3, [], ⟨#[]⟩⟩], [], [], [⟨[], 0, 1, [⟨[-1], code⟩]⟩], 0, 0⟩
theorem nn2 (a : Nat) : (a = a + 1 + 1) = False := by simp only [eq_iff_iff, iff_false]; omega
theorem nn3 (a : Nat) : (a = a + 1 + 1 + 1) = False := by simp only [eq_iff_iff, iff_false]; omega
theorem nn4 (a : Nat) : (a = a + 1 + 1 + 1 + 1) = False := by simp only [eq_iff_iff, iff_false]; omega
theorem nn5 (a : Nat) : (a = a + 1 + 1 + 1 + 1 + 1) = False := by simp only [eq_iff_iff, iff_false]; omega
theorem nn6 (a : Nat) : (a = a + 1 + 1 + 1 + 1 + 1 + 1) = False := by simp only [eq_iff_iff, iff_false]; omega
theorem nn7 (a : Nat) : (a = a + 1 + 1 + 1 + 1 + 1 + 1 + 1) = False := by simp only [eq_iff_iff, iff_false]; omega
theorem nn8 (a : Nat) : (a = a + 1 + 1 + 1 + 1 + 1 + 1 + 1 + 1) = False := by simp only [eq_iff_iff, iff_false]; omega
theorem nn9 (a : Nat) : (a = a + 1 + 1 + 1 + 1 + 1 + 1 + 1 + 1 + 1) = False := by simp only [eq_iff_iff, iff_false]; omega
theorem nn10 (a : Nat) : (a = a + 1 + 1 + 1 + 1 + 1 + 1 + 1 + 1 + 1 + 1) = False := by simp only [eq_iff_iff, iff_false]; omega
theorem nn11 (a : Nat) : (a = a + 1 + 1 + 1 + 1 + 1 + 1 + 1 + 1 + 1 + 1 + 1) = False := by simp only [eq_iff_iff, iff_false]; omega
section
variable {H : IH} {lo : Nat}
theorem LAt.mk {α : Type} {k : Nat} {P : Nat → Nat → α → Prop} {l : List α} {b o c n : Nat} (hn : l.length = n) (hb : b < lo) (h : ∀ i (h : i < l.length), P b (o + i * k) l[i]) : LAt lo k P (.slice (some ⟨b, o, none⟩) n c) l :=
  ⟨_, c, by rw [hn], fun _ => ⟨b, o, rfl, hb, h⟩⟩
theorem LAt.nil {α : Type} {k : Nat} {P : Nat → Nat → α → Prop} {a : Option Addr} {c : Nat} : LAt lo k P (.slice a 0 c) [] := ⟨a, c, rfl, fun h => by simp at h⟩
theorem CellAt.one {α : Type} {e : TypeId} {V : α → Value} {b o : Nat} {x : α} {cs : List Value} {pr : Bool} (hg : H.get b = some (.cells cs e pr)) (hc : cs[o]? = some (V x)) : CellAt H e V b o x := ⟨cs, pr, hg, hc⟩
theorem InsAt.plain {b o : Nat} {x : Ins} {cs : List Value} {pr : Bool} (hg : H.get b = some (.cells cs 30 pr)) (h : ∀ j, j < 9 → cs[o + j]? = (insC x)[j]?) (h1 : x.l = []) (h2 : x.m = []) (h3 : x.live = []) : InsAt H lo b o x :=
  ⟨cs, pr, _, _, _, hg, by simpa [insC] using h 0 (by omega), by simpa [insC] using h 1 (by omega), by simpa [insC] using h 2 (by omega), by simpa [insC] using h 3 (by omega), by simpa [insC] using h 4 (by omega), by simpa [insC] using h 5 (by omega),
    by simpa [insC] using h 6 (by omega), by simpa [insC] using h 7 (by omega), by simpa [insC] using h 8 (by omega), by rw [h1]; exact LAt.nil, by rw [h2]; exact LAt.nil, by rw [h3]; exact LAt.nil⟩
theorem code_at {b c n : Nat} {l : List Ins} {pr : Bool} (hn : l.length = n) (hb : b < lo) (hg : H.get b = some (.cells (l.flatMap insC) 30 pr)) (hp : ∀ x ∈ l, x.l = [] ∧ x.m = [] ∧ x.live = []) : LAt lo 9 (InsAt H lo) (.slice (some ⟨b, 0, none⟩) n c) l := by
  refine LAt.mk hn hb fun i hi => ?_
  have hx := hp _ (List.getElem_mem hi)
  refine InsAt.plain hg (fun j hj => ?_) hx.1 hx.2.1 hx.2.2
  have key : ∀ (l : List Ins) (i : Nat) (hi : i < l.length), (l.flatMap insC)[i * 9 + j]? = (insC l[i])[j]? := by
    intro l
    induction l with
    | nil => intro i hi; simp at hi
    | cons y l ih =>
      intro i hi
      rw [List.flatMap_cons]
      cases i with
      | zero =>
        rw [List.getElem?_append_left (by simp [insC]; omega)]; simp
      | succ i =>
        rw [List.getElem?_append_right (by simp [insC]; omega)]
        have := ih i (by simpa using hi)
        simp only [List.getElem_cons_succ]
        rw [← this]
        congr 1
        simp [insC]; omega
  rw [Nat.zero_add]
  exact key l i hi
theorem bt1 (b : Bool) : ibuild J 88 [(0, .bool b)] = some (.agg #[.bool b, .slice none 0 0]) := by kernel_rfl
theorem bt2 (a : Option Addr) (n c : Nat) : ibuild J 88 [(1, .slice a n c)] = some (.agg #[.bool false, .slice a n c]) := by kernel_rfl
theorem bsi1 (H : IH) (x : Int) : ibuildSlice J 28 1 [(0, .int .i64 x)] H = some (.slice (some ⟨H.next, 0, none⟩) 1 1, H.push (.cells [.int .i64 x] 3 false)) := by kernel_rfl
theorem bst2 (H : IH) (a b : Bool) (x y : Option Addr) (n c m d : Nat) : ibuildSlice J 22 2 [(0, .agg #[.bool a, .slice x n c]), (1, .agg #[.bool b, .slice y m d])] H = some (.slice (some ⟨H.next, 0, none⟩) 2 2, H.push (.cells [.bool a, .slice x n c, .bool b, .slice y m d] 88 false)) := by kernel_rfl
theorem bsh (k : Int) : ibuild J 90 [(0, .int .i64 k)] = some (.agg #[.int .i64 k, .slice none 0 0, .string ⟨#[]⟩]) := by kernel_rfl
theorem bss1 (H : IH) (k : Int) (x : Option Addr) (n c : Nat) (s : ByteArray) : ibuildSlice J 23 1 [(0, .agg #[.int .i64 k, .slice x n c, .string s])] H = some (.slice (some ⟨H.next, 0, none⟩) 1 1, H.push (.cells [.int .i64 k, .slice x n c, .string s] 90 false)) := by kernel_rfl
theorem bi0 (op : Int) : ibuild J 30 [(0, .int .i64 op)] = some (.agg (insC (ins op 0 0 0 0 0)).toArray) := by kernel_rfl
theorem bi05 (op n : Int) : ibuild J 30 [(0, .int .i64 op), (5, .int .i64 n)] = some (.agg (insC (ins op 0 0 0 0 n)).toArray) := by kernel_rfl
theorem bsc2 (H : IH) (x y : Ins) : ibuildSlice J 54 2 [(0, .agg (insC x).toArray), (1, .agg (insC y).toArray)] H = some (.slice (some ⟨H.next, 0, none⟩) 2 2, H.push (.cells (insC x ++ insC y) 30 false)) := by kernel_rfl
theorem bbl (a b : Option Addr) (n c m d : Nat) : ibuild J 56 [(0, .slice a n c), (1, .slice b m d)] = some (.agg #[.slice a n c, .slice b m d]) := by kernel_rfl
theorem bsb1 (H : IH) (a b : Option Addr) (n c m d : Nat) : ibuildSlice J 57 1 [(0, .agg #[.slice a n c, .slice b m d])] H = some (.slice (some ⟨H.next, 0, none⟩) 1 1, H.push (.cells [.slice a n c, .slice b m d] 56 false)) := by kernel_rfl
theorem bfn (s : Int) (b : Option Addr) (m d : Nat) : ibuild J 59 [(2, .int .i64 s), (3, .slice b m d)] = some (.agg #[.slice none 0 0, .int .i64 0, .int .i64 s, .slice b m d]) := by kernel_rfl
theorem bsf1 (H : IH) (r s : Int) (a b : Option Addr) (n c m d : Nat) : ibuildSlice J 25 1 [(0, .agg #[.slice a n c, .int .i64 r, .int .i64 s, .slice b m d])] H = some (.slice (some ⟨H.next, 0, none⟩) 1 1, H.push (.cells [.slice a n c, .int .i64 r, .int .i64 s, .slice b m d] 59 false)) := by kernel_rfl
theorem bim (a b e : Option Addr) (n c m d f g : Nat) : ibuild J 27 [(0, .slice a n c), (1, .slice b m d), (4, .slice e f g)] = some (.agg #[.slice a n c, .slice b m d, .slice none 0 0, .slice none 0 0, .slice e f g, .int .i64 0, .int .i64 0]) := by kernel_rfl
structure LeastAt (H : IH) (n : Nat) (ca : Option Addr) (cn cc : Nat) : Prop where
  g1 : H.get (n + 1) = some (.cells [.int .i64 0] 3 false)
  g2 : H.get (n + 2) = some (.cells [.bool true, .slice none 0 0, .bool false, .slice (some ⟨n + 1, 0, none⟩) 1 1] 88 false)
  g3 : H.get (n + 3) = some (.cells [.int .i64 3, .slice none 0 0, .string ⟨#[]⟩] 90 false)
  g4 : H.get (n + 4) = some (.cells [.int .i64 (-1)] 3 false)
  g6 : H.get (n + 6) = some (.cells [.slice (some ⟨n + 4, 0, none⟩) 1 1, .slice ca cn cc] 56 false)
  g7 : H.get (n + 7) = some (.cells [.slice none 0 0, .int .i64 0, .int .i64 1, .slice (some ⟨n + 6, 0, none⟩) 1 1] 59 false)
def leastU (n : Nat) : ImV := ⟨.slice (some ⟨n + 2, 0, none⟩) 2 2, .slice (some ⟨n + 3, 0, none⟩) 1 1, .slice none 0 0, .slice none 0 0, .slice (some ⟨n + 7, 0, none⟩) 1 1⟩
theorem c_Least : ∃ H', cal J okAll 22 #[] H = some (.ret ((leastU H.next).val (leastIm [])), H') ∧ Fr H.next H H' ∧ H'.next = H.next + 8 ∧ LeastAt H' H.next (some ⟨H.next + 5, 0, none⟩) 2 2 := by
  rw [cal22 _ _ (by simp)]
  simp [C22, regsOf, fin, iresult1, inew, Value.cells, IH.get_push, IH.get_set, istore, plain1, overlay, iparts, bt1, bt2, bsi1, bst2, bsh, bss1, bi0, bi05, bsc2, bbl, bsb1, bfn, bsf1, bim, loadT_agg, nn2, nn3, nn4, nn5, nn6, nn7, nn8, nn9, nn10, nn11]
  refine ⟨_, ⟨rfl, rfl⟩, ?_, by simp, ⟨?_, ?_, ?_, ?_, ?_, ?_⟩⟩
  · repeat' first | exact Fr.refl _ _ | apply Fr.push | apply Fr.set
    all_goals first | omega | (simp <;> omega)
  all_goals simp [IH.get_push, IH.get_set]
end
end Go.Proofs.YtchlbfmjnhgpgaaGreat.Idl
namespace Go.Proofs.YtchlbfmjnhgpgaaGreat.Idl
open Go
set_option maxHeartbeats 8000000
set_option maxRecDepth 100000
set_option linter.unusedSimpArgs false
def outB (l : List Nat) : ByteArray := strOf (l.map fun (n : Nat) => (n : Int))
def scr0 (f st : Nat) : Scr := ⟨[], f, 0, st, []⟩
def livesIm : Img := leastIm [ins 1 0 0 0 0 72, ins 16 0 0 0 0 0, ins 22 0 0 0 0 0]
def endIs (o : Option (Int × Mst)) (p : Int → Mst → Bool) : Bool := match o with
  | some (k, σ) => p k σ
  | none => false
theorem endIs_ok {o : Option (Int × Mst)} {p : Int → Mst → Bool} (h : endIs o p = true) : ∃ k σ, o = some (k, σ) ∧ p k σ = true := by
  unfold endIs at h
  split at h
  · exact ⟨_, _, rfl, h⟩
  · simp at h
theorem lives1 : endIs (runOut .none livesIm (scr0 9 9)) (fun k σ => decide (k = 1) && decide (σ.out = [72]) && decide (σ.steps = 3)) = true := by kernel_rfl
theorem lives2 : endIs (runOut .none livesIm (scr0 2 9)) (fun k σ => decide (k = 3) && decide (σ.out = [72])) = true := by kernel_rfl
theorem lives3 : endIs (runOut .none livesIm (scr0 9 2)) (fun k σ => decide (k = 5) && decide (σ.steps = 0)) = true := by kernel_rfl
section
variable {H : IH} {lo : Nat}
theorem bt_out : BT J 34 5 := ⟨by simp, by simp, by simp, by simp, by simp⟩
theorem conv_out {ov : Value} {l : List Nat} (h : OvAt H ov l) (hb : ∀ x ∈ bOf ov, x < H.next) : iconvert J 34 9 ov H = some (.string (outB l), H) := by
  refine conv_bytes (lo := 0) bt_out ?_ (by simp)
  rcases h with ⟨rfl, rfl⟩ | ⟨b, rfl, h2⟩
  · exact .inl ⟨rfl, rfl⟩
  · refine .inr ⟨b, Nat.zero_le _, hb b (by simp [bOf]), by simp, ?_⟩
    rw [h2, List.map_map]; rfl
theorem least_imv {n : Nat} {ca : Option Addr} {cn cc : Nat} {code : List Ins} (h : LeastAt H n ca cn cc) (hc : LAt lo 9 (InsAt H lo) (.slice ca cn cc) code) (hlo : n + 8 ≤ lo) : ImvAt H lo (leastU n) (leastIm code) := by
  refine ⟨LAt.mk rfl (by omega) fun i hi => ?_, LAt.mk rfl (by omega) fun i hi => ?_, LAt.nil, LAt.nil, LAt.mk rfl (by omega) fun i hi => ?_⟩
  · match i, hi with
    | 0, _ => exact ⟨_, _, _, h.g2, rfl, rfl, LAt.nil⟩
    | 1, _ => exact ⟨_, _, _, h.g2, rfl, rfl, LAt.mk rfl (by omega) fun i hi => by
        match i, hi with
        | 0, _ => exact CellAt.one h.g1 rfl⟩
  · match i, hi with
    | 0, _ => exact ⟨_, _, _, h.g3, rfl, rfl, rfl, LAt.nil⟩
  · match i, hi with
    | 0, _ => exact ⟨_, _, _, _, h.g7, rfl, rfl, rfl, rfl, LAt.nil, LAt.mk rfl (by omega) fun i hi => by
        match i, hi with
        | 0, _ => exact ⟨_, _, _, _, h.g6, rfl, rfl, LAt.mk rfl (by omega) fun i hi => by
            match i, hi with
            | 0, _ => exact CellAt.one h.g4 rfl, hc⟩⟩
end
end Go.Proofs.YtchlbfmjnhgpgaaGreat.Idl
namespace Go.Proofs.YtchlbfmjnhgpgaaGreat.Idl
open Go
set_option maxHeartbeats 8000000
set_option maxRecDepth 100000
set_option linter.unusedSimpArgs false
theorem bsc3 (H : IH) (x y z : Ins) : ibuildSlice J 54 3 [(0, .agg (insC x).toArray), (1, .agg (insC y).toArray), (2, .agg (insC z).toArray)] H = some (.slice (some ⟨H.next, 0, none⟩) 3 3, H.push (.cells (insC x ++ insC y ++ insC z) 30 false)) := by kernel_rfl
theorem bscr (f s : Int) : ibuild J 37 [(1, .int .i64 f), (3, .int .i64 s)] = some (.agg #[.slice none 0 0, .int .i64 f, .int .i64 0, .int .i64 s, .slice none 0 0]) := by kernel_rfl
theorem least_sm (code : List Ins) (h : ∀ x ∈ code, -9223372036854775808 ≤ x.n ∧ x.n ≤ 9223372036854775807) (hl : code.length ≤ 1000) : ImSm (leastIm code) := by
  refine ⟨fun x hx y hy => ?_, fun x hx y hy z hz => ?_⟩
  · simp only [leastIm, List.mem_singleton] at hx
    subst hx
    simp only [List.mem_singleton] at hy
    subst hy
    simp only; omega
  · simp only [leastIm, List.mem_singleton] at hx
    subst hx
    simp only [List.mem_singleton] at hy
    subst hy
    exact h z hz
section
variable {H : IH} {lo : Nat}
theorem run_least {n : Nat} {ca : Option Addr} {cn cc : Nat} {code : List Ins} (h : LeastAt H n ca cn cc) (hc : LAt H.next 9 (InsAt H H.next) (.slice ca cn cc) code) (hlo : n + 8 ≤ H.next) (hs : ImSm (leastIm code)) {f st : Nat} (hf : f ≤ 1000000) (hst : st ≤ 60000) {p : Int → Mst → Bool} (hp : endIs (runOut .none (leastIm code) (scr0 f st)) p = true) :
    ∃ k σ H' oa on oc, p k σ = true ∧ cal J okAll 19 #[(leastU n).val (leastIm code), .agg #[.slice none 0 0, .int .i64 f, .int .i64 0, .int .i64 st, .slice none 0 0]] H = some (.ret (.agg #[.int .i64 k, .slice oa on oc, .string σ.exn, .int .i64 (σ.steps : Int), .int .i64 (σ.swept : Int)]), H') ∧ Fr H.next H H' ∧ OvAt H' (.slice oa on oc) σ.out ∧ (∀ x ∈ bOf (.slice oa on oc), H.next ≤ x ∧ x < H'.next) := by
  obtain ⟨k, σ, hr, hk⟩ := endIs_ok hp
  have e1 : (scr0 f st).fuel = clampN f 16777216 := by simp [scr0, clampN]; omega
  have e2 : (scr0 f st).heap = clampN 0 65536 := by simp [scr0, clampN]
  have e3 : (scr0 f st).stack = clampN st 65536 := by simp [scr0, clampN]; omega
  obtain ⟨H', ov, c1, f1, o1, b1⟩ := c_Run (R := .none) (fun lo => Rest.none_ok lo _) (least_imv h hc hlo) (Nat.le_refl _) hs (iv := (none, 0, 0)) (cv := (none, 0, 0)) (f := f) (h := 0) (st := st) (s := scr0 f st) LAt.nil LAt.nil ⟨by simp [scr0], by simp [scr0]⟩ e1 e2 e3 hr
  obtain ⟨oa, on, oc, rfl⟩ : ∃ oa on oc, ov = .slice oa on oc := by
    rcases o1 with ⟨e, _⟩ | ⟨b, e, _⟩
    · exact ⟨_, _, _, e⟩
    · exact ⟨_, _, _, e⟩
  exact ⟨k, σ, H', oa, on, oc, hk, c1, f1, o1, b1⟩
theorem LeastAt.fr {n : Nat} {ca : Option Addr} {cn cc : Nat} (h : LeastAt H n ca cn cc) {H' : IH} {m : Nat} (f : Fr m H H') (hn : n + 8 ≤ m) : LeastAt H' n ca cn cc :=
  ⟨(f.2 _ (by omega)).trans h.g1, (f.2 _ (by omega)).trans h.g2, (f.2 _ (by omega)).trans h.g3, (f.2 _ (by omega)).trans h.g4, (f.2 _ (by omega)).trans h.g6, (f.2 _ (by omega)).trans h.g7⟩
theorem c_lives : ∃ H', cal J okAll 18 #[] H = some (.ret (.bool true), H') ∧ Fr H.next H H' := by
  rw [cal18 _ _ (by simp)]
  obtain ⟨H1, c1, f1, n1, l1⟩ := c_Least (H := H)
  obtain ⟨n, hn⟩ : ∃ n, n = H.next := ⟨_, rfl⟩
  rw [← hn] at c1 n1 l1
  obtain ⟨G1, hG1⟩ : ∃ G1, G1 = ((((H1.push (.cells [.slice none 0 0, .slice none 0 0, .slice none 0 0, .slice none 0 0, .slice none 0 0, .int .i64 0, .int .i64 0] 27 false)).set (n + 8) (.cells ((leastU n).cells (leastIm [])) 27 false)).push (.cells (insC (ins 1 0 0 0 0 72) ++ (insC (ins 16 0 0 0 0 0) ++ insC (ins 22 0 0 0 0 0))) 30 false)).set (n + 6) (.cells [.slice (some ⟨n + 4, 0, none⟩) 1 1, .slice (some ⟨n + 8 + 1, 0, none⟩) 3 3] 56 false)) := ⟨_, rfl⟩
  have nG1 : G1.next = n + 10 := by rw [hG1]; simp [n1]
  have gm : G1.get (n + 8) = some (.cells ((leastU n).cells (leastIm [])) 27 false) := by rw [hG1]; simp [IH.get_push, IH.get_set, n1]
  have gc : G1.get (n + 9) = some (.cells ([ins 1 0 0 0 0 72, ins 16 0 0 0 0 0, ins 22 0 0 0 0 0].flatMap insC) 30 false) := by rw [hG1]; simp [IH.get_push, IH.get_set, n1]
  have lG1 : LeastAt G1 n (some ⟨n + 9, 0, none⟩) 3 3 := by
    have o : ∀ x, x < n + 8 → x ≠ n + 6 → G1.get x = H1.get x := fun x hx hne => by
      rw [hG1, IH.get_set, if_neg hne, IH.get_push_other _ _ _ (by simp [n1]; omega), IH.get_set, if_neg (by omega), IH.get_push_other _ _ _ (by omega)]
    exact ⟨(o _ (by omega) (by omega)).trans l1.g1, (o _ (by omega) (by omega)).trans l1.g2, (o _ (by omega) (by omega)).trans l1.g3, (o _ (by omega) (by omega)).trans l1.g4, by rw [hG1, IH.get_set, if_pos rfl], (o _ (by omega) (by omega)).trans l1.g7⟩
  have fG1 : Fr n H G1 := ⟨by omega, fun x hx => by
    rw [hG1, IH.get_set, if_neg (by omega), IH.get_push_other _ _ _ (by simp [n1]; omega), IH.get_set, if_neg (by omega), IH.get_push_other _ _ _ (by omega)]
    exact f1.2 x (by omega)⟩
  have hsm : ImSm livesIm := least_sm _ (by simp [ins]) (by simp)
  have hcode : ∀ (G : IH), G.get (n + 9) = some (.cells ([ins 1 0 0 0 0 72, ins 16 0 0 0 0 0, ins 22 0 0 0 0 0].flatMap insC) 30 false) → n + 10 ≤ G.next → LAt G.next 9 (InsAt G G.next) (.slice (some ⟨n + 9, 0, none⟩) 3 3) [ins 1 0 0 0 0 72, ins 16 0 0 0 0 0, ins 22 0 0 0 0 0] := fun G hg hn => code_at rfl (by omega) hg (by simp [ins])
  obtain ⟨k1, σ1, R1, oa, on, oc, p1, r1, fr1, ov1, b1⟩ := run_least lG1 (hcode G1 gc (by omega)) (by omega) hsm (by omega) (by omega) lives1
  obtain ⟨G2, hG2⟩ : ∃ G2, G2 = (R1.push (.cells [.int .i64 0, .slice none 0 0, .string ⟨#[]⟩, .int .i64 0, .int .i64 0] 44 false)).set R1.next (.cells [.int .i64 k1, .slice oa on oc, .string σ1.exn, .int .i64 (σ1.steps : Int), .int .i64 (σ1.swept : Int)] 44 false) := ⟨_, rfl⟩
  have fr1n := fr1.1
  have nG2 : G2.next = R1.next + 1 := by rw [hG2]; simp
  have fG2 : Fr R1.next R1 G2 := by rw [hG2]; exact ((Fr.refl _ _).push (Nat.le_refl _) _).set (Nat.le_refl _) _
  have f12 : Fr (n + 10) G1 G2 := (fr1.of_le (by omega)).trans (fG2.of_le (by omega))
  have lG2 := lG1.fr f12 (by omega)
  obtain ⟨k2, σ2, R2, oa2, on2, oc2, p2, r2, fr2, ov2, b2⟩ := run_least lG2 (hcode G2 ((f12.2 _ (by omega)).trans gc) (by omega)) (by omega) hsm (by omega) (by omega) lives2
  have fr2n := fr2.1
  obtain ⟨G3, hG3⟩ : ∃ G3, G3 = (R2.push (.cells [.int .i64 0, .slice none 0 0, .string ⟨#[]⟩, .int .i64 0, .int .i64 0] 44 false)).set R2.next (.cells [.int .i64 k2, .slice oa2 on2 oc2, .string σ2.exn, .int .i64 (σ2.steps : Int), .int .i64 (σ2.swept : Int)] 44 false) := ⟨_, rfl⟩
  have nG3 : G3.next = R2.next + 1 := by rw [hG3]; simp
  have fG3 : Fr R2.next R2 G3 := by rw [hG3]; exact ((Fr.refl _ _).push (Nat.le_refl _) _).set (Nat.le_refl _) _
  have f23 : Fr G2.next G2 G3 := fr2.trans (fG3.of_le fr2n)
  have lG3 := lG2.fr f23 (by omega)
  have f13 : Fr (n + 10) G1 G3 := f12.trans (f23.of_le (by omega))
  obtain ⟨k3, σ3, R3, oa3, on3, oc3, p3, r3, fr3, ov3, b3⟩ := run_least lG3 (hcode G3 ((f13.2 _ (by omega)).trans gc) (by omega)) (by omega) hsm (by omega) (by omega) lives3
  have fr3n := fr3.1
  obtain ⟨G4, hG4⟩ : ∃ G4, G4 = (R3.push (.cells [.int .i64 0, .slice none 0 0, .string ⟨#[]⟩, .int .i64 0, .int .i64 0] 44 false)).set R3.next (.cells [.int .i64 k3, .slice oa3 on3 oc3, .string σ3.exn, .int .i64 (σ3.steps : Int), .int .i64 (σ3.swept : Int)] 44 false) := ⟨_, rfl⟩
  have nG4 : G4.next = R3.next + 1 := by rw [hG4]; simp
  have fG4 : Fr R3.next R3 G4 := by rw [hG4]; exact ((Fr.refl _ _).push (Nat.le_refl _) _).set (Nat.le_refl _) _
  have f34 : Fr G3.next G3 G4 := fr3.trans (fG4.of_le fr3n)
  have f24 : Fr G2.next G2 G4 := f23.trans (f34.of_le (by omega))
  have t2 : G4.get R1.next = some (.cells [.int .i64 k1, .slice oa on oc, .string σ1.exn, .int .i64 (σ1.steps : Int), .int .i64 (σ1.swept : Int)] 44 false) := by
    rw [f24.2 _ (by omega), hG2, IH.get_set, if_pos rfl]
  have t3 : G4.get R2.next = some (.cells [.int .i64 k2, .slice oa2 on2 oc2, .string σ2.exn, .int .i64 (σ2.steps : Int), .int .i64 (σ2.swept : Int)] 44 false) := by
    rw [f34.2 _ (by omega), hG3, IH.get_set, if_pos rfl]
  have t4 : G4.get R3.next = some (.cells [.int .i64 k3, .slice oa3 on3 oc3, .string σ3.exn, .int .i64 (σ3.steps : Int), .int .i64 (σ3.swept : Int)] 44 false) := by
    rw [hG4, IH.get_set, if_pos rfl]
  have o1 : OvAt G4 (.slice oa on oc) σ1.out := ov1.same fun x hm => by
    have := (b1 x hm).2
    rw [f24.2 x (by omega), fG2.2 x (by omega)]
  have o2 : OvAt G4 (.slice oa2 on2 oc2) σ2.out := ov2.same fun x hm => by
    have := (b2 x hm).2
    rw [f34.2 x (by omega), fG3.2 x (by omega)]
  have v1 := conv_out o1 fun x hm => by have := (b1 x hm).2; omega
  have v2 := conv_out o2 fun x hm => by have := (b2 x hm).2; omega
  simp only [Bool.and_eq_true, decide_eq_true_eq] at p1 p2 p3
  obtain ⟨⟨rfl, p12⟩, p13⟩ := p1
  obtain ⟨rfl, p22⟩ := p2
  obtain ⟨rfl, p32⟩ := p3
  rw [p12] at v1
  rw [p22] at v2
  rw [p13] at t2
  rw [p32] at t4
  have hH : outB [72] = ⟨#[72]⟩ := rfl
  rw [hH] at v1 v2
  have hfin : Fr H.next H G4 := by
    rw [← hn]
    exact (fG1.trans (f12.of_le (by omega))).trans (f24.of_le (by omega))
  have gm2 := (f12.2 (n + 8) (by omega)).trans gm
  have gm3 := (f13.2 (n + 8) (by omega)).trans gm
  simp only [ImV.val, ImV.cells, leastU, leastIm, Int.cast_ofNat_Int] at c1 gm gm2 gm3 hG1 r1 r2 r3
  refine ⟨G4, ?_, hfin⟩
  simp [C18, regsOf, fin, iresult1, c1, inew, n1, Value.cells, IH.get_push, IH.get_set, istore, plain1, overlay, iparts, bi0, bi05, bsc3, bscr, loadT_agg, iindexAddr, l1.g7, l1.g6, ← hG1, gm, gm2, gm3, r1, r2, r3, ← hG2, ← hG3, ← hG4, t2, t3, t4, v1, v2]
end
end Go.Proofs.YtchlbfmjnhgpgaaGreat.Idl
