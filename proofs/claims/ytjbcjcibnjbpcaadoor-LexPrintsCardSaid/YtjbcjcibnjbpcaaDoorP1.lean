/- The ideal machine: code, calls; what they come to, the model's program comes to. -/
import Derived.Test.YtjbcjcibnjbpcaaDoorP0
import Derived.Laws.StructEq
import Derived.ChangeArms
import Derived.OpenShut
import Derived.DataReads
import Derived.Carry
import Derived.WideShapes
import Derived.ChangeShapes
import Derived.Shelf.Strconv.Itoa4
import Derived.Test.YtjbcjcibnjbpcaaDoorChecked
import Derived.Below
import Derived.KernelRfl
import Derived.Deep.Draws
import Derived.Deep.AppendLies
import Derived.Maps.AppendAt
import Derived.OwnWalk
import Derived.Laws.BytesArg
import Derived.Laws.MakeOwn
import Derived.Laws.OwnMore
import Derived.Deep.OwnRows
import Derived.Tactics
import Derived.Lib.ConvBytes
import Derived.Laws.Slices
import Derived.WalkKit
import Derived.RowKit3
import Derived.Deep.LoopGhost
import Derived.Deep.QuietTactic
import Derived.BigQuiet
import Derived.WideLaws
import Derived.Deep.DeepCutAuto
import Derived.Deep.CutBlock
import Derived.Deep.RegionHeld3
import Derived.Laws.Rows
import Derived.Lib.AppendStr
import Derived.ArgAppend
import Derived.Laws.IdiomCopy
import Derived.RowKit
import Derived.OrdersHeld
import Derived.Laws.BitsLemmas
import Derived.Test.YtjbcjcibnjbpcaaDoorProg
namespace Go.Proofs.YtjbcjcibnjbpcaaDoor.Idl
open Go Go.RowKit

def icode (J : Env) (call : CallR) : Nat → Code → Regs → IH → Option (IX × Regs × IH)
  | 0, _, _, _ => none
  | k + 1, c, T, H => match c with
    | .skip => some (.normal, T, H)
    | .label _ => some (.normal, T, H)
    | .region _ ops draw => if draw then idraw J call ops T H else iops J call ops ops.toList T H
    | .seq a b => match icode J call k a T H with
      | some (.normal, T', H') => icode J call k b T' H'
      | r => r
    | .cond c x y => match iev T c with
      | .bool true => icode J call k x T H
      | .bool false => icode J call k y T H
      | _ => none
    | .block id body => match icode J call k body T H with
      | some (.exit id', T', H') => if id' = id then some (.normal, T', H') else some (.exit id', T', H')
      | r => r
    | .loop body => match icode J call k body T H with
      | some (.normal, T', H') => icode J call k (.loop body) T' H'
      | r => r
    | .exit id => some (.exit id, T, H)
    | .ret => some (.ret, T, H)
    | _ => none
def codeOk (J : Env) (N : Nat) : Code → Bool
  | .region _ ops draw => ops.all (opOk J N) && (!draw || regionOk J ops)
  | .seq a b => codeOk J N a && codeOk J N b
  | .cond c x y => operandOk J c && codeOk J N x && codeOk J N y
  | .block _ c => codeOk J N c
  | .loop c => codeOk J N c
  | _ => true
def icall (J : Env) (okf : FuncId → Bool) : Nat → CallR
  | 0, _, _, _ => none
  | k + 1, f, args, H => match J.hook f args.toList with
    | some v => some (.ret v, H)
    | none => if okf f then
      match J.fn f with
      | some fn => match fn.body with
        | some c => if args.size ≤ fn.ntmps then
            match icode J (icall J okf k) k c (regsOf args.toList 0 .leaf) H with
            | some (.normal, T', H') => (iresults J fn T' H').map fun v => (.ret v, H')
            | some (.ret, T', H') => (iresults J fn T' H').map fun v => (.ret v, H')
            | some (.pan v, _, H') => some (.pan v, H')
            | _ => none
          else none
        | none => none
      | none => none
    else none

section
variable {J : Env} {B : Nat}
theorem CodePost.trans {ι ι1 : Emb} {n n1 : Nat} {w w1 : World} {a a1 : Act} {x : IX} {T' : Regs} {H' : IH} (h1 : Ext ι n ι1 n1) (h2 : Below B w w1) (h3 : a1.defers = a.defers) (h4 : a1.tmps.size = a.tmps.size) {e : Exit} {a' : Act} {w' : World}
    (h : CodePost J B ι1 n1 w1 a1 x T' H' e a' w') : CodePost J B ι n w a x T' H' e a' w' := by
  obtain ⟨ι2, v, q1, q2, q3, q4, q5, q6, q7⟩ := h
  exact ⟨ι2, v, q1, q2, h1.trans q3, h2.trans q4, q5.trans h3, q6.trans h4, q7⟩
theorem icode_wp {call : CallR} (hm : J.P.follows .mixedOrders = true) (hcall : CallSound J B call) : ∀ (k : Nat),
    (∀ (c : Code) (ι : Emb) (H : IH) (w : World) (T : Regs) (a : Act) (x : IX) (T' : Regs) (H' : IH), Sim J B ι H w → RegsRel ι H.next T a.tmps → codeOk J a.tmps.size c = true → icode J call k c T H = some (x, T', H') →
      c.wp J.P (CodePost J B ι H.next w a x T' H') a w) ∧
    (∀ (c : Code) (ι : Emb) (H : IH) (w : World) (T : Regs) (a : Act) (x : IX) (T' : Regs) (H' : IH), Sim J B ι H w → RegsRel ι H.next T a.tmps → codeOk J a.tmps.size c = true → icode J call k (.loop c) T H = some (x, T', H') →
      ∀ (b : Frame) (kk : List Item) (cs : List Frame), ∃ e a' w', CodePost J B ι H.next w a x T' H' e a' w' ∧ Arrives J.P (lone (b.at a (.code c :: .inLoop c :: kk)) cs w) b kk cs e a' w') := by
  intro k
  induction k with
  | zero => exact ⟨fun c ι H w T a x T' H' _ _ _ h => by simp [icode] at h, fun c ι H w T a x T' H' _ _ _ h => by simp [icode] at h⟩
  | succ k ih =>
    have hloop : ∀ (c : Code) (ι : Emb) (H : IH) (w : World) (T : Regs) (a : Act) (x : IX) (T' : Regs) (H' : IH), Sim J B ι H w → RegsRel ι H.next T a.tmps → codeOk J a.tmps.size c = true → icode J call (k + 1) (.loop c) T H = some (x, T', H') →
      ∀ (b : Frame) (kk : List Item) (cs : List Frame), ∃ e a' w', CodePost J B ι H.next w a x T' H' e a' w' ∧ Arrives J.P (lone (b.at a (.code c :: .inLoop c :: kk)) cs w) b kk cs e a' w' := by
      intro c ι H w T a x T' H' hS hR hok h b kk cs
      simp only [icode] at h
      cases hb : icode J call k c T H with
      | none => simp [hb] at h
      | some r =>
        obtain ⟨x1, T1, H1⟩ := r
        obtain ⟨e, a1, w1, ⟨ι1, v, q1, q2, q3, q4, q5, q6, q7⟩, harr⟩ := ih.1 c ι H w T a x1 T1 H1 hS hR hok hb b (.inLoop c :: kk) cs
        subst q1
        cases x1 with
        | normal =>
          simp only [hb] at h
          obtain ⟨e2, a2, w2, p1, p2⟩ := ih.2 c ι1 H1 w1 T1 a1 x T' H' q2 q7 (by rw [q6]; exact hok) h b kk cs
          exact ⟨e2, a2, w2, p1.trans q3 q4 q5 q6, .of_steps (Steps.trans harr (.one step_inLoop)) p2⟩
        | exit id =>
          simp only [hb, Option.some.injEq, Prod.mk.injEq] at h
          obtain ⟨rfl, rfl, rfl⟩ := h
          exact ⟨_, a1, w1, ⟨ι1, v, rfl, q2, q3, q4, q5, q6, q7⟩, .pass (x := .inLoop c) rfl (fun _ _ => .inl (by simp [toExit])) harr⟩
        | ret =>
          simp only [hb, Option.some.injEq, Prod.mk.injEq] at h
          obtain ⟨rfl, rfl, rfl⟩ := h
          exact ⟨_, a1, w1, ⟨ι1, v, rfl, q2, q3, q4, q5, q6, q7⟩, .pass (x := .inLoop c) rfl (fun _ _ => .inl (by simp [toExit])) harr⟩
        | pan u =>
          simp only [hb, Option.some.injEq, Prod.mk.injEq] at h
          obtain ⟨rfl, rfl, rfl⟩ := h
          exact ⟨_, a1, w1, ⟨ι1, v, rfl, q2, q3, q4, q5, q6, q7⟩, .pass (x := .inLoop c) rfl (fun _ _ => .inl (by simp [toExit])) harr⟩
    refine ⟨fun c ι H w T a x T' H' hS hR hok h => ?_, hloop⟩
    cases c with
    | skip =>
      simp only [icode, Option.some.injEq, Prod.mk.injEq] at h
      obtain ⟨rfl, rfl, rfl⟩ := h
      exact wp_skip ⟨ι, undef, rfl, hS, Ext.refl _ _, Below.refl _ _, rfl, rfl, hR⟩
    | label l =>
      simp only [icode, Option.some.injEq, Prod.mk.injEq] at h
      obtain ⟨rfl, rfl, rfl⟩ := h
      exact wp_label ⟨ι, undef, rfl, hS, Ext.refl _ _, Below.refl _ _, rfl, rfl, hR⟩
    | region id ops draw =>
      simp only [icode] at h
      simp only [codeOk, Bool.and_eq_true] at hok
      obtain ⟨hok, hrok⟩ := hok
      cases draw with
      | true =>
        simp only [if_true] at h
        exact draw_wp hcall hS hR (fun o ho => Array.all_eq_true'.1 hok o ho) (by simpa using hrok) h id hm
      | false =>
        simp only [Bool.false_eq_true, if_false] at h
        exact wp_region_list (iops_wp hcall ops ops.toList ι H w T a x T' H' hS hR (fun o ho => Array.all_eq_true'.1 hok o (by simpa using ho)) h)
    | seq c1 c2 =>
      simp only [codeOk, Bool.and_eq_true] at hok
      simp only [icode] at h
      cases hb : icode J call k c1 T H with
      | none => simp [hb] at h
      | some r =>
        obtain ⟨x1, T1, H1⟩ := r
        refine wp_seq (Code.wp_mono ?_ (ih.1 c1 ι H w T a x1 T1 H1 hS hR hok.1 hb))
        rintro e a1 w1 ⟨ι1, v, q1, q2, q3, q4, q5, q6, q7⟩
        subst q1
        cases x1 with
        | normal =>
          simp only [hb] at h
          exact Code.wp_mono (fun e a2 w2 p => p.trans q3 q4 q5 q6) (ih.1 c2 ι1 H1 w1 T1 a1 x T' H' q2 q7 (by rw [q6]; exact hok.2) h)
        | exit id =>
          simp only [hb, Option.some.injEq, Prod.mk.injEq] at h
          obtain ⟨rfl, rfl, rfl⟩ := h
          exact ⟨ι1, v, rfl, q2, q3, q4, q5, q6, q7⟩
        | ret =>
          simp only [hb, Option.some.injEq, Prod.mk.injEq] at h
          obtain ⟨rfl, rfl, rfl⟩ := h
          exact ⟨ι1, v, rfl, q2, q3, q4, q5, q6, q7⟩
        | pan u =>
          simp only [hb, Option.some.injEq, Prod.mk.injEq] at h
          obtain ⟨rfl, rfl, rfl⟩ := h
          exact ⟨ι1, v, rfl, q2, q3, q4, q5, q6, q7⟩
    | cond c c1 c2 =>
      simp only [codeOk, Bool.and_eq_true] at hok
      have hc := operand_rel hS hR hok.1.1
      simp only [icode] at h
      split at h
      · rename_i e
        rw [e] at hc
        have he : a.eval c = .bool true := by cases hra : a.eval c <;> rw [hra] at hc <;> cases hc; rfl
        exact wp_cond_true he (ih.1 c1 ι H w T a x T' H' hS hR hok.1.2 h)
      · rename_i e
        rw [e] at hc
        have he : a.eval c = .bool false := by cases hra : a.eval c <;> rw [hra] at hc <;> cases hc; rfl
        exact wp_cond_false he (ih.1 c2 ι H w T a x T' H' hS hR hok.2 h)
      · simp at h
    | block id c =>
      simp only [icode] at h
      simp only [codeOk] at hok
      cases hb : icode J call k c T H with
      | none => simp [hb] at h
      | some r =>
        obtain ⟨x1, T1, H1⟩ := r
        refine wp_block (Code.wp_mono ?_ (ih.1 c ι H w T a x1 T1 H1 hS hR hok hb))
        rintro e a1 w1 ⟨ι1, v, q1, q2, q3, q4, q5, q6, q7⟩
        subst q1
        cases x1 with
        | exit id' =>
          simp only [hb] at h
          simp only [toExit, Exit.inBlock]
          split at h
          · rename_i hid
            rw [if_pos hid]
            simp only [Option.some.injEq, Prod.mk.injEq] at h
            obtain ⟨rfl, rfl, rfl⟩ := h
            exact ⟨ι1, undef, rfl, q2, q3, q4, q5, q6, q7⟩
          · rename_i hid
            rw [if_neg hid]
            simp only [Option.some.injEq, Prod.mk.injEq] at h
            obtain ⟨rfl, rfl, rfl⟩ := h
            exact ⟨ι1, v, rfl, q2, q3, q4, q5, q6, q7⟩
        | normal =>
          simp only [hb, Option.some.injEq, Prod.mk.injEq] at h
          obtain ⟨rfl, rfl, rfl⟩ := h
          exact ⟨ι1, v, rfl, q2, q3, q4, q5, q6, q7⟩
        | ret =>
          simp only [hb, Option.some.injEq, Prod.mk.injEq] at h
          obtain ⟨rfl, rfl, rfl⟩ := h
          exact ⟨ι1, v, rfl, q2, q3, q4, q5, q6, q7⟩
        | pan u =>
          simp only [hb, Option.some.injEq, Prod.mk.injEq] at h
          obtain ⟨rfl, rfl, rfl⟩ := h
          exact ⟨ι1, v, rfl, q2, q3, q4, q5, q6, q7⟩
    | loop c =>
      intro b kk cs
      obtain ⟨e, a', w', h1, h2⟩ := hloop c ι H w T a x T' H' hS hR hok h b kk cs
      exact ⟨e, a', w', h1, .of_steps (.one step_loop) h2⟩
    | exit id =>
      simp only [icode, Option.some.injEq, Prod.mk.injEq] at h
      obtain ⟨rfl, rfl, rfl⟩ := h
      exact wp_exit ⟨ι, undef, rfl, hS, Ext.refl _ _, Below.refl _ _, rfl, rfl, hR⟩
    | ret =>
      simp only [icode, Option.some.injEq, Prod.mk.injEq] at h
      obtain ⟨rfl, rfl, rfl⟩ := h
      exact wp_ret ⟨ι, undef, rfl, hS, Ext.refl _ _, Below.refl _ _, rfl, rfl, hR⟩
    | rangeFunc => simp [icode] at h
    | scope => simp [icode] at h
    | goto => simp [icode] at h
    | refuse => simp [icode] at h

theorem regsOf_at : ∀ (l : List Value) (i : Nat) (T : Regs) (t : Nat), (regsOf l i T).at t = if i ≤ t then (match l[t - i]? with | some v => v | none => T.at t) else T.at t := by
  intro l
  induction l with
  | nil => intro i T t; simp [regsOf]
  | cons v l ih =>
    intro i T t
    simp only [regsOf]
    rw [ih, at_set]
    by_cases h1 : i + 1 ≤ t
    · rw [if_pos h1, if_pos (show i ≤ t by omega), if_neg (show ¬ t = i by omega)]
      rw [show t - i = (t - (i + 1)) + 1 by omega, List.getElem?_cons_succ]
    · rw [if_neg h1]
      by_cases h2 : t = i
      · subst h2; simp
      · rw [if_neg h2, if_neg (by omega)]
theorem regsOf_rel {ι : Emb} {n N : Nat} {args args' : Array Value} (h : LRel ι n args.toList args'.toList) : RegsRel ι n (regsOf args.toList 0 .leaf) (args' ++ Array.replicate (N - args'.size) undef) := by
  intro t
  rw [regsOf_at]
  simp only [Nat.zero_le, if_true, Nat.sub_zero]
  cases hx : args.toList[t]? with
  | some v =>
    obtain ⟨y, hy, hr⟩ := h.get hx
    have hlt := (List.getElem?_eq_some_iff.1 hy).1
    simp at hlt
    have : (args' ++ Array.replicate (N - args'.size) undef).getD t undef = y := by
      rw [Array.getD_eq_getD_getElem?, Array.getElem?_append_left hlt, ← Array.getElem?_toList, hy]; rfl
    rw [this]; exact hr
  | none =>
    have hge : args'.size ≤ t := by
      have := List.getElem?_eq_none_iff.1 hx
      have := h.1
      simp at *; omega
    have : (args' ++ Array.replicate (N - args'.size) undef).getD t undef = undef := by
      rw [Array.getD_eq_getD_getElem?, Array.getElem?_append_right hge, Array.getElem?_replicate]
      split <;> rfl
    rw [this]; exact VRel.undef
theorem results_list {ι : Emb} {H : IH} {w : World} {T : Regs} {tmps : Array Value} (hS : Sim J B ι H w) (hR : RegsRel ι H.next T tmps) (g : ResultVar → Sem Value)
    (hg1 : ∀ t, g (.tmp t) = pure (tmps.getD t undef)) (hg2 : ∀ a t, g (.cell a t) = do loadVar t (← asAddr (tmps.getD a undef))) : ∀ (l : List ResultVar) (vs : List Value), l.mapM (iresult1 J T H) = some vs →
    ∃ us, (l.mapM g).run J.P w = .ok us w ∧ LRel ι H.next vs us := by
  intro l
  induction l with
  | nil => intro vs h; simp at h; subst h; exact ⟨[], rfl, .nil⟩
  | cons r l ih =>
    intro vs h
    rw [List.mapM_cons] at h ⊢
    cases e : iresult1 J T H r with
    | none => simp [e] at h
    | some v =>
      cases e2 : l.mapM (iresult1 J T H) with
      | none => simp [e, e2] at h
      | some vs2 =>
        simp [e, e2] at h
        subst h
        obtain ⟨us, h1, h2⟩ := ih vs2 e2
        have one : ∃ u, (g r).run J.P w = .ok u w ∧ VRel ι H.next v u := by
          cases r with
          | tmp t =>
            simp only [iresult1, Option.some.injEq] at e
            subst e
            exact ⟨_, by rw [hg1]; rfl, hR t⟩
          | cell a t =>
            simp only [iresult1] at e
            split at e
            · rename_i ad had
              have hr := hR a
              rw [had] at hr
              cases hra : tmps.getD a undef <;> rw [hra] at hr <;> cases hr
              rename_i hA
              obtain ⟨v', h3, h4⟩ := iload_run hS hA e
              refine ⟨v', ?_, h4⟩
              rw [hg2, hra]
              rw [run_bind_ok (show (asAddr (.pointer (some _))).run J.P w = .ok _ w from rfl)]
              exact h3
            · simp at e
        obtain ⟨u, h3, h4⟩ := one
        exact ⟨u :: us, by rw [run_bind_ok h3, run_bind_ok h1]; rfl, .cons h4 h2⟩
theorem results_run {ι : Emb} {H : IH} {w : World} {T : Regs} {tmps : Array Value} {fn : Func} {v : Value} (hS : Sim J B ι H w) (hR : RegsRel ι H.next T tmps) (h : iresults J fn T H = some v) :
    ∃ v', (results fn tmps).run J.P w = .ok v' w ∧ VRel ι H.next v v' := by
  unfold iresults at h
  unfold results
  rw [Array.mapM_eq_mapM_toList]
  split at h
  · rename_i u hu
    cases h
    obtain ⟨us, h1, h2⟩ := results_list hS hR (fun r => match r with | .tmp t => pure (tmps.getD t undef) | .cell a t => do loadVar t (← asAddr (tmps.getD a undef))) (fun t => rfl) (fun a t => rfl) _ _ hu
    have hl : us.length = 1 := by have := h2.1; simpa using this.symm
    match us, hl with
    | [y], _ =>
      refine ⟨y, ?_, h2.2 0 _ y rfl rfl⟩
      exact (run_bind_ok (run_map h1)).trans rfl
  · rename_i vs hne hvs
    cases h
    obtain ⟨us, h1, h2⟩ := results_list hS hR (fun r => match r with | .tmp t => pure (tmps.getD t undef) | .cell a t => do loadVar t (← asAddr (tmps.getD a undef))) (fun t => rfl) (fun a t => rfl) _ _ hvs
    refine ⟨.tuple us.toArray, ?_, .tuple (by simpa using h2.1) fun i x y hx hy => h2.2 i x y (by simpa using hx) (by simpa using hy)⟩
    refine (run_bind_ok (run_map h1)).trans ?_
    have hl : us.toArray.size ≠ 1 := by
      intro e
      have hl2 : vs.length = 1 := by have := h2.1; simp at e; omega
      match vs, hl2 with
      | [y], _ => exact hne y rfl
    rw [dif_neg hl]; rfl
  · simp at h
theorem icall_sound (hm : J.P.follows .mixedOrders = true) {okf : FuncId → Bool} (hok : ∀ f fn c, okf f = true → J.fn f = some fn → fn.body = some c → codeOk J fn.ntmps c = true) : ∀ k, CallSound J B (icall J okf k) := by
  intro k
  induction k with
  | zero => intro f args args' H ι w r H' _ _ h; simp [icall] at h
  | succ k ih =>
    intro f args args' H ι w r H' hS hA h
    simp only [icall] at h
    split at h
    · rename_i v hv
      cases h
      obtain ⟨h1, h2, h3⟩ := J.hook_ok f args.toList v hv
      have he : args = args' := by
        apply Array.ext'
        apply List.ext_getElem? 
        intro i
        cases hx : args.toList[i]? with
        | none =>
          have h4 := List.getElem?_eq_none_iff.1 hx
          have h5 := hA.1
          rw [List.getElem?_eq_none_iff.2 (by omega)]
        | some x =>
          obtain ⟨y, hy, hr⟩ := hA.get hx
          rw [hy, flat_eq hr (List.all_eq_true.1 h2 x (List.mem_of_getElem? hx))]
      subst he
      have h4 := h3 w (Env.keep_inv hS.keep)
      rw [Array.toArray_toList] at h4
      exact h4.mono fun e w' ⟨h5, h6⟩ => ⟨ι, hS.more h6, Ext.refl _ _, ⟨h6.os, h6.tape, h6.output, h6.size, fun k hk => h6.block k (Nat.lt_of_lt_of_le hk hS.base)⟩, v, h5, VRel.ofFlat h1⟩
    split at h
    case isFalse => simp at h
    rename_i hf
    split at h
    case h_2 => simp at h
    rename_i fn hfn
    split at h
    case h_2 => simp at h
    rename_i c hc
    split at h
    case isFalse => simp at h
    rename_i hsz
    have hsz' : args'.size ≤ fn.ntmps := by have := hA.1; simp at this; omega
    have hts : (args' ++ Array.replicate (fn.ntmps - args'.size) undef).size = fn.ntmps := by simp; omega
    refine calls_of_wp (J.fn_ok f fn hfn).1 hc ?_
    have key : ∀ (x : IX) (T' : Regs) (H1 : IH), icode J (icall J okf k) k c (regsOf args.toList 0 .leaf) H = some (x, T', H1) →
        c.wp J.P (CodePost J B ι H.next w { tmps := args' ++ Array.replicate (fn.ntmps - args'.size) undef, defers := [] } x T' H1) { tmps := args' ++ Array.replicate (fn.ntmps - args'.size) undef, defers := [] } w :=
      fun x T' H1 hx => (icode_wp hm ih k).1 c ι H w _ { tmps := args' ++ Array.replicate (fn.ntmps - args'.size) undef, defers := [] } x T' H1 hS (regsOf_rel hA) (by rw [hts]; exact hok f fn c hf hfn hc) hx
    have ret : ∀ (x : IX) (T' : Regs) (H1 : IH), (x = .normal ∨ x = .ret) → icode J (icall J okf k) k c (regsOf args.toList 0 .leaf) H = some (x, T', H1) → (iresults J fn T' H1).map (fun v => (IE.ret v, H1)) = some (r, H') →
        c.wp J.P (bodyPost J.P fn (CallPost J B ι H.next w r H')) { tmps := args' ++ Array.replicate (fn.ntmps - args'.size) undef, defers := [] } w := by
      intro x T' H1 hx1 hx2 hx3
      cases hv : iresults J fn T' H1 with
      | none => simp [hv] at hx3
      | some v =>
        simp only [hv, Option.map_some, Option.some.injEq, Prod.mk.injEq] at hx3
        obtain ⟨rfl, rfl⟩ := hx3
        refine Code.wp_mono ?_ (key x T' H1 hx2)
        rintro e a' w' ⟨ι', u, q1, q2, q3, q4, q5, q6, q7⟩
        rcases hx1 with rfl | rfl
        · obtain ⟨v', r1, r2⟩ := results_run q2 q7 hv
          subst q1
          exact ⟨q5, v', r1, ι', q2, q3, q4, v', rfl, r2⟩
        · obtain ⟨v', r1, r2⟩ := results_run q2 q7 hv
          subst q1
          exact ⟨q5, v', r1, ι', q2, q3, q4, v', rfl, r2⟩
    split at h
    · rename_i T' H1 hx; exact ret _ _ _ (.inl rfl) hx h
    · rename_i T' H1 hx; exact ret _ _ _ (.inr rfl) hx h
    · rename_i v T' H1 hx
      cases h
      refine Code.wp_mono ?_ (key _ _ _ hx)
      rintro e a' w' ⟨ι', u, q1, q2, q3, q4, q5, q6, q7⟩
      subst q1
      exact ⟨q5, ι', q2, q3, q4, u, rfl, q7⟩
    · simp at h
end
end Go.Proofs.YtjbcjcibnjbpcaaDoor.Idl
namespace Go.Proofs.YtjbcjcibnjbpcaaDoor.Idl
open Go Go.RowKit

def Tr.AllAt {α : Type} (p : Nat → α → Prop) (f : Nat → Nat) : Tr α → Prop
  | .leaf => True
  | .node v l r => (match v with | some x => p (f 0) x | none => True) ∧ Tr.AllAt p (fun m => f (2 * m + 1)) l ∧ Tr.AllAt p (fun m => f (2 * m + 2)) r
theorem Tr.allAt {α : Type} {p : Nat → α → Prop} : ∀ (t : Tr α) (f : Nat → Nat), Tr.AllAt p f t → ∀ n x, t.get n = some x → p (f n) x := by
  intro t
  induction t with
  | leaf => intro f _ n x h; simp [Tr.get] at h
  | node v l r ihl ihr =>
    intro f h n x hx
    obtain ⟨h1, h2, h3⟩ := h
    simp only [Tr.get] at hx
    by_cases e : n = 0
    · subst e
      rw [if_pos rfl] at hx
      subst hx
      exact h1
    · rw [if_neg e] at hx
      by_cases e1 : n % 2 = 1
      · rw [if_pos e1] at hx
        have := ihl _ h2 _ _ hx
        rw [show 2 * (n / 2) + 1 = n by omega] at this
        exact this
      · rw [if_neg e1] at hx
        have := ihr _ h3 _ _ hx
        rw [show 2 * ((n - 1) / 2) + 2 = n by omega] at this
        exact this
def TyOk (P : Program) (t : Nat) (i : TyI) : Prop :=
  P.underlying t = some i.und ∧ ∃ inf, P.info? t = some inf ∧ inf.size = i.size ∧ inf.bytes = i.bytes ∧ ∀ z, i.zero = some z → inf.zero = some z ∧ flat z = true
theorem tyOk_mk {P : Program} {t s b : Nat} {d : TypeDesc} {z : Value} (h1 : P.underlying t = some d) (h2 : (P.info? t).map (fun i => (i.size, i.bytes, i.zero)) = some (s, b, some z)) (h3 : flat z = true) : TyOk P t ⟨d, s, b, some z⟩ := by
  refine ⟨h1, ?_⟩
  cases e : P.info? t with
  | none => simp [e] at h2
  | some inf =>
    simp only [e, Option.map_some, Option.some.injEq, Prod.mk.injEq] at h2
    obtain ⟨rfl, rfl, h⟩ := h2
    exact ⟨inf, rfl, rfl, rfl, fun y hy => by cases hy; exact ⟨h, h3⟩⟩
theorem tyOk_mk0 {P : Program} {t s b : Nat} {d : TypeDesc} (h1 : P.underlying t = some d) (h2 : (P.info? t).map (fun i => (i.size, i.bytes)) = some (s, b)) : TyOk P t ⟨d, s, b, none⟩ := by
  refine ⟨h1, ?_⟩
  cases e : P.info? t with
  | none => simp [e] at h2
  | some inf =>
    simp only [e, Option.map_some, Option.some.injEq, Prod.mk.injEq] at h2
    obtain ⟨rfl, rfl⟩ := h2
    exact ⟨inf, rfl, rfl, rfl, fun y hy => by cases hy⟩
def FnOk (P : Program) (f : Nat) (x : Func) : Prop := P.funcs[f]? = some x ∧ (x.name == "runtime.NumGoroutine") = false
/-- A function's code passes the look. -/
def bodyOk (J : Env) (fn : Func) : Bool :=
  match fn.body with
  | some c => codeOk J fn.ntmps c
  | none => true
end Go.Proofs.YtjbcjcibnjbpcaaDoor.Idl
namespace Go.Proofs.YtjbcjcibnjbpcaaDoor.Idl
open Go Go.RowKit

section
variable (J : Env) (call : CallR) (k : Nat) (T : Regs) (H : IH)
theorem icode_skip : icode J call (k + 1) .skip T H = some (.normal, T, H) := rfl
theorem icode_label (l : Nat) : icode J call (k + 1) (.label l) T H = some (.normal, T, H) := rfl
theorem icode_exit (i : Nat) : icode J call (k + 1) (.exit i) T H = some (.exit i, T, H) := rfl
theorem icode_ret : icode J call (k + 1) .ret T H = some (.ret, T, H) := rfl
theorem icode_region (i : Nat) (ops : Array Oper) : icode J call (k + 1) (.region i ops false) T H = iops J call ops ops.toList T H := rfl
theorem icode_draw (i : Nat) (ops : Array Oper) : icode J call (k + 1) (.region i ops true) T H = idraw J call ops T H := rfl
/-- What follows code that ended so. -/
def andThen (r : Option (IX × Regs × IH)) (f : Regs → IH → Option (IX × Regs × IH)) : Option (IX × Regs × IH) :=
  match r with
  | some (.normal, T', H') => f T' H'
  | r => r
theorem icode_seq (a b : Code) : icode J call (k + 1) (.seq a b) T H = andThen (icode J call k a T H) fun T' H' => icode J call k b T' H' := by
  simp only [icode]; rfl
theorem icode_loop (c : Code) : icode J call (k + 1) (.loop c) T H = andThen (icode J call k c T H) fun T' H' => icode J call k (.loop c) T' H' := by
  simp only [icode]; rfl
theorem andThen_normal (f : Regs → IH → Option (IX × Regs × IH)) : andThen (some (.normal, T, H)) f = f T H := rfl
theorem andThen_exit (i : Nat) (f : Regs → IH → Option (IX × Regs × IH)) : andThen (some (.exit i, T, H)) f = some (.exit i, T, H) := rfl
theorem andThen_ret (f : Regs → IH → Option (IX × Regs × IH)) : andThen (some (.ret, T, H)) f = some (.ret, T, H) := rfl
theorem andThen_pan (v : Value) (f : Regs → IH → Option (IX × Regs × IH)) : andThen (some (.pan v, T, H)) f = some (.pan v, T, H) := rfl
def branch (v : Value) (a b : Option (IX × Regs × IH)) : Option (IX × Regs × IH) :=
  match v with
  | .bool true => a
  | .bool false => b
  | _ => none
theorem icode_cond (c : Operand) (x y : Code) : icode J call (k + 1) (.cond c x y) T H = branch (iev T c) (icode J call k x T H) (icode J call k y T H) := rfl
theorem branch_true (a b : Option (IX × Regs × IH)) : branch (.bool true) a b = a := rfl
theorem branch_false (a b : Option (IX × Regs × IH)) : branch (.bool false) a b = b := rfl
def blockOut (id : Nat) (r : Option (IX × Regs × IH)) : Option (IX × Regs × IH) :=
  match r with
  | some (.exit id', T', H') => if id' = id then some (.normal, T', H') else some (.exit id', T', H')
  | r => r
theorem icode_block (id : Nat) (c : Code) : icode J call (k + 1) (.block id c) T H = blockOut id (icode J call k c T H) := by
  simp only [icode]; rfl
theorem blockOut_normal (id : Nat) : blockOut id (some (.normal, T, H)) = some (.normal, T, H) := rfl
theorem blockOut_exit (id id' : Nat) : blockOut id (some (.exit id', T, H)) = if id' = id then some (.normal, T, H) else some (.exit id', T, H) := rfl
theorem blockOut_ret (id : Nat) : blockOut id (some (.ret, T, H)) = some (.ret, T, H) := rfl
theorem blockOut_pan (id : Nat) (v : Value) : blockOut id (some (.pan v, T, H)) = some (.pan v, T, H) := rfl
def fin (J : Env) (rs : List ResultVar) (T : Regs) (H : IH) : Option Value :=
  match rs.mapM (iresult1 J T H) with
  | some [v] => some v
  | some vs => some (.tuple vs.toArray)
  | none => none
/-- How a call ends behind its code. -/
def finish (J : Env) (rs : List ResultVar) (r : Option (IX × Regs × IH)) : Option (IE × IH) :=
  match r with
  | some (.normal, T', H') => (fin J rs T' H').map fun v => (.ret v, H')
  | some (.ret, T', H') => (fin J rs T' H').map fun v => (.ret v, H')
  | some (.pan v, _, H') => some (.pan v, H')
  | _ => none
theorem finish_normal (rs : List ResultVar) : finish J rs (some (.normal, T, H)) = (fin J rs T H).map fun v => (.ret v, H) := rfl
theorem finish_ret (rs : List ResultVar) : finish J rs (some (.ret, T, H)) = (fin J rs T H).map fun v => (.ret v, H) := rfl
theorem finish_pan (rs : List ResultVar) (v : Value) : finish J rs (some (.pan v, T, H)) = some (.pan v, H) := rfl
theorem icall_body (okf : FuncId → Bool) (f : FuncId) (args : Array Value) (fn : Func) (c : Code) (h0 : okf f = true) (h1 : J.fn f = some fn) (h2 : fn.body = some c) (h3 : args.size ≤ fn.ntmps) (h4 : J.hook f args.toList = none) :
    icall J okf (k + 1) f args H = finish J fn.results.toList (icode J (icall J okf k) k c (regsOf args.toList 0 .leaf) H) := by
  simp only [icall, h0, h1, h2, h3, h4, if_true]
  rfl
theorem icall_hook (okf : FuncId → Bool) (f : FuncId) (args : Array Value) (v : Value) (h : J.hook f args.toList = some v) : icall J okf (k + 1) f args H = some (.ret v, H) := by
  simp only [icall, h]
theorem at_leaf (t : Nat) : Regs.at .leaf t = undef := rfl
theorem iops_nil (ops : Array Oper) : iops J call ops [] T H = some (.normal, T, H) := rfl
def opStep (o : Oper) (r : Option (IE × IH)) (T : Regs) (f : Regs → IH → Option (IX × Regs × IH)) : Option (IX × Regs × IH) :=
  match r with
  | some (.ret v, H') => f (putR T o.dst v) H'
  | some (.pan v, H') => some (.pan v, T, H')
  | none => none
theorem iops_cons (ops : Array Oper) (o : Oper) (r : List Oper) : iops J call ops (o :: r) T H =
    if wantedR ops T o then opStep o (iexec J call o T H) T (fun T' H' => iops J call ops r T' H') else iops J call ops r (putR T o.dst undef) H := by
  simp only [iops, opStep]
  split
  · split <;> simp_all
  · rfl
theorem opStep_ret (o : Oper) (v : Value) (f : Regs → IH → Option (IX × Regs × IH)) : opStep o (some (.ret v, H)) T f = f (putR T o.dst v) H := rfl
theorem opStep_pan (o : Oper) (v : Value) (f : Regs → IH → Option (IX × Regs × IH)) : opStep o (some (.pan v, H)) T f = some (.pan v, T, H) := rfl
def orStep (call : CallR) (r : Option OR) : Option (IE × IH) :=
  match r with
  | some (.val v H') => some (.ret v, H')
  | some (.pan v H') => some (.pan v, H')
  | some (.enter f args H') => call f args H'
  | none => none
theorem iexec_eq (o : Oper) : iexec J call o T H = orStep call (iop J o T H) := by
  unfold iexec orStep
  split <;> simp_all
theorem orStep_val (v : Value) : orStep call (some (.val v H)) = some (.ret v, H) := rfl
theorem orStep_pan (v : Value) : orStep call (some (.pan v H)) = some (.pan v, H) := rfl
theorem orStep_enter (f : FuncId) (args : Array Value) : orStep call (some (.enter f args H)) = call f args H := rfl
end

/-! ### More fuel -/
def Mono (call call' : CallR) : Prop := ∀ f args H r, call f args H = some r → call' f args H = some r
theorem iexec_mono {J : Env} {call call' : CallR} (h : Mono call call') {o : Oper} {T : Regs} {H : IH} {r : IE × IH} (hx : iexec J call o T H = some r) : iexec J call' o T H = some r := by
  rw [iexec_eq] at hx ⊢
  cases hi : iop J o T H with
  | none => simp [hi, orStep] at hx
  | some y => cases y <;> simp only [hi, orStep] at hx ⊢ <;> first | exact hx | exact h _ _ _ _ hx
theorem iops_mono {J : Env} {call call' : CallR} (h : Mono call call') (ops : Array Oper) : ∀ (l : List Oper) (T : Regs) (H : IH) (r : IX × Regs × IH), iops J call ops l T H = some r → iops J call' ops l T H = some r := by
  intro l
  induction l with
  | nil => intro T H r hx; exact hx
  | cons o l ih =>
    intro T H r hx
    rw [iops_cons] at hx ⊢
    split
    · rename_i hw
      rw [if_pos hw] at hx
      cases he : iexec J call o T H with
      | none => simp [he, opStep] at hx
      | some y =>
        rw [iexec_mono h he]
        rw [he] at hx
        obtain ⟨e, H'⟩ := y
        cases e with
        | ret v => exact ih _ _ _ hx
        | pan v => exact hx
    · rename_i hw
      rw [if_neg hw] at hx
      exact ih _ _ _ hx
theorem drun_mono {J : Env} {call call' : CallR} (h : Mono call call') (ops : Array Oper) : ∀ (l : List Oper) (s : DSt) (r : DSt × Option Value), drun J call ops l s = some r → drun J call' ops l s = some r := by
  intro l
  induction l with
  | nil => intro s r hx; exact hx
  | cons o l ih =>
    intro s r hx
    simp only [drun] at hx ⊢
    split
    · rename_i hw
      rw [if_pos hw] at hx
      cases he : iexec J call o s.T s.H with
      | none => simp [he] at hx
      | some y =>
        rw [iexec_mono h he]
        rw [he] at hx
        obtain ⟨e, H'⟩ := y
        cases e with
        | ret v => exact ih _ _ hx
        | pan v => exact hx
    · rename_i hw
      rw [if_neg hw] at hx
      exact ih _ _ hx
theorem idraw_mono {J : Env} {call call' : CallR} (h : Mono call call') (ops : Array Oper) (T : Regs) (H : IH) (r : IX × Regs × IH) (hx : idraw J call ops T H = some r) : idraw J call' ops T H = some r := by
  unfold idraw at hx ⊢
  cases he : drun J call ops ops.toList ⟨T, H, [], [H]⟩ with
  | none => simp [he] at hx
  | some y => rw [drun_mono h ops _ _ _ he]; rw [he] at hx; exact hx
theorem icode_mono {J : Env} {call call' : CallR} (h : Mono call call') : ∀ (k : Nat) (c : Code) (T : Regs) (H : IH) (r : IX × Regs × IH) (k' : Nat), k ≤ k' → icode J call k c T H = some r → icode J call' k' c T H = some r := by
  intro k
  induction k with
  | zero => intro c T H r k' _ hx; simp [icode] at hx
  | succ k ih =>
    intro c T H r k' hk hx
    obtain ⟨k', rfl⟩ : ∃ j, k' = j + 1 := ⟨k' - 1, by omega⟩
    have hk : k ≤ k' := by omega
    have two : ∀ (a : Code) (f f' : Regs → IH → Option (IX × Regs × IH)), (∀ T H r, f T H = some r → f' T H = some r) → andThen (icode J call k a T H) f = some r → andThen (icode J call' k' a T H) f' = some r := by
      intro a f f' hf hx
      cases he : icode J call k a T H with
      | none => simp [he, andThen] at hx
      | some y =>
        rw [ih a T H y k' hk he]
        rw [he] at hx
        obtain ⟨e, T', H'⟩ := y
        cases e <;> first | exact hf _ _ _ hx | exact hx
    cases c with
    | seq a b => rw [icode_seq] at hx ⊢; exact two a _ _ (fun T H r => ih b T H r k' hk) hx
    | loop a => rw [icode_loop] at hx ⊢; exact two a _ _ (fun T H r => ih (.loop a) T H r k' hk) hx
    | cond c x y =>
      rw [icode_cond] at hx ⊢
      cases hv : iev T c with
      | bool b =>
        rw [hv] at hx
        cases b with
        | true => exact ih x T H r k' hk hx
        | false => exact ih y T H r k' hk hx
      | _ => rw [hv] at hx; simp [branch] at hx
    | block id a =>
      rw [icode_block] at hx ⊢
      cases he : icode J call k a T H with
      | none => simp [he, blockOut] at hx
      | some y => rw [ih a T H y k' hk he]; rw [he] at hx; exact hx
    | region id ops draw => cases draw with
      | true => rw [icode_draw] at hx ⊢; exact idraw_mono h ops T H r hx
      | false => rw [icode_region] at hx ⊢; exact iops_mono h ops _ T H r hx
    | _ => exact hx
theorem icall_mono {J : Env} {okf : FuncId → Bool} : ∀ (k k' : Nat), k ≤ k' → Mono (icall J okf k) (icall J okf k') := by
  intro k
  induction k with
  | zero => intro k' _ f args H r hx; simp [icall] at hx
  | succ k ih =>
    intro k' hk f args H r hx
    obtain ⟨k', rfl⟩ : ∃ j, k' = j + 1 := ⟨k' - 1, by omega⟩
    have hk : k ≤ k' := by omega
    simp only [icall] at hx ⊢
    cases hh : J.hook f args.toList with
    | some v => simp only [hh] at hx ⊢; exact hx
    | none =>
    simp only [hh] at hx ⊢
    split
    · rename_i h0
      rw [if_pos h0] at hx
      cases hf : J.fn f with
      | none => simp [hf] at hx
      | some fn =>
        simp only [hf] at hx ⊢
        cases hb : fn.body with
        | none => simp [hb] at hx
        | some c =>
          simp only [hb] at hx ⊢
          split
          · rename_i h3
            rw [if_pos h3] at hx
            cases he : icode J (icall J okf k) k c (regsOf args.toList 0 .leaf) H with
            | none => simp [he] at hx
            | some y =>
              rw [icode_mono (ih k' hk) k c _ H y k' hk he]
              rw [he] at hx; exact hx
          · rename_i h3
            rw [if_neg h3] at hx
            simp at hx
    · rename_i h0
      rw [if_neg h0] at hx
      simp at hx
end Go.Proofs.YtjbcjcibnjbpcaaDoor.Idl
namespace Go.Proofs.YtjbcjcibnjbpcaaDoor.Idl
open Go Go.RowKit

/-! ### Code -/
section
variable (J : Env) (call : CallR) (k : Nat) (T : Regs) (H : IH)
def seqNext (J : Env) (call : CallR) (k : Nat) (b : Code) (r : Option (IX × Regs × IH)) : Option (IX × Regs × IH) :=
  match r with
  | some (.normal, T', H') => icode J call k b T' H'
  | r => r
@[simp] theorem run_skip : icode J call (k + 1) .skip T H = some (.normal, T, H) := rfl
@[simp] theorem run_label (l : Nat) : icode J call (k + 1) (.label l) T H = some (.normal, T, H) := rfl
@[simp] theorem run_exit (i : Nat) : icode J call (k + 1) (.exit i) T H = some (.exit i, T, H) := rfl
@[simp] theorem run_ret : icode J call (k + 1) .ret T H = some (.ret, T, H) := rfl
@[simp] theorem run_region (i : Nat) (ops : List Oper) : icode J call (k + 1) (.region i ops.toArray false) T H = iops J call ops.toArray ops T H := by simp [icode]
@[simp] theorem run_seq (a b : Code) : icode J call (k + 1) (.seq a b) T H = seqNext J call k b (icode J call k a T H) := by simp only [icode]; rfl
@[simp] theorem seq_normal (b : Code) : seqNext J call k b (some (.normal, T, H)) = icode J call k b T H := rfl
@[simp] theorem seq_exit (b : Code) (i : Nat) : seqNext J call k b (some (.exit i, T, H)) = some (.exit i, T, H) := rfl
@[simp] theorem seq_ret (b : Code) : seqNext J call k b (some (.ret, T, H)) = some (.ret, T, H) := rfl
@[simp] theorem seq_pan (b : Code) (v : Value) : seqNext J call k b (some (.pan v, T, H)) = some (.pan v, T, H) := rfl
def condNext (J : Env) (call : CallR) (k : Nat) (x y : Code) (T : Regs) (H : IH) (v : Value) : Option (IX × Regs × IH) :=
  match v with
  | .bool true => icode J call k x T H
  | .bool false => icode J call k y T H
  | _ => none
@[simp] theorem run_cond (c : Operand) (x y : Code) : icode J call (k + 1) (.cond c x y) T H = condNext J call k x y T H (iev T c) := rfl
@[simp] theorem cond_t (x y : Code) : condNext J call k x y T H (.bool true) = icode J call k x T H := rfl
@[simp] theorem cond_f (x y : Code) : condNext J call k x y T H (.bool false) = icode J call k y T H := rfl
@[simp] theorem run_block (id : Nat) (c : Code) : icode J call (k + 1) (.block id c) T H = blockOut id (icode J call k c T H) := by simp only [icode]; rfl
attribute [simp] blockOut_normal blockOut_exit blockOut_ret blockOut_pan finish_normal finish_ret finish_pan
theorem run_loop (c : Code) : icode J call (k + 1) (.loop c) T H = seqNext J call k (.loop c) (icode J call k c T H) := by simp only [icode]; rfl

/-! ### Regions -/
def opRes (J : Env) (call : CallR) (ops : Array Oper) (r : List Oper) (d : Option Tmp) (T : Regs) (x : Option (IE × IH)) : Option (IX × Regs × IH) :=
  match x with
  | some (.ret v, H') => iops J call ops r (putR T d v) H'
  | some (.pan v, H') => some (.pan v, T, H')
  | none => none
def opGo (J : Env) (call : CallR) (ops : Array Oper) (r : List Oper) (o : Oper) (T : Regs) (H : IH) (b : Bool) : Option (IX × Regs × IH) :=
  match b with
  | true => opRes J call ops r o.dst T (orStep call (iop J o T H))
  | false => iops J call ops r (putR T o.dst undef) H
@[simp] theorem ops_nil (ops : Array Oper) : iops J call ops [] T H = some (.normal, T, H) := rfl
@[simp] theorem ops_cons (ops : Array Oper) (o : Oper) (r : List Oper) : iops J call ops (o :: r) T H = opGo J call ops r o T H (wantedR ops T o) := by
  rw [iops_cons, iexec_eq]
  cases wantedR ops T o <;> rfl
@[simp] theorem go_true (ops : Array Oper) (r : List Oper) (o : Oper) : opGo J call ops r o T H true = opRes J call ops r o.dst T (orStep call (iop J o T H)) := rfl
@[simp] theorem go_false (ops : Array Oper) (r : List Oper) (o : Oper) : opGo J call ops r o T H false = iops J call ops r (putR T o.dst undef) H := rfl
@[simp] theorem res_ret (ops : Array Oper) (r : List Oper) (d : Option Tmp) (v : Value) : opRes J call ops r d T (some (.ret v, H)) = iops J call ops r (putR T d v) H := rfl
@[simp] theorem res_pan (ops : Array Oper) (r : List Oper) (d : Option Tmp) (v : Value) : opRes J call ops r d T (some (.pan v, H)) = some (.pan v, T, H) := rfl
attribute [simp] orStep_val orStep_pan orStep_enter
@[simp] theorem put_none (v : Value) : putR T none v = T := rfl
@[simp] theorem put_some (d : Tmp) (v : Value) : putR T (some d) v = T.set d v := rfl
attribute [simp] at_leaf
@[simp] theorem at_set_eq (t : Nat) (v : Value) : Regs.at (Tr.set T t v) t = v := by rw [at_set, if_pos rfl]
@[simp] theorem at_set_ne (d t : Nat) (v : Value) (h : (t = d) = False) : Regs.at (Tr.set T d v) t = T.at t := by rw [at_set, if_neg (by simp [h])]
@[simp] theorem iev_tmp (t : Tmp) : iev T (.tmp t) = T.at t := id rfl
@[simp] theorem iev_const (v : Value) : iev T (.const v) = v := id rfl
@[simp] theorem iev_global (g : Nat) : iev T (.global g) = .pointer (some ⟨g, 0, none⟩) := id rfl
@[simp] theorem iev_func (f : FuncId) : iev T (.func f) = .func (.func f) #[] #[] := id rfl
def guardB (v : Value) (want : Bool) : Bool :=
  match v with
  | .bool b => b == want
  | _ => false
@[simp] theorem guardB_bool (b want : Bool) : guardB (.bool b) want = (b == want) := rfl
@[simp] theorem wanted_none (ops : Array Oper) (dst : Option Tmp) (op : Op) (type : TypeId) (pos : String) (after : Array Edge) : wantedR ops T ⟨dst, op, type, pos, after, none⟩ = true := rfl
@[simp] theorem wanted_some (ops : List Oper) (dst : Option Tmp) (op : Op) (type : TypeId) (pos : String) (after : Array Edge) (j : Nat) (want : Bool) :
    wantedR ops.toArray T ⟨dst, op, type, pos, after, some (j, want)⟩ = (match (ops[j]?).bind (·.dst) with | some d => guardB (T.at d) want | none => false) := by
  simp only [wantedR, List.getElem?_toArray]
  rfl

/-! ### Operations -/
section
variable (dst : Option Tmp) (type : TypeId) (pos : String) (after : Array Edge) (guard : Option (Nat × Bool))
@[simp] theorem iop_move (x : Operand) : iop J ⟨dst, .move x, type, pos, after, guard⟩ T H = some (.val (iev T x) H) := rfl
@[simp] theorem iop_assign (x : Operand) : iop J ⟨dst, .assign x, type, pos, after, guard⟩ T H = some (.val (iev T x) H) := rfl
def pickR (c a b : Value) (H : IH) : Option OR :=
  match c with
  | .bool true => some (.val a H)
  | .bool false => some (.val b H)
  | _ => none
@[simp] theorem iop_pick (c a b : Operand) : iop J ⟨dst, .pick c a b, type, pos, after, guard⟩ T H = pickR (iev T c) (iev T a) (iev T b) H := rfl
@[simp] theorem pick_t (a b : Value) : pickR (.bool true) a b H = some (.val a H) := rfl
@[simp] theorem pick_f (a b : Value) : pickR (.bool false) a b H = some (.val b H) := rfl
/-- A pick between two bools is a test. -/
theorem pick_bb (c a b : Bool) : pickR (.bool c) (.bool a) (.bool b) H = some (.val (.bool (if c then a else b)) H) := by cases c <;> rfl
@[simp] theorem iop_alloc (e : TypeId) : iop J ⟨dst, .alloc e, type, pos, after, guard⟩ T H = (J.zero e).map fun z => .val (inew H e z.cells.toList).1 (inew H e z.cells.toList).2 := rfl
@[simp] theorem iop_box (e : TypeId) (x : Operand) : iop J ⟨dst, .box e x, type, pos, after, guard⟩ T H = (J.size e).map fun _ => .val (inew H e (iev T x).cells.toList).1 (inew H e (iev T x).cells.toList).2 := rfl
@[simp] theorem iop_build (t : TypeId) (ps : Array (Nat × Operand)) : iop J ⟨dst, .build t ps, type, pos, after, guard⟩ T H = OR.ofVal H (ibuild J t (iparts T ps)) := rfl
@[simp] theorem iop_buildSlice (t : TypeId) (n : Nat) (ps : Array (Nat × Operand)) : iop J ⟨dst, .buildSlice t n ps, type, pos, after, guard⟩ T H = OR.ofPair (ibuildSlice J t n (iparts T ps) H) := rfl
def loadR (J : Env) (t : TypeId) (a : Value) (H : IH) : Option OR :=
  match a with
  | .pointer (some ad) => OR.ofVal H (iload J t ad H)
  | _ => none
@[simp] theorem iop_load (t : TypeId) (a : Operand) : iop J ⟨dst, .load t a, type, pos, after, guard⟩ T H = loadR J t (iev T a) H := rfl
@[simp] theorem load_ptr (t : TypeId) (a : Addr) : loadR J t (.pointer (some a)) H = OR.ofVal H (iload J t a H) := rfl
def storeR (J : Env) (t : TypeId) (a v : Value) (H : IH) : Option OR :=
  match a with
  | .pointer (some ad) => OR.ofHeap (istore J t ad v H)
  | _ => none
@[simp] theorem iop_store (t : TypeId) (a x : Operand) : iop J ⟨dst, .store t a x, type, pos, after, guard⟩ T H = storeR J t (iev T a) (iev T x) H := rfl
@[simp] theorem store_ptr (t : TypeId) (a : Addr) (v : Value) : storeR J t (.pointer (some a)) v H = OR.ofHeap (istore J t a v H) := rfl
def nilCheckR (v : Value) (H : IH) : Option OR :=
  match v with
  | .pointer (some a) => some (.val (.pointer (some a)) H)
  | .func (.func g) first captured => some (.val (.func (.func g) first captured) H)
  | _ => none
@[simp] theorem iop_nilCheck (x : Operand) : iop J ⟨dst, .nilCheck x, type, pos, after, guard⟩ T H = nilCheckR (iev T x) H := rfl
@[simp] theorem nilCheck_ptr (a : Addr) : nilCheckR (.pointer (some a)) H = some (.val (.pointer (some a)) H) := rfl
@[simp] theorem nilCheck_func (g : FuncId) (xs ys : Array Value) : nilCheckR (.func (.func g) xs ys) H = some (.val (.func (.func g) xs ys) H) := rfl
@[simp] theorem ofVal_some (v : Value) : OR.ofVal H (some v) = some (.val v H) := rfl
@[simp] theorem ofPair_some (v : Value) : OR.ofPair (some (v, H)) = some (.val v H) := rfl
@[simp] theorem ofHeap_some : OR.ofHeap (some H) = some (.val undef H) := rfl
@[simp] theorem iop_makeFunc (g : FuncId) (first captured : Array Operand) : iop J ⟨dst, .makeFunc (.func g) first captured, type, pos, after, guard⟩ T H = some (.val (.func (.func g) (first.map (iev T)) (captured.map (iev T))) H) := rfl
@[simp] theorem iop_makeMap (t : TypeId) : iop J ⟨dst, .makeMap t none, type, pos, after, guard⟩ T H = some (.val (.map (some H.next)) (H.push (.map [] false))) := rfl
@[simp] theorem iop_makeSlice (t : TypeId) (l c : Operand) : iop J ⟨dst, .makeSlice t l c, type, pos, after, guard⟩ T H = OR.ofPair (imakeSlice J t (iev T l) (iev T c) H) := rfl
@[simp] theorem iop_slice (t : TypeId) (x : Operand) (lo hi mx : Option Operand) : iop J ⟨dst, .slice t x lo hi mx, type, pos, after, guard⟩ T H = OR.ofVal H (islice J t (iev T x) (lo.map (iev T)) (hi.map (iev T)) (mx.map (iev T)) H) := rfl
@[simp] theorem iop_fieldAddr (s : TypeId) (x : Operand) (f : Nat) : iop J ⟨dst, .fieldAddr s x f, type, pos, after, guard⟩ T H = OR.ofVal H (ifieldAddr J s (iev T x) f) := rfl
@[simp] theorem iop_field (s : TypeId) (x : Operand) (f : Nat) : iop J ⟨dst, .field s x f, type, pos, after, guard⟩ T H = OR.ofVal H (ifield J s (iev T x) f) := rfl
@[simp] theorem iop_indexAddr (t : TypeId) (x i : Operand) : iop J ⟨dst, .indexAddr t x i, type, pos, after, guard⟩ T H = OR.ofVal H (iindexAddr J t (iev T x) (iev T i)) := rfl
@[simp] theorem iop_index (t : TypeId) (x i : Operand) : iop J ⟨dst, .index t x i, type, pos, after, guard⟩ T H = OR.ofVal H (iindex J t (iev T x) (iev T i)) := rfl
@[simp] theorem iop_lookup (t : TypeId) (x i : Operand) (ok : Bool) : iop J ⟨dst, .lookup t x i ok, type, pos, after, guard⟩ T H = OR.ofVal H (ilookup J t (iev T x) (iev T i) ok H) := rfl
@[simp] theorem iop_mapUpdate (t : TypeId) (m k v : Operand) : iop J ⟨dst, .mapUpdate t m k v, type, pos, after, guard⟩ T H = OR.ofHeap (imapUpdate J t (iev T m) (iev T k) (iev T v) H) := rfl
@[simp] theorem iop_insert (t : TypeId) (m k v : Operand) : iop J ⟨dst, .insert t m k v, type, pos, after, guard⟩ T H = OR.ofHeap (imapUpdate J t (iev T m) (iev T k) (iev T v) H) := rfl
def extractR (v : Value) (i : Nat) (H : IH) : Option OR :=
  match v with
  | .tuple vs => OR.ofVal H (vs[i]?)
  | _ => none
@[simp] theorem iop_extract (x : Operand) (i : Nat) : iop J ⟨dst, .extract x i, type, pos, after, guard⟩ T H = extractR (iev T x) i H := rfl
@[simp] theorem extract_tuple (vs : List Value) (i : Nat) : extractR (.tuple vs.toArray) i H = OR.ofVal H (vs[i]?) := by simp [extractR]
def funcR (J : Env) (f : Value) (args : Array Value) (o : Oper) (T : Regs) (H : IH) : Option OR :=
  match f with
  | .func (.func g) first captured => if hasBody J g then some (.enter g (first ++ args ++ captured) H) else if J.ident g then identR (first ++ args ++ captured).toList H else ipure J o T H
  | _ => none
@[simp] theorem iop_callf (f : Operand) (args : Array Operand) (at_ : Array TypeId) : iop J ⟨dst, .call ⟨.value f, args, at_⟩, type, pos, after, guard⟩ T H = funcR J (iev T f) (args.map (iev T)) ⟨dst, .call ⟨.value f, args, at_⟩, type, pos, after, guard⟩ T H := rfl
@[simp] theorem func_ident (g : FuncId) (v : Value) (o : Oper) (h : hasBody J g = false) (hi : J.ident g = true) : funcR J (.func (.func g) #[] #[]) #[v] o T H = some (.val v H) := by simp [funcR, h, hi, identR]
@[simp] theorem func_body (g : FuncId) (first captured args : Array Value) (o : Oper) (h : hasBody J g = true) : funcR J (.func (.func g) first captured) args o T H = some (.enter g (first ++ args ++ captured) H) := by simp [funcR, h]
def lenR (J : Env) (t : TypeId) (x : Value) (H : IH) : Option OR :=
  match J.und t, x with
  | some (.slice _), .slice _ n _ => some (.val (.int .i64 n) H)
  | some (.map _ _), .map (some r) => match H.get r with
    | some (.map es _) => some (.val (.int .i64 es.length) H)
    | _ => none
  | some .string, .string s => some (.val (.int .i64 s.size) H)
  | _, _ => none
theorem iop_len' (x : Operand) (t : TypeId) (r : OR) (h : lenR J t (iev T x) H = some r) : iop J ⟨dst, .call ⟨.builtin .len, #[x], #[t]⟩, type, pos, after, guard⟩ T H = some r := by
  unfold lenR at h
  simp only [iop, icall0]
  simp only [List.getElem?_toArray, List.getElem?_cons_zero]
  split at h
  · rename_i e a n c hu hx
    rw [hu, hx]; exact h
  · rename_i e kk r' hu hx
    rw [hu, hx]; exact h
  · rename_i s hu hx
    cases h
    rw [hu, hx]
    have e1 : execOp (iev T) ⟨dst, .call ⟨.builtin .len, #[x], #[t]⟩, type, pos, after, guard⟩ = (do pure (.value (← Builtin.len_ #[t] type #[.string s])) : Sem Next) := by
      simp only [execOp, resolve]
      simp [hx]
      rfl
    have e2 : pureRun J.P (execOp (iev T) ⟨dst, .call ⟨.builtin .len, #[x], #[t]⟩, type, pos, after, guard⟩) = some (.value (.int .i64 s.size)) := by
      rw [e1]
      show pureRun J.P (Sem.bind _ _) = _
      have hu' := J.und_ok hu
      simp [Builtin.len_, underlying, program, bind, Sem.bind, pureRun, hu', pure, goInt]
    simp only [ipure, e2]
    simp [Op.operands, Call.operands, hx, flat, flatN]
  · simp at h
end
end
end Go.Proofs.YtjbcjcibnjbpcaaDoor.Idl
namespace Go.Proofs.YtjbcjcibnjbpcaaDoor.Idl
open Go Go.RowKit

section
variable (J : Env) (T : Regs) (H : IH) (dst : Option Tmp) (type : TypeId) (pos : String) (after : Array Edge) (guard : Option (Nat × Bool))
def pureR (r : Option Value) (H : IH) : Option OR :=
  match r with
  | some v => if flat v then some (.val v H) else none
  | none => none
def binR (J : Env) (op : BinOp) (t : TypeId) (x y : Operand) (a b : Value) (H : IH) : Option OR :=
  match op, nilEq a b with
  | .eql, some r => if fitsNil J t a && fitsNil J t b then some (.val (.bool r) H) else none
  | .neq, some r => if fitsNil J t a && fitsNil J t b then some (.val (.bool (!r)) H) else none
  | _, _ => if flat a && flat b then pureR (pureRun J.P (do eqGuard op t x y a b; binOp op t a b)) H else none
theorem pureRun_bind {α β : Type} (P : Program) (s : Sem α) (f : α → Sem β) : pureRun P (s >>= f) = (pureRun P s).bind fun a => pureRun P (f a) := by
  show pureRun P (Sem.bind s f) = _
  induction s with
  | pure a => rfl
  | program k ih => exact ih P
  | mark m k ih => exact ih
  | _ => rfl
@[simp] theorem iop_binOp (op : BinOp) (t yt : TypeId) (x y : Operand) : iop J ⟨dst, .binOp op t x y yt, type, pos, after, guard⟩ T H = binR J op t x y (iev T x) (iev T y) H := by
  have hp : ipure J ⟨dst, .binOp op t x y yt, type, pos, after, guard⟩ T H = if flat (iev T x) && flat (iev T y) then pureR (pureRun J.P (do eqGuard op t x y (iev T x) (iev T y); binOp op t (iev T x) (iev T y))) H else none := by
    unfold ipure
    have h1 : ((⟨dst, .binOp op t x y yt, type, pos, after, guard⟩ : Oper).op.operands.all fun z => flat (iev T z)) = (flat (iev T x) && flat (iev T y)) := by simp [Op.operands]
    rw [h1]
    split
    · have h2 : execOp (iev T) ⟨dst, .binOp op t x y yt, type, pos, after, guard⟩ = (do pure (Next.value (← (do eqGuard op t x y (iev T x) (iev T y); binOp op t (iev T x) (iev T y)))) : Sem Next) := rfl
      rw [h2, pureRun_bind]
      unfold pureR
      cases pureRun J.P (do eqGuard op t x y (iev T x) (iev T y); binOp op t (iev T x) (iev T y)) <;> rfl
    · rfl
  unfold binR
  simp only [iop, hp]
  rfl
theorem binR_pure {op : BinOp} {t : TypeId} {x y : Operand} {a b : Value} {v : Value} (hn : nilEq a b = none) (hf : (flat a && flat b) = true) (hg : eqGuard op t x y a b = pure ()) (hb : pureRun J.P (binOp op t a b) = some v) (hv : flat v = true) :
    binR J op t x y a b H = some (.val v H) := by
  unfold binR
  rw [hn]
  have : pureR (pureRun J.P (do eqGuard op t x y a b; binOp op t a b)) H = some (.val v H) := by
    rw [hg]
    show pureR (pureRun J.P (binOp op t a b)) H = _
    rw [hb]; simp [pureR, hv]
  cases op <;> simp [hf, this]
section
variable (t : TypeId) (x y : Operand) (k : IntKind) (a b : Int)
@[simp] theorem bin_add : binR J .add t x y (.int k a) (.int k b) H = some (.val (.int k (k.wrap (a + b))) H) := binR_pure J H rfl rfl rfl (by simp [binOp, Op.intArith, pure, pureRun]) rfl
@[simp] theorem bin_sub : binR J .sub t x y (.int k a) (.int k b) H = some (.val (.int k (k.wrap (a - b))) H) := binR_pure J H rfl rfl rfl (by simp [binOp, Op.intArith, pure, pureRun]) rfl
@[simp] theorem bin_mul : binR J .mul t x y (.int k a) (.int k b) H = some (.val (.int k (k.wrap (a * b))) H) := binR_pure J H rfl rfl rfl (by simp [binOp, Op.intArith, pure, pureRun]) rfl
@[simp] theorem bin_quo (h : (b = 0) = False) : binR J .quo t x y (.int k a) (.int k b) H = some (.val (.int k (k.wrap (a.tdiv b))) H) := binR_pure J H rfl rfl rfl (by simp [binOp, Op.intDiv, pure, pureRun, h]) rfl
@[simp] theorem bin_rem (h : (b = 0) = False) : binR J .rem t x y (.int k a) (.int k b) H = some (.val (.int k (a.tmod b)) H) := binR_pure J H rfl rfl rfl (by simp [binOp, Op.intDiv, pure, pureRun, h]) rfl
@[simp] theorem bin_lss : binR J .lss t x y (.int k a) (.int k b) H = some (.val (.bool (decide (a < b))) H) := binR_pure J H rfl rfl rfl (by simp [binOp, Op.intCmp, pure, pureRun]) rfl
@[simp] theorem bin_leq : binR J .leq t x y (.int k a) (.int k b) H = some (.val (.bool (decide (a ≤ b))) H) := binR_pure J H rfl rfl rfl (by simp [binOp, Op.intCmp, pure, pureRun]) rfl
@[simp] theorem bin_gtr : binR J .gtr t x y (.int k a) (.int k b) H = some (.val (.bool (decide (b < a))) H) := binR_pure J H rfl rfl rfl (by simp [binOp, Op.intCmp, pure, pureRun]) rfl
@[simp] theorem bin_geq : binR J .geq t x y (.int k a) (.int k b) H = some (.val (.bool (decide (b ≤ a))) H) := binR_pure J H rfl rfl rfl (by simp [binOp, Op.intCmp, pure, pureRun]) rfl
@[simp] theorem bin_eql : binR J .eql t x y (.int k a) (.int k b) H = some (.val (.bool (decide (a = b))) H) := binR_pure J H rfl rfl rfl (by simp [binOp, Op.intCmp, pure, pureRun]; rfl) rfl
@[simp] theorem bin_neq : binR J .neq t x y (.int k a) (.int k b) H = some (.val (.bool (!decide (a = b))) H) := binR_pure J H rfl rfl rfl (by simp [binOp, Op.intCmp, pure, pureRun, bne]; rfl) rfl
@[simp] theorem bin_shl (k2 : IntKind) (h : (b < 0) = False) : binR J .shl t x y (.int k a) (.int k2 b) H = some (.val (.int k (k.wrap (a * 2 ^ min b.toNat k.bits))) H) := binR_pure J H rfl rfl rfl (by simp [binOp, Op.shift, pure, pureRun, h]) rfl
@[simp] theorem bin_shr (k2 : IntKind) (h : (b < 0) = False) : binR J .shr t x y (.int k a) (.int k2 b) H = some (.val (.int k (a.fdiv (2 ^ min b.toNat k.bits))) H) := binR_pure J H rfl rfl rfl (by simp [binOp, Op.shift, pure, pureRun, h]) rfl
end
section
variable (t : TypeId) (x y : Operand) (s u : ByteArray)
theorem toList_eq (s u : ByteArray) : (s.toList == u.toList) = decide (s = u) := by
  rw [← beq_toListBytes, Bool.eq_iff_iff, decide_eq_true_eq]
  exact ⟨ba_eq, fun h => by rw [h]; exact ba_self _⟩
@[simp] theorem bin_seql : binR J .eql t x y (.string s) (.string u) H = some (.val (.bool (decide (s = u))) H) := binR_pure J H rfl rfl rfl (by simp [binOp, Op.stringOp, pure, pureRun, toList_eq]) rfl
@[simp] theorem bin_sneq : binR J .neq t x y (.string s) (.string u) H = some (.val (.bool (!decide (s = u))) H) := binR_pure J H rfl rfl rfl (by simp [binOp, Op.stringOp, pure, pureRun, toList_eq]) rfl
@[simp] theorem bin_sadd (h : (((s.size + u.size : Nat) : Int) > 9223372036854775807) = False) : binR J .add t x y (.string s) (.string u) H = some (.val (.string (s ++ u)) H) :=
  binR_pure J H rfl rfl rfl (by
    have h' : ¬ (((s.size + u.size : Nat) : Int) > IntKind.i64.max) := by
      rw [show IntKind.i64.max = 9223372036854775807 from rfl]; simpa using h
    simp only [binOp, Op.stringOp]
    rw [if_neg h']
    rfl) rfl
end
@[simp] theorem bin_beql (t : TypeId) (x y : Operand) (a b : Bool) (h : J.und t = some .bool) : binR J .eql t x y (.bool a) (.bool b) H = some (.val (.bool (a == b)) H) := binR_pure J H rfl rfl rfl (by
    simp only [binOp, Op.equal, Op.maxDepth]
    rw [pureRun_bind]
    have : pureRun J.P (Op.equalIn 10000 t (.bool a) (.bool b)) = some (a == b) := by
      show pureRun J.P (Op.equalIn (9999 + 1) t (.bool a) (.bool b)) = _
      unfold Op.equalIn
      rw [pureRun_bind]
      have : pureRun J.P (underlying t) = some .bool := by
        unfold underlying
        rw [pureRun_bind]
        simp [program, pureRun, J.und_ok h, pure]
      rw [this]; rfl
    rw [this]; rfl) rfl
@[simp] theorem bin_nil_eql (t : TypeId) (x y : Operand) (a b : Value) (r : Bool) (h : nilEq a b = some r) (hf : (fitsNil J t a && fitsNil J t b) = true) : binR J .eql t x y a b H = some (.val (.bool r) H) := by
  unfold binR
  rw [h]; simp only [hf, if_true]
@[simp] theorem bin_nil_neq (t : TypeId) (x y : Operand) (a b : Value) (r : Bool) (h : nilEq a b = some r) (hf : (fitsNil J t a && fitsNil J t b) = true) : binR J .neq t x y a b H = some (.val (.bool (!r)) H) := by
  unfold binR
  rw [h]; simp only [hf, if_true]
theorem iop_len_string (x : Operand) (t : TypeId) (s : ByteArray) (hx : iev T x = .string s) (hu : J.und t = some .string) : iop J ⟨dst, .call ⟨.builtin .len, #[x], #[t]⟩, type, pos, after, guard⟩ T H = some (.val (.int .i64 s.size) H) :=
  iop_len' J T H dst type pos after guard x t _ (by simp [lenR, hx, hu])
theorem iop_len_slice (x : Operand) (t e : TypeId) (a : Option Addr) (n c : Nat) (hx : iev T x = .slice a n c) (hu : J.und t = some (.slice e)) : iop J ⟨dst, .call ⟨.builtin .len, #[x], #[t]⟩, type, pos, after, guard⟩ T H = some (.val (.int .i64 n) H) :=
  iop_len' J T H dst type pos after guard x t _ (by simp [lenR, hx, hu])
/-- A length, of whatever is known of the operand. -/
def lenV (J : Env) (t : TypeId) (v : Value) : Option Value :=
  match v with
  | .string s => if (J.und t matches some .string) then some (.int .i64 s.size) else none
  | .slice _ n _ => if (J.und t matches some (.slice _)) then some (.int .i64 n) else none
  | _ => none
theorem iop_len (x : Operand) (t : TypeId) (v : Value) (h : lenV J t (iev T x) = some v) : iop J ⟨dst, .call ⟨.builtin .len, #[x], #[t]⟩, type, pos, after, guard⟩ T H = some (.val v H) := by
  unfold lenV at h
  split at h
  · rename_i s hx
    split at h
    · rename_i hu
      cases h
      exact iop_len_string J T H dst type pos after guard x t s hx hu
    · simp at h
  · rename_i a n c hx
    split at h
    · rename_i hu
      cases h
      exact iop_len_slice J T H dst type pos after guard x t _ a n c hx hu
    · simp at h
  · simp at h
@[simp] theorem iop_append (x y : Operand) (at_ : Array TypeId) : iop J ⟨dst, .call ⟨.builtin .append, #[x, y], at_⟩, type, pos, after, guard⟩ T H = OR.ofPair (iappend J at_ (iev T x) (iev T y) H) := by
  simp [iop, icall0]
@[simp] theorem iop_unsafeString (x y : Operand) (pt : TypeId) (at_ : Array TypeId) (h : at_[0]? = some pt) : iop J ⟨dst, .call ⟨.builtin .unsafeString, #[x, y], at_⟩, type, pos, after, guard⟩ T H = OR.ofPair (iunsafeString J pt (iev T x) (iev T y) H) := by
  simp [iop, icall0, h]
@[simp] theorem iop_sliceData (x : Operand) (at_ : Array TypeId) : iop J ⟨dst, .call ⟨.builtin .unsafeSliceData, #[x], at_⟩, type, pos, after, guard⟩ T H = OR.ofVal H (isliceData (iev T x)) := by
  simp [iop, icall0]
@[simp] theorem iop_copy (x y : Operand) (at_ : Array TypeId) : iop J ⟨dst, .call ⟨.builtin .copy, #[x, y], at_⟩, type, pos, after, guard⟩ T H = OR.ofPair (icopy J at_ (iev T x) (iev T y) H) := by
  simp [iop, icall0]
end
end Go.Proofs.YtjbcjcibnjbpcaaDoor.Idl
namespace Go.Proofs.YtjbcjcibnjbpcaaDoor.Idl
open Go Go.RowKit

section
variable {α : Type}
open Classical in
noncomputable def lim (f : Nat → Option α) : Option α := if h : ∃ k v, f k = some v then f (Classical.choose h) else none
def MonoS (f : Nat → Option α) : Prop := ∀ k k', k ≤ k' → ∀ v, f k = some v → f k' = some v
theorem lim_of {f : Nat → Option α} (hm : MonoS f) {k : Nat} {v : α} (h : f k = some v) : lim f = some v := by
  have he : ∃ k v, f k = some v := ⟨k, v, h⟩
  unfold lim
  rw [dif_pos he]
  obtain ⟨u, hu⟩ := Classical.choose_spec he
  rw [hu]
  rcases Nat.le_total k (Classical.choose he) with h1 | h1
  · rw [hm _ _ h1 v h] at hu; exact hu.symm
  · rw [hm _ _ h1 u hu] at h; exact h
theorem of_lim {f : Nat → Option α} (hm : MonoS f) {v : α} (h : lim f = some v) : ∃ k, ∀ j, k ≤ j → f j = some v := by
  unfold lim at h
  split at h
  · exact ⟨_, fun j hj => hm _ _ hj v h⟩
  · simp at h
theorem opt_ext {a b : Option α} (h1 : ∀ v, a = some v → b = some v) (h2 : ∀ v, b = some v → a = some v) : a = b := by
  cases a with
  | some v => exact (h1 v rfl).symm
  | none => cases b with
    | some v => exact h2 v rfl
    | none => rfl
end

noncomputable def cal (J : Env) (okf : FuncId → Bool) (f : FuncId) (args : Array Value) (H : IH) : Option (IE × IH) := lim fun k => icall J okf k f args H
noncomputable def run (J : Env) (okf : FuncId → Bool) (c : Code) (T : Regs) (H : IH) : Option (IX × Regs × IH) := lim fun k => icode J (icall J okf k) k c T H
section
variable {J : Env} {okf : FuncId → Bool}
theorem cal_mono (f : FuncId) (args : Array Value) (H : IH) : MonoS fun k => icall J okf k f args H := fun k k' hk v h => icall_mono k k' hk f args H v h
theorem run_mono (c : Code) (T : Regs) (H : IH) : MonoS fun k => icode J (icall J okf k) k c T H := fun k k' hk v h => icode_mono (icall_mono k k' hk) k c T H v k' hk h
theorem cal_of {k : Nat} {f : FuncId} {args : Array Value} {H : IH} {r : IE × IH} (h : icall J okf k f args H = some r) : cal J okf f args H = some r := lim_of (cal_mono f args H) h
theorem cal_hook {f : FuncId} {args : Array Value} {H : IH} {v : Value} (h : J.hook f args.toList = some v) : cal J okf f args H = some (.ret v, H) := cal_of (k := 1) (icall_hook J 0 H okf f args v h)
theorem of_cal {f : FuncId} {args : Array Value} {H : IH} {r : IE × IH} (h : cal J okf f args H = some r) : ∃ k, ∀ j, k ≤ j → icall J okf j f args H = some r := of_lim (cal_mono f args H) h
theorem run_of {k1 k2 : Nat} {c : Code} {T : Regs} {H : IH} {r : IX × Regs × IH} (h : icode J (icall J okf k1) k2 c T H = some r) : run J okf c T H = some r :=
  lim_of (run_mono c T H) (k := max k1 k2) (icode_mono (icall_mono k1 _ (Nat.le_max_left _ _)) k2 c T H r _ (Nat.le_max_right _ _) h)
theorem of_run {c : Code} {T : Regs} {H : IH} {r : IX × Regs × IH} (h : run J okf c T H = some r) : ∃ k, ∀ k1 k2, k ≤ k1 → k ≤ k2 → icode J (icall J okf k1) k2 c T H = some r := by
  obtain ⟨k, hk⟩ := of_lim (run_mono c T H) h
  exact ⟨k, fun k1 k2 h1 h2 => icode_mono (icall_mono k k1 h1) k c T H r k2 h2 (hk k (Nat.le_refl _))⟩
theorem mono_cal (k : Nat) : Mono (icall J okf k) (cal J okf) := fun _ _ _ _ h => cal_of h
theorem of_iexec {o : Oper} {T : Regs} {H : IH} {r : IE × IH} (h : iexec J (cal J okf) o T H = some r) : ∃ k, ∀ j, k ≤ j → iexec J (icall J okf j) o T H = some r := by
  rw [iexec_eq] at h
  cases hi : iop J o T H with
  | none => simp [hi, orStep] at h
  | some y =>
    cases y with
    | enter f args H' =>
      rw [hi] at h
      obtain ⟨k, hk⟩ := of_cal (r := r) h
      exact ⟨k, fun j hj => by rw [iexec_eq, hi]; exact hk j hj⟩
    | _ => exact ⟨0, fun j _ => by rw [iexec_eq, hi]; rw [hi] at h; exact h⟩
theorem of_iops (ops : Array Oper) : ∀ (l : List Oper) (T : Regs) (H : IH) (r : IX × Regs × IH), iops J (cal J okf) ops l T H = some r → ∃ k, ∀ j, k ≤ j → iops J (icall J okf j) ops l T H = some r := by
  intro l
  induction l with
  | nil => intro T H r h; exact ⟨0, fun _ _ => h⟩
  | cons o l ih =>
    intro T H r h
    rw [iops_cons] at h
    by_cases hw : wantedR ops T o = true
    · rw [if_pos hw] at h
      cases he : iexec J (cal J okf) o T H with
      | none => simp [he, opStep] at h
      | some y =>
        obtain ⟨k1, hk1⟩ := of_iexec he
        rw [he] at h
        obtain ⟨e, H'⟩ := y
        cases e with
        | ret v =>
          obtain ⟨k2, hk2⟩ := ih _ _ _ h
          refine ⟨max k1 k2, fun j hj => ?_⟩
          rw [iops_cons, if_pos hw, hk1 j (by omega)]
          exact hk2 j (by omega)
        | pan v =>
          refine ⟨k1, fun j hj => ?_⟩
          rw [iops_cons, if_pos hw, hk1 j hj]
          exact h
    · rw [if_neg hw] at h
      obtain ⟨k2, hk2⟩ := ih _ _ _ h
      refine ⟨k2, fun j hj => ?_⟩
      rw [iops_cons, if_neg hw]
      exact hk2 j hj
theorem of_drun (ops : Array Oper) : ∀ (l : List Oper) (s : DSt) (r : DSt × Option Value), drun J (cal J okf) ops l s = some r → ∃ k, ∀ j, k ≤ j → drun J (icall J okf j) ops l s = some r := by
  intro l
  induction l with
  | nil => intro s r h; exact ⟨0, fun _ _ => h⟩
  | cons o l ih =>
    intro s r h
    simp only [drun] at h
    by_cases hw : wantedR ops s.T o = true
    · rw [if_pos hw] at h
      cases he : iexec J (cal J okf) o s.T s.H with
      | none => simp [he] at h
      | some y =>
        obtain ⟨k1, hk1⟩ := of_iexec he
        rw [he] at h
        obtain ⟨e, H'⟩ := y
        cases e with
        | ret v =>
          obtain ⟨k2, hk2⟩ := ih _ _ h
          refine ⟨max k1 k2, fun j hj => ?_⟩
          simp only [drun]
          rw [if_pos hw, hk1 j (by omega)]
          exact hk2 j (by omega)
        | pan v =>
          refine ⟨k1, fun j hj => ?_⟩
          simp only [drun]
          rw [if_pos hw, hk1 j hj]
          exact h
    · rw [if_neg hw] at h
      obtain ⟨k2, hk2⟩ := ih _ _ h
      refine ⟨k2, fun j hj => ?_⟩
      simp only [drun]
      rw [if_neg hw]
      exact hk2 j hj
theorem of_idraw {ops : Array Oper} {T : Regs} {H : IH} {r : IX × Regs × IH} (h : idraw J (cal J okf) ops T H = some r) : ∃ k, ∀ j, k ≤ j → idraw J (icall J okf j) ops T H = some r := by
  unfold idraw at h
  cases he : drun J (cal J okf) ops ops.toList ⟨T, H, [], [H]⟩ with
  | none => simp [he] at h
  | some y =>
    obtain ⟨k, hk⟩ := of_drun ops _ _ _ he
    refine ⟨k, fun j hj => ?_⟩
    unfold idraw
    rw [hk j hj]
    rw [he] at h; exact h
end

/-! ### Code, as equations -/
section
variable (J : Env) (okf : FuncId → Bool) (T : Regs) (H : IH)
theorem run_of1 (c : Code) (x : Option (IX × Regs × IH)) (h : ∀ k, icode J (icall J okf k) (k + 1) c T H = x) : run J okf c T H = x := by
  refine opt_ext (fun v hv => ?_) (fun v hv => ?_)
  · obtain ⟨k, hk⟩ := of_run hv
    rw [← h k]; exact hk k (k + 1) (Nat.le_refl _) (by omega)
  · exact run_of (k1 := 0) (k2 := 1) ((h 0).trans hv)
@[simp] theorem r_skip : run J okf .skip T H = some (.normal, T, H) := run_of1 _ _ _ _ _ _ fun _ => rfl
@[simp] theorem r_label (l : Nat) : run J okf (.label l) T H = some (.normal, T, H) := run_of1 _ _ _ _ _ _ fun _ => rfl
@[simp] theorem r_exit (i : Nat) : run J okf (.exit i) T H = some (.exit i, T, H) := run_of1 _ _ _ _ _ _ fun _ => rfl
@[simp] theorem r_ret : run J okf .ret T H = some (.ret, T, H) := run_of1 _ _ _ _ _ _ fun _ => rfl
theorem r_region' (i : Nat) (ops : Array Oper) : run J okf (.region i ops false) T H = iops J (cal J okf) ops ops.toList T H := by
  refine opt_ext (fun v hv => ?_) (fun v hv => ?_)
  · obtain ⟨k, hk⟩ := of_run hv
    exact iops_mono (mono_cal k) _ _ _ _ _ (hk k (k + 1) (Nat.le_refl _) (by omega))
  · obtain ⟨k, hk⟩ := of_iops _ _ _ _ _ hv
    exact run_of (k1 := k) (k2 := 1) (hk k (Nat.le_refl _))
@[simp] theorem r_region (i : Nat) (ops : List Oper) : run J okf (.region i ops.toArray false) T H = iops J (cal J okf) ops.toArray ops T H := by rw [r_region']
theorem r_draw (i : Nat) (ops : Array Oper) : run J okf (.region i ops true) T H = idraw J (cal J okf) ops T H := by
  refine opt_ext (fun v hv => ?_) (fun v hv => ?_)
  · obtain ⟨k, hk⟩ := of_run hv
    exact idraw_mono (mono_cal k) _ _ _ _ (hk k (k + 1) (Nat.le_refl _) (by omega))
  · obtain ⟨k, hk⟩ := of_idraw hv
    exact run_of (k1 := k) (k2 := 1) (hk k (Nat.le_refl _))
noncomputable def rseq (J : Env) (okf : FuncId → Bool) (b : Code) (r : Option (IX × Regs × IH)) : Option (IX × Regs × IH) :=
  match r with
  | some (.normal, T', H') => run J okf b T' H'
  | r => r
@[simp] theorem rs_normal (b : Code) : rseq J okf b (some (.normal, T, H)) = run J okf b T H := rfl
@[simp] theorem rs_exit (b : Code) (i : Nat) : rseq J okf b (some (.exit i, T, H)) = some (.exit i, T, H) := rfl
@[simp] theorem rs_ret (b : Code) : rseq J okf b (some (.ret, T, H)) = some (.ret, T, H) := rfl
@[simp] theorem rs_pan (b : Code) (v : Value) : rseq J okf b (some (.pan v, T, H)) = some (.pan v, T, H) := rfl
theorem r_two (c a b : Code) (h : ∀ k call, icode J call (k + 1) c T H = andThen (icode J call k a T H) fun T' H' => icode J call k b T' H') : run J okf c T H = rseq J okf b (run J okf a T H) := by
  refine opt_ext (fun v hv => ?_) (fun v hv => ?_)
  · obtain ⟨k, hk⟩ := of_run hv
    have h1 := hk k (k + 1) (Nat.le_refl _) (by omega)
    rw [h] at h1
    cases he : icode J (icall J okf k) k a T H with
    | none => simp [he, andThen] at h1
    | some y =>
      rw [run_of he]
      rw [he] at h1
      obtain ⟨e, T', H'⟩ := y
      cases e <;> first | exact run_of h1 | exact h1
  · cases ha : run J okf a T H with
    | none => simp [ha, rseq] at hv
    | some y =>
      rw [ha] at hv
      obtain ⟨k1, hk1⟩ := of_run ha
      obtain ⟨e, T', H'⟩ := y
      cases e with
      | normal =>
        obtain ⟨k2, hk2⟩ := of_run hv
        refine run_of (k1 := max k1 k2) (k2 := max k1 k2 + 1) ?_
        rw [h, hk1 _ _ (by omega) (by omega)]
        exact hk2 _ _ (by omega) (by omega)
      | _ =>
        refine run_of (k1 := k1) (k2 := k1 + 1) ?_
        rw [h, hk1 _ _ (by omega) (by omega)]
        exact hv
@[simp] theorem r_seq (a b : Code) : run J okf (.seq a b) T H = rseq J okf b (run J okf a T H) := r_two J okf T H _ a b fun k call => icode_seq J call k T H a b
theorem r_loop (c : Code) : run J okf (.loop c) T H = rseq J okf (.loop c) (run J okf c T H) := r_two J okf T H _ c (.loop c) fun k call => icode_loop J call k T H c
noncomputable def rcond (J : Env) (okf : FuncId → Bool) (x y : Code) (T : Regs) (H : IH) (v : Value) : Option (IX × Regs × IH) :=
  match v with
  | .bool true => run J okf x T H
  | .bool false => run J okf y T H
  | _ => none
@[simp] theorem rc_t (x y : Code) : rcond J okf x y T H (.bool true) = run J okf x T H := rfl
@[simp] theorem rc_f (x y : Code) : rcond J okf x y T H (.bool false) = run J okf y T H := rfl
@[simp] theorem r_cond (c : Operand) (x y : Code) : run J okf (.cond c x y) T H = rcond J okf x y T H (iev T c) := by
  refine opt_ext (fun v hv => ?_) (fun v hv => ?_)
  · obtain ⟨k, hk⟩ := of_run hv
    have h1 := hk k (k + 1) (Nat.le_refl _) (by omega)
    rw [icode_cond] at h1
    cases hc : iev T c with
    | bool b =>
      rw [hc] at h1
      cases b <;> exact run_of h1
    | _ => rw [hc] at h1; simp [branch] at h1
  · cases hc : iev T c with
    | bool b =>
      rw [hc] at hv
      cases b <;>
      · obtain ⟨k, hk⟩ := of_run hv
        refine run_of (k1 := k) (k2 := k + 1) ?_
        rw [icode_cond, hc]
        exact hk _ _ (Nat.le_refl _) (Nat.le_refl _)
    | _ => rw [hc] at hv; simp [rcond] at hv
@[simp] theorem r_block (id : Nat) (c : Code) : run J okf (.block id c) T H = blockOut id (run J okf c T H) := by
  refine opt_ext (fun v hv => ?_) (fun v hv => ?_)
  · obtain ⟨k, hk⟩ := of_run hv
    have h1 := hk k (k + 1) (Nat.le_refl _) (by omega)
    rw [icode_block] at h1
    cases he : icode J (icall J okf k) k c T H with
    | none => simp [he, blockOut] at h1
    | some y => rw [run_of he, ← he]; exact h1
  · cases ha : run J okf c T H with
    | none => simp [ha, blockOut] at hv
    | some y =>
      rw [ha] at hv
      obtain ⟨k, hk⟩ := of_run ha
      refine run_of (k1 := k) (k2 := k + 1) ?_
      rw [icode_block, hk _ _ (Nat.le_refl _) (Nat.le_refl _)]
      exact hv
theorem cal_body (f : FuncId) (args : Array Value) (rs : List ResultVar) (c : Code) (h : ∀ k, icall J okf (k + 1) f args H = finish J rs (icode J (icall J okf k) k c (regsOf args.toList 0 .leaf) H)) :
    cal J okf f args H = finish J rs (run J okf c (regsOf args.toList 0 .leaf) H) := by
  refine opt_ext (fun v hv => ?_) (fun v hv => ?_)
  · obtain ⟨k, hk⟩ := of_cal hv
    have h1 := hk (k + 1) (by omega)
    rw [h] at h1
    cases he : icode J (icall J okf k) k c (regsOf args.toList 0 .leaf) H with
    | none => simp [he, finish] at h1
    | some y => rw [run_of he, ← he]; exact h1
  · cases ha : run J okf c (regsOf args.toList 0 .leaf) H with
    | none => simp [ha, finish] at hv
    | some y =>
      rw [ha] at hv
      obtain ⟨k, hk⟩ := of_run ha
      refine cal_of (k := k + 1) ?_
      rw [h, hk _ _ (Nat.le_refl _) (Nat.le_refl _)]
      exact hv
end

/-! ### Drawn regions -/
section
variable (J : Env) (call : CallR) (T : Regs) (H : IH)
/-- A region that may not be gone through in the order of the text by these rules. -/
noncomputable def idrawP := @idraw
noncomputable def dOut (J : Env) (call : CallR) (ops : List Oper) (T : Regs) (H : IH) (r : Option (IX × Regs × IH)) : Option (IX × Regs × IH) :=
  match r with
  | some (.pan _, _, _) => idrawP J call ops.toArray T H
  | r => r
@[simp] theorem dOut_normal (ops : List Oper) (T' : Regs) (H' : IH) : dOut J call ops T H (some (.normal, T', H')) = some (.normal, T', H') := rfl
theorem drun_iops (ops : Array Oper) : ∀ (l : List Oper) (s : DSt),
    match iops J call ops l s.T s.H with
    | some (.normal, T', H') => ∃ vs hs, drun J call ops l s = some (⟨T', H', vs, hs⟩, none)
    | some (.pan _, _, _) => True
    | some _ => False
    | none => drun J call ops l s = none := by
  intro l
  induction l with
  | nil => intro s; exact ⟨s.vs, s.hs, rfl⟩
  | cons o l ih =>
    intro s
    rw [iops_cons]
    simp only [drun]
    by_cases hw : wantedR ops s.T o = true
    · rw [if_pos hw, if_pos hw]
      cases he : iexec J call o s.T s.H with
      | none => simp [opStep]
      | some y =>
        obtain ⟨e, H'⟩ := y
        cases e with
        | ret v => exact ih ⟨putR s.T o.dst v, H', s.vs ++ [(s.T, v)], if isEff J o then s.hs ++ [H'] else s.hs⟩
        | pan v => simp [opStep]
    · rw [if_neg hw, if_neg hw]
      exact ih ⟨putR s.T o.dst undef, s.H, s.vs ++ [(s.T, undef)], if isEff J o then s.hs ++ [s.H] else s.hs⟩
theorem dcheck_nil {ops : Array Oper} (h : pairs J ops = []) (vs : List (Regs × Value)) (hs : List IH) : dcheck J ops vs hs = true := by
  unfold dcheck
  split
  · rfl
  · rw [h]; rfl
theorem draw_static {ops : List Oper} (h : pairs J ops.toArray = []) : idraw J call ops.toArray T H = dOut J call ops T H (iops J call ops.toArray ops T H) := by
  have key := drun_iops J call ops.toArray ops ⟨T, H, [], [H]⟩
  dsimp only at key
  cases hi : iops J call ops.toArray ops T H with
  | none =>
    rw [hi] at key
    unfold idraw
    rw [show ops.toArray.toList = ops from rfl, key]; rfl
  | some y =>
    obtain ⟨x, T', H'⟩ := y
    rw [hi] at key
    cases x with
    | normal =>
      obtain ⟨vs, hs, hd⟩ := key
      unfold idraw
      rw [show ops.toArray.toList = ops from rfl, hd]
      simp [dcheck_nil J h, dOut]
    | pan v => rfl
    | _ => exact absurd key (by simp)
/-! and with memory looked at -/
def dFin (J : Env) (ops : List Oper) (r : Option (DSt × Option Value)) : Option (IX × Regs × IH) :=
  match r with
  | some (s, none) => if dcheck J ops.toArray s.vs s.hs then some (.normal, s.T, s.H) else none
  | some (s, some v) =>
    if dcheck J ops.toArray s.vs s.hs && effAt J ops.toArray s.vs.length && (List.range ops.toArray.size).all (fun j => decide (j ≤ s.vs.length) || waitsFor (waits ops.toArray) j s.vs.length) then some (.pan v, s.T, s.H) else none
  | none => none
theorem draw_look (ops : List Oper) : idraw J call ops.toArray T H = dFin J ops (drun J call ops.toArray ops ⟨T, H, [], [H]⟩) := by
  unfold idraw dFin
  rfl
@[simp] theorem dFin_normal {ops : List Oper} {ps : List (Nat × Nat)} (h : pairs J ops.toArray = ps) (T' : Regs) (H' : IH) (vs : List (Regs × Value)) (hs : List IH) (ho : ps.all (oblig J ops.toArray vs hs) = true) :
    dFin J ops (some (⟨T', H', vs, hs⟩, none)) = some (.normal, T', H') := by
  have : dcheck J ops.toArray vs hs = true := by
    unfold dcheck
    split
    · rfl
    · rw [h]; exact ho
  simp [dFin, this]
def dGo (J : Env) (call : CallR) (ops : Array Oper) (r : List Oper) (o : Oper) (T : Regs) (H : IH) (vs : List (Regs × Value)) (hs : List IH) (b : Bool) : Option (DSt × Option Value) :=
  match b with
  | true => match orStep call (iop J o T H) with
    | some (.ret v, H') => drun J call ops r ⟨putR T o.dst v, H', vs ++ [(T, v)], if isEff J o then hs ++ [H'] else hs⟩
    | some (.pan v, H') => some (⟨T, H', vs, hs⟩, some v)
    | none => none
  | false => drun J call ops r ⟨putR T o.dst undef, H, vs ++ [(T, undef)], if isEff J o then hs ++ [H] else hs⟩
def dRes (J : Env) (call : CallR) (ops : Array Oper) (r : List Oper) (o : Oper) (T : Regs) (vs : List (Regs × Value)) (hs : List IH) (x : Option (IE × IH)) : Option (DSt × Option Value) :=
  match x with
  | some (.ret v, H') => drun J call ops r ⟨putR T o.dst v, H', vs ++ [(T, v)], if isEff J o then hs ++ [H'] else hs⟩
  | some (.pan v, H') => some (⟨T, H', vs, hs⟩, some v)
  | none => none
@[simp] theorem drun_nil (ops : Array Oper) (s : DSt) : drun J call ops [] s = some (s, none) := rfl
@[simp] theorem drun_cons (ops : Array Oper) (o : Oper) (r : List Oper) (vs : List (Regs × Value)) (hs : List IH) : drun J call ops (o :: r) ⟨T, H, vs, hs⟩ = dGo J call ops r o T H vs hs (wantedR ops T o) := by
  simp only [drun]
  unfold dGo
  cases wantedR ops T o
  · rfl
  · simp only [if_true, iexec_eq]
    rfl
@[simp] theorem dGo_true (ops : Array Oper) (o : Oper) (r : List Oper) (vs : List (Regs × Value)) (hs : List IH) : dGo J call ops r o T H vs hs true = dRes J call ops r o T vs hs (orStep call (iop J o T H)) := rfl
@[simp] theorem dGo_false (ops : Array Oper) (o : Oper) (r : List Oper) (vs : List (Regs × Value)) (hs : List IH) : dGo J call ops r o T H vs hs false = drun J call ops r ⟨putR T o.dst undef, H, vs ++ [(T, undef)], if isEff J o then hs ++ [H] else hs⟩ := rfl
@[simp] theorem dRes_ret (ops : Array Oper) (o : Oper) (r : List Oper) (vs : List (Regs × Value)) (hs : List IH) (v : Value) : dRes J call ops r o T vs hs (some (.ret v, H)) = drun J call ops r ⟨putR T o.dst v, H, vs ++ [(T, v)], if isEff J o then hs ++ [H] else hs⟩ := rfl
end
end Go.Proofs.YtjbcjcibnjbpcaaDoor.Idl
namespace Go.Proofs.YtjbcjcibnjbpcaaDoor.Idl
open Go Go.RowKit

theorem Tr.setF_setF {α : Type} (x y : α) : ∀ (k : Nat) (t : Tr α) (n : Nat), n < k → Tr.setF y k (Tr.setF x k t n) n = Tr.setF y k t n := by
  intro k
  induction k with
  | zero => intro t n h; omega
  | succ k ih =>
    intro t n h
    cases t with
    | leaf =>
      simp only [Tr.setF]
      by_cases h0 : n = 0
      · simp [h0, Tr.setF]
      · by_cases h1 : n % 2 = 1
        · simp only [h0, h1, if_true, if_false, Tr.setF]
          rw [ih _ _ (by omega)]
        · simp only [h0, h1, if_false, Tr.setF]
          rw [ih _ _ (by omega)]
    | node v l r =>
      simp only [Tr.setF]
      by_cases h0 : n = 0
      · simp [h0, Tr.setF]
      · by_cases h1 : n % 2 = 1
        · simp only [h0, h1, if_true, if_false, Tr.setF]
          rw [ih _ _ (by omega)]
        · simp only [h0, h1, if_false, Tr.setF]
          rw [ih _ _ (by omega)]
theorem Tr.setF_get {α : Type} (x : α) : ∀ (k : Nat) (t : Tr α) (n : Nat), n < k → t.get n = some x → Tr.setF x k t n = t := by
  intro k
  induction k with
  | zero => intro t n h; omega
  | succ k ih =>
    intro t n h hg
    cases t with
    | leaf => simp [Tr.get] at hg
    | node v l r =>
      simp only [Tr.get] at hg
      simp only [Tr.setF]
      by_cases h0 : n = 0
      · rw [if_pos h0] at hg ⊢; rw [hg]
      · rw [if_neg h0] at hg ⊢
        by_cases h1 : n % 2 = 1
        · rw [if_pos h1] at hg ⊢
          rw [ih l _ (by omega) hg]
        · rw [if_neg h1] at hg ⊢
          rw [ih r _ (by omega) hg]
namespace IH
theorem set_same (H : IH) (b : Nat) (x : Blk) (h : H.get b = some x) : H.set b x = H := by
  unfold IH.set Tr.set
  rw [Tr.setF_get x (b + 1) H.t b (by omega) h]
@[simp] theorem set_set (H : IH) (b : Nat) (x y : Blk) : (H.set b x).set b y = H.set b y := by
  unfold IH.set Tr.set
  simp only [Tr.setF_setF x y (b + 1) H.t b (by omega)]
@[simp] theorem get_set_same (H : IH) (b : Nat) (x : Blk) : (H.set b x).get b = some x := by rw [get_set, if_pos rfl]
theorem get_set_other (H : IH) (b c : Nat) (x : Blk) (h : c ≠ b) : (H.set b x).get c = H.get c := by rw [get_set, if_neg h]
@[simp] theorem get_push_same (H : IH) (x : Blk) : (H.push x).get H.next = some x := by rw [get_push, if_pos rfl]
theorem get_push_other (H : IH) (c : Nat) (x : Blk) (h : c < H.next) : (H.push x).get c = H.get c := by rw [get_push, if_neg (by omega)]
end IH

section
variable (J : Env) (H : IH)
@[simp] theorem add_addr (b off n : Nat) : Addr.add ⟨b, off, none⟩ n = ⟨b, off + n, none⟩ := add_plain b off n
def cellOf (x : Option Blk) (off : Nat) : Option Value :=
  match x with
  | some (.cells cs _ _) => cs[off]?
  | _ => none
@[simp] theorem cellOf_cells (cs : List Value) (e : TypeId) (pr : Bool) (off : Nat) : cellOf (some (.cells cs e pr)) off = cs[off]? := rfl
@[simp] theorem icell_eq (b off : Nat) : icell H ⟨b, off, none⟩ = cellOf (H.get b) off := by
  simp only [icell, cellOf]
  split <;> simp_all
def cellsOf (x : Option Blk) (off n : Nat) : Option (List Value) :=
  match x with
  | some (.cells cs _ _) => if off + n ≤ cs.length then some ((cs.drop off).take n) else none
  | _ => none
@[simp] theorem cellsOf_cells (cs : List Value) (e : TypeId) (pr : Bool) (off n : Nat) : cellsOf (some (.cells cs e pr)) off n = if off + n ≤ cs.length then some ((cs.drop off).take n) else none := rfl
@[simp] theorem icells_eq (b off n : Nat) : icells H ⟨b, off, none⟩ n = cellsOf (H.get b) off n := by
  simp only [icells, cellsOf]
  split <;> simp_all
def putOf (H : IH) (b off : Nat) (vs : List Value) (x : Option Blk) : Option IH :=
  match x with
  | some (.cells cs e false) => if off + vs.length ≤ cs.length ∧ vs ≠ [] ∧ vs.all plain1 then some (H.set b (.cells (overlay cs off vs) e false)) else none
  | _ => none
@[simp] theorem putOf_cells (b off : Nat) (vs cs : List Value) (e : TypeId) : putOf H b off vs (some (.cells cs e false)) = if off + vs.length ≤ cs.length ∧ vs ≠ [] ∧ vs.all plain1 then some (H.set b (.cells (overlay cs off vs) e false)) else none := rfl
@[simp] theorem iput_eq (b off : Nat) (vs : List Value) : iput H ⟨b, off, none⟩ vs = putOf H b off vs (H.get b) := by
  simp only [iput, putOf]
  split <;> simp_all
def loadT (J : Env) (t : TypeId) (H : IH) (a : Addr) (x : Option Bool) : Option Value :=
  match x with
  | some true => match J.size t with
    | some n => (icells H a n).map fun cs => .agg cs.toArray
    | none => none
  | some false => icell H a
  | none => none
@[simp] theorem iload_eq (t : TypeId) (a : Addr) : iload J t a H = loadT J t H a (isAggT J t) := rfl
@[simp] theorem loadT_plain (t : TypeId) (a : Addr) : loadT J t H a (some false) = icell H a := rfl
theorem loadT_agg (t n : Nat) (a : Addr) (h : J.size t = some n) : loadT J t H a (some true) = (icells H a n).map fun cs => .agg cs.toArray := by simp [loadT, h]
def idxS (s : ByteArray) (i : Int) : Option Value := if 0 ≤ i then (s[i.toNat]?).map fun b => .int .u8 b.toNat else none
@[simp] theorem index_string (t : TypeId) (s : ByteArray) (k : IntKind) (i : Int) (h : J.und t = some .string) : iindex J t (.string s) (.int k i) = idxS s i := by
  simp [iindex, h, idxS]
theorem idxS_nat (s : ByteArray) (i : Nat) (h : i < s.size) : idxS s i = some (.int .u8 (s[i]).toNat) := by
  simp [idxS, h]
def sliceS (s : ByteArray) (l h : Option Nat) : Option Value :=
  match l, h with
  | some l, some h => if l ≤ h ∧ h ≤ s.size then some (.string (s.extract l h)) else none
  | _, _ => none
@[simp] theorem slice_string (t : TypeId) (s : ByteArray) (lo hi : Option Value) (h : J.und t = some .string) : islice J t (.string s) lo hi none H = sliceS s (ibound lo 0) (ibound hi s.size) := by
  simp only [islice, h, sliceS]
  split <;> rename_i h1 <;> split <;> simp_all
@[simp] theorem bound_none (d : Nat) : ibound none d = some d := rfl
@[simp] theorem bound_nat (k : IntKind) (n d : Nat) : ibound (some (.int k (n : Int))) d = some n := by simp [ibound]
theorem bound_int (k : IntKind) (i : Int) (d : Nat) : ibound (some (.int k i)) d = if 0 ≤ i then some i.toNat else none := rfl
theorem sliceS_some (s : ByteArray) (l h : Nat) (h1 : l ≤ h) (h2 : h ≤ s.size) : sliceS s (some l) (some h) = some (.string (s.extract l h)) := by simp [sliceS, h1, h2]
/-! A 64-bit reckoning that does not wrap. -/
theorem wrap64 (n : Int) (h1 : -9223372036854775808 ≤ n) (h2 : n ≤ 9223372036854775807) : IntKind.i64.wrap n = n := by
  simp [IntKind.wrap, IntKind.bits, IntKind.signed]
  omega
theorem wrap64_nat (n : Nat) (h2 : n ≤ 9223372036854775807) : IntKind.i64.wrap (n : Int) = n := wrap64 _ (by omega) (by omega)
end

noncomputable def iopP := @iop
def lenQ (x : Option Value) (H : IH) (f : Option OR) : Option OR :=
  match x with
  | some v => some (.val v H)
  | none => f
@[simp] theorem lenQ_some (v : Value) (H : IH) (f : Option OR) : lenQ (some v) H f = some (.val v H) := rfl
section
variable (J : Env) (T : Regs) (H : IH) (dst : Option Tmp) (type : TypeId) (pos : String) (after : Array Edge) (guard : Option (Nat × Bool))
@[simp] theorem iop_len_q (x : Operand) (t : TypeId) : iop J ⟨dst, .call ⟨.builtin .len, #[x], #[t]⟩, type, pos, after, guard⟩ T H =
    lenQ (lenV J t (iev T x)) H (iopP J ⟨dst, .call ⟨.builtin .len, #[x], #[t]⟩, type, pos, after, guard⟩ T H) := by
  cases h : lenV J t (iev T x) with
  | some v => exact iop_len J T H dst type pos after guard x t v h
  | none => rfl
@[simp] theorem lenV_string (t : TypeId) (s : ByteArray) (h : J.und t = some .string) : lenV J t (.string s) = some (.int .i64 s.size) := by simp [lenV, h]
def lenS (d : Option TypeDesc) (n : Nat) : Option Value :=
  match d with
  | some (.slice _) => some (.int .i64 n)
  | _ => none
@[simp] theorem lenS_slice (e : TypeId) (n : Nat) : lenS (some (.slice e)) n = some (.int .i64 n) := rfl
@[simp] theorem lenV_slice (t : TypeId) (a : Option Addr) (n c : Nat) : lenV J t (.slice a n c) = lenS (J.und t) n := by
  unfold lenV lenS
  dsimp only
  split <;> split <;> simp_all
end
end Go.Proofs.YtjbcjcibnjbpcaaDoor.Idl
namespace Go.Proofs.YtjbcjcibnjbpcaaDoor.Idl
open Go Go.RowKit

section
variable (J : Env) (T : Regs) (H : IH) (dst : Option Tmp) (type : TypeId) (pos : String) (after : Array Edge) (guard : Option (Nat × Bool))
theorem ipure_of {o : Oper} {v : Value} (hf : (o.op.operands.all fun x => flat (iev T x)) = true) (h : pureRun J.P (execOp (iev T) o) = some (.value v)) (hv : flat v = true) : ipure J o T H = some (.val v H) := by
  unfold ipure
  rw [if_pos hf, h]
  simp [hv]
def notR (v : Value) (H : IH) : Option OR :=
  match v with
  | .bool b => some (.val (.bool (!b)) H)
  | _ => none
@[simp] theorem notR_bool (b : Bool) : notR (.bool b) H = some (.val (.bool (!b)) H) := rfl
theorem iop_not (t : TypeId) (x : Operand) (b : Bool) (h : iev T x = .bool b) : iop J ⟨dst, .unOp .not t x, type, pos, after, guard⟩ T H = some (.val (.bool (!b)) H) := by
  show ipure J _ T H = _
  refine ipure_of J T H (by simp [Op.operands, h, flat, flatN]) ?_ rfl
  simp only [execOp, h]
  rfl
def isB (v : Value) : Option Bool :=
  match v with
  | .bool b => some b
  | _ => none
def notQ (x : Option Bool) (H : IH) (f : Option OR) : Option OR :=
  match x with
  | some b => some (.val (.bool (!b)) H)
  | none => f
@[simp] theorem notQ_some (b : Bool) (f : Option OR) : notQ (some b) H f = some (.val (.bool (!b)) H) := rfl
@[simp] theorem isB_bool (b : Bool) : isB (.bool b) = some b := rfl
@[simp] theorem iop_not_q (t : TypeId) (x : Operand) : iop J ⟨dst, .unOp .not t x, type, pos, after, guard⟩ T H = notQ (isB (iev T x)) H (iopP J ⟨dst, .unOp .not t x, type, pos, after, guard⟩ T H) := by
  cases h : iev T x with
  | bool b => exact iop_not J T H dst type pos after guard t x b h
  | _ => rfl
/-- A conversion of a number to a number. -/
theorem iop_conv (src d : TypeId) (x : Operand) (k0 k k2 : IntKind) (n : Int) (hx : iev T x = .int k n) (hs : J.und src = some (.int k0)) (hd : J.und d = some (.int k2)) :
    iop J ⟨dst, .convert src d x, type, pos, after, guard⟩ T H = some (.val (.int k2 (k2.wrap n)) H) := by
  have hi : iconvert J src d (iev T x) H = none := by simp only [iconvert, hs, hd, hx]
  have hp : ipure J ⟨dst, .convert src d x, type, pos, after, guard⟩ T H = some (.val (.int k2 (k2.wrap n)) H) := by
    refine ipure_of J T H (by simp [Op.operands, hx, flat, flatN]) ?_ rfl
    simp only [execOp, hx]
    have e : pureRun J.P (convert src d (.int k n)) = some (.int k2 (k2.wrap n)) := by
      unfold convert
      rw [pureRun_bind]
      have h1 : ∀ t u, J.und t = some u → pureRun J.P (underlying t) = some u := fun t u h => by
        unfold underlying
        rw [pureRun_bind]
        simp [program, pureRun, J.und_ok h, pure]
      rw [h1 _ _ hs]
      simp only [Option.bind_some]
      rw [pureRun_bind, h1 _ _ hd]
      simp only [Option.bind_some]
      rfl
    rw [pureRun_bind, e]; rfl
  simp only [iop, hi, hp]
def convQ (_J : Env) (s d : Option TypeDesc) (v : Value) : Option Value :=
  match s, d, v with
  | some (.int _), some (.int k2), .int _ n => some (.int k2 (k2.wrap n))
  | _, _, _ => none
@[simp] theorem convQ_int (k1 k2 k : IntKind) (n : Int) : convQ J (some (.int k1)) (some (.int k2)) (.int k n) = some (.int k2 (k2.wrap n)) := rfl
def convR (x : Option (Value × IH)) (f : Option OR) : Option OR :=
  match x with
  | some (v, H') => some (.val v H')
  | none => f
@[simp] theorem convR_some (v : Value) (H' : IH) (f : Option OR) : convR (some (v, H')) f = some (.val v H') := rfl
@[simp] theorem convR_none (f : Option OR) : convR none f = f := rfl
@[simp] theorem iconvert_int (s d : TypeId) (k : IntKind) (n : Int) : iconvert J s d (.int k n) H = none := by
  unfold iconvert
  split <;> simp_all
@[simp] theorem iop_convR (src d : TypeId) (x : Operand) : iop J ⟨dst, .convert src d x, type, pos, after, guard⟩ T H = convR (iconvert J src d (iev T x) H) (lenQ (convQ J (J.und src) (J.und d) (iev T x)) H (iopP J ⟨dst, .convert src d x, type, pos, after, guard⟩ T H)) := by
  cases hi : iconvert J src d (iev T x) H with
  | some p => simp only [iop, hi]; rfl
  | none =>
    simp only [convR_none]
    cases h : convQ J (J.und src) (J.und d) (iev T x) with
    | none => rfl
    | some v =>
      unfold convQ at h
      split at h
      · rename_i k1 k2 k n h1 h2 h3
        cases h
        exact iop_conv J T H dst type pos after guard src d x k1 k k2 n h3 h1 h2
      · simp at h
theorem iop_conv_q (src d : TypeId) (x : Operand) : iop J ⟨dst, .convert src d x, type, pos, after, guard⟩ T H = lenQ (convQ J (J.und src) (J.und d) (iev T x)) H (iopP J ⟨dst, .convert src d x, type, pos, after, guard⟩ T H) := by
  cases h : convQ J (J.und src) (J.und d) (iev T x) with
  | none => rfl
  | some v =>
    unfold convQ at h
    split at h
    · rename_i k1 k2 k n h1 h2 h3
      cases h
      exact iop_conv J T H dst type pos after guard src d x k1 k k2 n h3 h1 h2
    · simp at h
/-- bytealg.IndexByteString. -/
def idxB (s : ByteArray) (c : Int) : Int :=
  match (List.range s.size).find? fun i => s[i]! == c.toNat.toUInt8 with
  | some i => i
  | none => -1
theorem ext_run {P : Program} {f : Operand} {g : FuncId} {fn : Func} {args : Array Operand} {at_ : Array TypeId} {e : Array Value → Sem Value} {v : Value} (hf : iev T f = .func (.func g) #[] #[]) (hfn : P.funcs[g]? = some fn)
    (hname : (fn.name == "runtime.NumGoroutine") = false) (hb : fn.body.isNone = true) (hn : Extern.findNext fn = none) (he : Extern.find fn = some e) (hv : pureRun P (e (args.map (iev T))) = some v) :
    pureRun P (execOp (iev T) ⟨dst, .call ⟨.value f, args, at_⟩, type, pos, after, guard⟩) = some (.value v) := by
  have h0 : pureRun P (callFunc g (args.map (iev T))) = some (.value v) := by
    unfold callFunc
    rw [pureRun_bind]
    show Option.bind (some P) _ = _
    simp only [Option.bind_some, hfn, hname, hb, if_true, if_false, Bool.false_eq_true, hn, he]
    rw [pureRun_bind]
    show Option.bind (some ()) _ = _
    simp only [Option.bind_some]
    rw [pureRun_bind, hv]; rfl
  unfold execOp
  dsimp only
  unfold resolve
  dsimp only
  rw [hf]
  unfold Deferred.ofValue
  rw [pureRun_bind]
  show Option.bind (some _) _ = _
  simp only [Option.bind_some]
  unfold invoke
  dsimp only
  simpa using h0
theorem indexByte_pure (P : Program) (s : ByteArray) (c : Int) : pureRun P (Extern.BytealgIndexByte.indexByte #[.string s, .int .u8 c]) = some (.int .i64 (idxB s c)) := by
  have e : Extern.BytealgIndexByte.indexByte #[.string s, .int .u8 c] = (do
      let b ← (pure s : Sem ByteArray)
      let c ← (pure c.toNat.toUInt8 : Sem UInt8)
      match (List.range b.size).find? fun i => b[i]! == c with
      | some i => pure (.int .i64 i)
      | none => pure (.int .i64 (-1))) := rfl
  rw [e, pureRun_bind]
  show Option.bind (some s) _ = _
  simp only [Option.bind_some]
  rw [pureRun_bind]
  show Option.bind (some _) _ = _
  simp only [Option.bind_some]
  unfold idxB
  cases (List.range s.size).find? (fun i => s[i]! == c.toNat.toUInt8) <;> rfl
theorem indexByte_ext (f x y : Operand) (g : FuncId) (fn : Func) (at_ : Array TypeId) (s : ByteArray) (c : Int) (hf : iev T f = .func (.func g) #[] #[]) (hx : iev T x = .string s) (hy : iev T y = .int .u8 c)
    (hfn : J.P.funcs[g]? = some fn) (hb0 : hasBody J g = false) (hid : J.ident g = false) (hname : (fn.name == "runtime.NumGoroutine") = false) (hb : fn.body.isNone = true) (hn : Extern.findNext fn = none) (he : Extern.find fn = some Extern.BytealgIndexByte.indexByte) :
    funcR J (.func (.func g) #[] #[]) #[.string s, .int .u8 c] ⟨dst, .call ⟨.value f, #[x, y], at_⟩, type, pos, after, guard⟩ T H = some (.val (.int .i64 (idxB s c)) H) := by
  simp only [funcR, hb0, hid, Bool.false_eq_true, if_false]
  refine ipure_of J T H ?_ (ext_run T dst type pos after guard hf hfn hname hb hn he ?_) rfl
  · simp [Op.operands, Call.operands, hf, hx, hy, flat, flatN]
  · simp only [List.map_toArray, List.map_cons, List.map_nil, hx, hy]
    exact indexByte_pure J.P s c
end
end Go.Proofs.YtjbcjcibnjbpcaaDoor.Idl
namespace Go.Proofs.YtjbcjcibnjbpcaaDoor.Idl
open Go Go.RowKit

/-- A []byte that append made: its block is at or above lo. -/
def BsAt (_J : Env) (e : TypeId) (H : IH) (v : Value) (l : List Int) (lo : Nat) : Prop :=
  (v = .slice none 0 0 ∧ l = []) ∨ ∃ b, lo ≤ b ∧ b < H.next ∧ v = .slice (some ⟨b, 0, none⟩) l.length capU ∧ H.get b = some (.cells (l.map (Value.int .u8)) e false)
structure BT (J : Env) (st e : TypeId) : Prop where
  und : J.und st = some (.slice e)
  size : J.size e = some 1
  bytes : J.bytes e = some 1
  zero : J.zero e = some (.int .u8 0)
  byte : J.und e = some (.int .u8)
theorem take_map (l : List Int) : List.take l.length (l.map (Value.int IntKind.u8)) = l.map (Value.int IntKind.u8) := by
  have := List.take_length (l := l.map (Value.int IntKind.u8))
  rwa [List.length_map] at this
theorem bytesOf_ints (l : List Int) : bytesOfCells (l.map (Value.int .u8)) = some (l.map fun n => UInt8.ofNat n.toNat) := by
  induction l with
  | nil => rfl
  | cons n l ih => simp [bytesOfCells, ih]
section
variable {J : Env} {st e : TypeId} (hT : BT J st e)
include hT
theorem build1 (H : IH) (c : Int) : ibuildSlice J st 1 [(0, .int .u8 c)] H = some (.slice (some ⟨H.next, 0, none⟩) 1 1, H.push (.cells [.int .u8 c] e false)) := by
  have : Instr.fill (fun i => some (i, 1)) (Array.map (fun x => (Value.int IntKind.u8 0).cells[x % (Value.int IntKind.u8 0).cells.size]!) (Array.range 1)) [(0, Value.int IntKind.u8 c)] = some #[.int .u8 c] := by
    have hr : Array.range 1 = #[0] := by decide
    simp [Instr.fill, Value.cells, hr]
  simp [ibuildSlice, hT.und, hT.size, hT.zero, this]
theorem app1 {H : IH} {v : Value} {l : List Int} {lo : Nat} (hv : BsAt J e H v l lo) (hlo : lo ≤ H.next) (hl : l.length < 2 ^ 40) (c : Int) :
    ∃ v' H', iappend J #[st, st] v (.slice (some ⟨H.next, 0, none⟩) 1 1) (H.push (.cells [.int .u8 c] e false)) = some (v', H') ∧ BsAt J e H' v' (l ++ [c]) lo ∧ H.next ≤ H'.next ∧ ∀ x, x < lo → H'.get x = H.get x := by
  have hz : (Value.int IntKind.u8 0).cells.size = 1 := rfl
  rcases hv with ⟨rfl, rfl⟩ | ⟨b, h1, h2, rfl, h4⟩
  · refine ⟨.slice (some ⟨H.next + 1, 0, none⟩) 1 capU, (H.push (.cells [.int .u8 c] e false)).push (.cells [.int .u8 c] e false), ?_, .inr ⟨H.next + 1, by omega, by simp, by simp, ?_⟩, by simp; omega, fun x hx => ?_⟩
    · simp [iappend, hT.und, hT.size, hT.bytes, hT.zero, ilenOf, ifirst, Value.cells]
    · have : H.next + 1 = (H.push (.cells [.int .u8 c] e false)).next := rfl
      rw [this, IH.get_push_same]; rfl
    · rw [IH.get_push_other _ _ _ (by simp; omega), IH.get_push_other _ _ _ (by omega)]
  · have hb : (H.push (.cells [.int .u8 c] e false)).get b = some (.cells (l.map (Value.int .u8)) e false) := by rw [IH.get_push_other _ _ _ h2]; exact h4
    have hall : ((l.map (Value.int IntKind.u8))).all plain1 = true := by simp [plain1]
    refine ⟨.slice (some ⟨H.next + 1, 0, none⟩) (l.length + 1) capU, ((H.push (.cells [.int .u8 c] e false)).set b .dead).push (.cells (l.map (Value.int .u8) ++ [.int .u8 c]) e false), ?_, .inr ⟨H.next + 1, by omega, by simp, by simp, ?_⟩, by simp; omega, fun x hx => ?_⟩
    · have hcap : ((l.length + 1) * 3 ≤ 2 ^ 47) := by omega
      simp [iappend, hT.und, hT.size, hT.bytes, hT.zero, ilenOf, ifirst, Value.cells, hb, plain1, hcap, capU, take_map]
    · have : H.next + 1 = ((H.push (.cells [.int .u8 c] e false)).set b .dead).next := rfl
      rw [this, IH.get_push_same]; simp
    · rw [IH.get_push_other _ _ _ (by simp; omega), IH.get_set_other _ _ _ _ (by omega), IH.get_push_other _ _ _ (by omega)]
def strOf (l : List Int) : ByteArray := ⟨(l.map fun n => UInt8.ofNat n.toNat).toArray⟩
theorem conv_bytes {H : IH} {v : Value} {l : List Int} {lo : Nat} {d : TypeId} (hv : BsAt J e H v l lo) (hd : J.und d = some .string) : iconvert J st d v H = some (.string (strOf l), H) := by
  rcases hv with ⟨rfl, rfl⟩ | ⟨b, h1, h2, rfl, h4⟩
  · simp [iconvert, hT.und, hd, hT.byte]; rfl
  · have hm := bytesOf_ints l
    simp [iconvert, hT.und, hd, hT.byte, h4, hm, strOf, take_map]
end
end Go.Proofs.YtjbcjcibnjbpcaaDoor.Idl
namespace Go.Proofs.YtjbcjcibnjbpcaaDoor.Idl
open Go Go.RowKit

section
variable (J : Env) (T : Regs) (H : IH) (dst : Option Tmp) (type : TypeId) (pos : String) (after : Array Edge) (guard : Option (Nat × Bool))
def orI (k : IntKind) (a b : Int) : Int := k.wrap ((BitVec.ofInt k.bits a ||| BitVec.ofInt k.bits b).toNat : Int)
def andI (k : IntKind) (a b : Int) : Int := k.wrap ((BitVec.ofInt k.bits a &&& BitVec.ofInt k.bits b).toNat : Int)
def xorI (k : IntKind) (a b : Int) : Int := k.wrap ((BitVec.ofInt k.bits a ^^^ BitVec.ofInt k.bits b).toNat : Int)
section
variable (t : TypeId) (x y : Operand) (k : IntKind) (a b : Int)
@[simp] theorem bin_or : binR J .or t x y (.int k a) (.int k b) H = some (.val (.int k (orI k a b)) H) := binR_pure J H rfl rfl rfl (by simp [binOp, Op.intBits, pure, pureRun]; rfl) rfl
@[simp] theorem bin_and : binR J .and t x y (.int k a) (.int k b) H = some (.val (.int k (andI k a b)) H) := binR_pure J H rfl rfl rfl (by simp [binOp, Op.intBits, pure, pureRun]; rfl) rfl
@[simp] theorem bin_xor : binR J .xor t x y (.int k a) (.int k b) H = some (.val (.int k (xorI k a b)) H) := binR_pure J H rfl rfl rfl (by simp [binOp, Op.intBits, pure, pureRun]; rfl) rfl
end
def notI (k : IntKind) (n : Int) : Int := xorI k (if k.signed then -1 else k.max) n
def isI (v : Value) : Option Value :=
  match v with
  | .int k n => some (.int k (notI k n))
  | _ => none
@[simp] theorem isI_int (k : IntKind) (n : Int) : isI (.int k n) = some (.int k (notI k n)) := rfl
theorem iop_xor (t : TypeId) (x : Operand) (k : IntKind) (n : Int) (h : iev T x = .int k n) : iop J ⟨dst, .unOp .xor t x, type, pos, after, guard⟩ T H = some (.val (.int k (notI k n)) H) := by
  show ipure J _ T H = _
  refine ipure_of J T H (by simp [Op.operands, h, flat, flatN]) ?_ rfl
  simp only [execOp, h]
  rfl
@[simp] theorem iop_xor_q (t : TypeId) (x : Operand) : iop J ⟨dst, .unOp .xor t x, type, pos, after, guard⟩ T H = lenQ (isI (iev T x)) H (iopP J ⟨dst, .unOp .xor t x, type, pos, after, guard⟩ T H) := by
  cases h : iev T x with
  | int k n => exact iop_xor J T H dst type pos after guard t x k n h
  | _ => rfl
end
end Go.Proofs.YtjbcjcibnjbpcaaDoor.Idl
namespace Go.Proofs.YtjbcjcibnjbpcaaDoor.Idl
open Go Go.RowKit

/-- What a row of cells of a type reads as, in the ideal memory. -/
inductive Dat (J : Env) {K : Type} (H : IH) : TypeId → List Value → DataW K → Prop
  | bool {t : TypeId} (b : Bool) : J.und t = some .bool → Dat J H t [.bool b] (.lit (.bool b))
  | int {t : TypeId} {k : IntKind} {n : Int} : J.und t = some (.int k) → (Lit.int k n).wf = true → Dat J H t [.int k n] (.lit (.int k n))
  | string {t : TypeId} {s : ByteArray} : J.und t = some .string → s.size ≤ maxLen → Dat J H t [.string s] (.lit (.string s.data.toList))
  | nil {t e : TypeId} : J.und t = some (.slice e) → Dat J H t [.slice none 0 0] .nil
  | slice {t e : TypeId} {n b len : Nat} {cs : List Value} {ds rest : List (DataW K)} : J.und t = some (.slice e) → J.size e = some n → 0 < n → b < H.next → (0 < len → H.get b = some (.cells cs e true)) → cs.length = len * n → ds.length = len → len ≤ maxLen →
      (∀ i d, ds[i]? = some d → Dat J H e ((cs.drop (i * n)).take n) d) → Dat J H t [.slice (some ⟨b, 0, none⟩) len capU] (.slice ds rest)
  | struct {t : TypeId} {fs : Array Field} {cs : List Value} {ds : List (DataW K)} : J.und t = some (.struct fs) → J.size t = some cs.length → ds.length = fs.size →
      (∀ (i : Nat) (f : Field), fs[i]? = some f → ∃ n, J.size f.type = some n ∧ f.offset + n ≤ cs.length) →
      (∀ (i : Nat) (f : Field) (d : DataW K) (n : Nat), fs[i]? = some f → ds[i]? = some d → J.size f.type = some n → Dat J H f.type ((cs.drop f.offset).take n) d) → Dat J H t cs (.agg ds)
  | array {t e : TypeId} {m n : Nat} {cs : List Value} {ds : List (DataW K)} : J.und t = some (.array m e) → J.size e = some n → cs.length = m * n → ds.length = m →
      (∀ i d, ds[i]? = some d → Dat J H e ((cs.drop (i * n)).take n) d) → Dat J H t cs (.agg ds)
def Keeps (H H' : IH) : Prop := H.next ≤ H'.next ∧ ∀ b x, H.get b = some x → H'.get b = some x
theorem Keeps.refl (H : IH) : Keeps H H := ⟨Nat.le_refl _, fun _ _ h => h⟩
theorem Keeps.trans {H H' H'' : IH} (h : Keeps H H') (h' : Keeps H' H'') : Keeps H H'' := ⟨Nat.le_trans h.1 h'.1, fun b x hx => h'.2 b x (h.2 b x hx)⟩
theorem Dat.keeps {J : Env} {K : Type} {H H' : IH} (hk : Keeps H H') {t : TypeId} {cs : List Value} {d : DataW K} (h : Dat J H t cs d) : Dat J H' t cs d := by
  induction h with
  | bool b h => exact .bool b h
  | int h1 h2 => exact .int h1 h2
  | string h1 h2 => exact .string h1 h2
  | nil h => exact .nil h
  | slice h1 h2 h3 h8 h4 h5 h6 h7 _ ih => exact .slice h1 h2 h3 (Nat.lt_of_lt_of_le h8 hk.1) (fun h => hk.2 _ _ (h4 h)) h5 h6 h7 ih
  | struct h1 h2 h3 h4 _ ih => exact .struct h1 h2 h3 h4 ih
  | array h1 h2 h3 h4 _ ih => exact .array h1 h2 h3 h4 ih

def plainFs (J : Env) (p : TypeId → Bool) : List Field → Nat → Nat → Bool
  | [], o, n => o == n
  | f :: r, o, n => f.offset == o && p f.type && (match J.size f.type with | some s => plainFs J p r (o + s) n | none => false)
/-- Types of plain data: no pointers, no maps. -/
def plainT (J : Env) : Nat → TypeId → Bool
  | 0, _ => false
  | k + 1, t => match J.und t, J.size t with
    | some .bool, some n => n == 1
    | some (.int _), some n => n == 1
    | some .string, some n => n == 1
    | some (.slice e), some n => n == 1 && (match J.size e with | some s => s != 0 && plainT J k e | none => false)
    | some (.struct fs), some n => plainFs J (plainT J k) fs.toList 0 n
    | some (.array m e), some n => (match J.size e with | some s => n == m * s && plainT J k e | none => false)
    | _, _ => false

section
variable {J : Env} {B : Nat} {w : World} {K : Type} {enc : TypeId × Value → K} {held : Bool}
theorem cellsOf_eq {t : TypeId} {n : Nat} (h : J.size t = some n) : J.P.cellsOf t = n := by
  obtain ⟨i, h1, h2⟩ := J.size_ok h
  unfold Program.cellsOf
  rw [h1]; exact h2
theorem cells_heap {a : Addr} {n : Nat} {cs : List Value} (h : w.cells? 0 a n = some cs) (hn : 0 < n) : ∃ rc re fr, w.heap[a.block]? = some (.cells rc re fr) ∧ a.spot = none ∧ a.off + n ≤ rc.size ∧ cs.length = n ∧ ∀ i, i < n → rc[a.off + i]? = cs[i]? := by
  obtain ⟨_, hl, hc⟩ := World.cells?_some h
  have h0 := hc 0 hn
  rw [List.getElem?_eq_getElem (by omega)] at h0
  unfold World.cell? at h0
  have hsp : a.spot = none := by
    cases hs : a.spot with
    | none => rfl
    | some s =>
      have : (a.add 0).spot.isSome = true := by unfold Addr.add; simp [hs]
      rw [this] at h0
      split at h0 <;> simp at h0
  have hadd : ∀ i, a.add i = ⟨a.block, a.off + i, none⟩ := fun i => by obtain ⟨ab, ao, asp⟩ := a; simp only at hsp; subst hsp; unfold Addr.add; split <;> simp_all
  rw [hadd] at h0
  simp only at h0
  cases hh : w.heap[a.block]? with
  | none => rw [hh] at h0; cases h0
  | some o =>
    cases o with
    | cells rc re fr =>
      have key : ∀ i, i < n → rc[a.off + i]? = cs[i]? := fun i hi => by
        have := hc i hi
        rw [hadd] at this
        unfold World.cell? at this
        simp only [hh] at this
        simpa using this
      refine ⟨rc, re, fr, rfl, hsp, ?_, hl, key⟩
      have := key (n - 1) (by omega)
      rw [List.getElem?_eq_getElem (by omega)] at this
      have := (Array.getElem?_eq_some_iff.1 this).1
      omega
    | _ => rw [hh] at h0; cases h0
/-- A block more that is never written. -/
theorem Sim.pushRO {ι : Emb} {H : IH} (hS : Sim J B ι H w) {rb ro esz : Nat} {rc : Array Value} {re e : TypeId} {fr : Nat × Nat} (hb : w.heap[rb]? = some (.cells rc re fr)) (hB : rb < B) {cs : List Value}
    (hc : ∀ (i : Nat) (v : Value), cs[i]? = some v → ∃ v', rc[ro + i]? = some v' ∧ VRel ι H.next v v') (he : J.size e = some esz) :
    ∃ ι', Sim J B ι' (H.push (.cells cs e true)) w ∧ Ext ι H.next ι' (H.next + 1) ∧ ι' H.next = ⟨rb, ro, esz, rc.size⟩ := by
  refine ⟨fun b => if b = H.next then ⟨rb, ro, esz, rc.size⟩ else ι b, ?_, ⟨by omega, fun b hb => if_neg (by omega)⟩, if_pos rfl⟩
  have hext : Ext ι H.next (fun b => if b = H.next then ⟨rb, ro, esz, rc.size⟩ else ι b) (H.next + 1) := ⟨by omega, fun b hb => if_neg (by omega)⟩
  have hold : ∀ b x, (H.push (.cells cs e true)).get b = some x → b ≠ H.next → H.get b = some x := fun b x hx hne => by rw [IH.get_push, if_neg hne] at hx; exact hx
  have hnew : ∀ x, (H.push (.cells cs e true)).get H.next = some x → x = .cells cs e true := fun x hx => by rw [IH.get_push, if_pos rfl] at hx; exact (Option.some.inj hx).symm
  constructor
  · exact hS.base
  · intro g hg
    obtain ⟨h1, h2, h3⟩ := hS.glob g hg
    refine ⟨by simp; omega, ?_, ?_⟩ <;> rw [if_neg (by omega)] <;> assumption
  · intro b x hx
    by_cases hne : b = H.next
    · simp [hne]
    · have := hS.lt b x (hold b x hx hne); simp; omega
  · intro b cs' e' pr hx
    by_cases hne : b = H.next
    · subst hne
      cases hnew _ hx
      refine ⟨rc, re, fr, by rw [if_pos rfl]; exact hb, fun i v hv => ?_, by rw [if_pos rfl], by rw [if_pos rfl]; exact he, fun h => by cases h⟩
      rw [if_pos rfl]
      obtain ⟨v', q1, q2⟩ := hc i v hv
      exact ⟨v', q1, q2.ext hext⟩
    · obtain ⟨rc', re', fr', q1, q2, q3⟩ := hS.cells b cs' e' pr (hold b _ hx hne)
      refine ⟨rc', re', fr', by rw [if_neg hne]; exact q1, fun i v hv => ?_, by rw [if_neg hne]; exact q3⟩
      rw [if_neg hne]
      obtain ⟨v', r1, r2⟩ := q2 i v hv
      exact ⟨v', r1, r2.ext hext⟩
  · intro b cs' e' hx
    by_cases hne : b = H.next
    · subst hne; cases hnew _ hx
    · rw [if_neg hne]; exact hS.rows b cs' e' (hold b _ hx hne)
  · intro b es pr hx
    by_cases hne : b = H.next
    · subst hne; cases hnew _ hx
    · rw [if_neg hne]
      obtain ⟨res, clk, q1, q2, q3, q4⟩ := hS.maps b es pr (hold b _ hx hne)
      exact ⟨res, clk, q1, q2, fun i en hen => by obtain ⟨r, r1, r2, r3⟩ := q3 i en hen; exact ⟨r, r1, r2.ext hext, r3.ext hext⟩, q4⟩
  · intro b s p hx
    by_cases hne : b = H.next
    · subst hne; cases hnew _ hx
    · rw [if_neg hne]; exact hS.iters b s p (hold b _ hx hne)
  · exact hS.keep
  · have wr : ∀ b x, H.get b = some x → writable x = true → B ≤ (ι b).rb := fun b x hx hw => by
      cases x with
      | cells cs' e' pr =>
        obtain ⟨_, _, _, _, _, _, _, q⟩ := hS.cells b cs' e' pr hx
        exact (q (by simpa [writable] using hw)).1
      | map es pr =>
        obtain ⟨_, _, _, _, _, q⟩ := hS.maps b es pr hx
        exact q (by simpa [writable] using hw)
      | iter s p => exact (hS.iters b s p hx).2
      | dead => simp [writable] at hw
    intro b b' x x' hx hx' ha ha' hne hw
    by_cases h1 : b = H.next
    · subst h1
      cases hnew _ hx
      have h2 : b' ≠ H.next := fun h => hne h.symm
      have hw' : writable x' = true := by simpa [writable] using hw
      have := wr b' x' (hold b' x' hx' h2) hw'
      rw [if_pos rfl, if_neg h2]
      show rb ≠ _
      omega
    · by_cases h2 : b' = H.next
      · subst h2
        cases hnew _ hx'
        have hw' : writable x = true := by simpa [writable] using hw
        have := wr b x (hold b x hx h1) hw'
        rw [if_neg h1, if_pos rfl]
        show _ ≠ rb
        omega
      · rw [if_neg h1, if_neg h2]
        exact hS.apart b b' x x' (hold b x hx h1) (hold b' x' hx' h2) ha ha' hne hw
theorem keeps_push {ι : Emb} {H : IH} (hS : Sim J B ι H w) (x : Blk) : Keeps H (H.push x) :=
  ⟨by simp, fun b y hy => by rw [IH.get_push, if_neg (by have := hS.lt b y hy; omega)]; exact hy⟩

theorem Sim.pushDead {ι : Emb} {H : IH} (hS : Sim J B ι H w) : Sim J B ι (H.push .dead) w := by
  have hext : Ext ι H.next ι (H.push .dead).next := ⟨by simp, fun _ _ => rfl⟩
  have hold : ∀ b x, (H.push .dead).get b = some x → x ≠ .dead → H.get b = some x := fun b x hx hne => by
    rw [IH.get_push] at hx
    split at hx
    · exact absurd (Option.some.inj hx).symm hne
    · exact hx
  constructor
  · exact hS.base
  · intro g hg
    obtain ⟨h1, h2, h3⟩ := hS.glob g hg
    exact ⟨by simp; omega, h2, h3⟩
  · intro b x hx
    rw [IH.get_push] at hx
    split at hx
    · simp; omega
    · have := hS.lt b x hx; simp; omega
  · intro b cs e pr hx
    obtain ⟨rc, re, fr, q1, q2, q3⟩ := hS.cells b cs e pr (hold b _ hx (by simp))
    exact ⟨rc, re, fr, q1, fun i v hv => let ⟨v', r1, r2⟩ := q2 i v hv; ⟨v', r1, r2.ext hext⟩, q3⟩
  · intro b cs e hx; exact hS.rows b cs e (hold b _ hx (by simp))
  · intro b es pr hx
    obtain ⟨res, clk, q1, q2, q3, q4⟩ := hS.maps b es pr (hold b _ hx (by simp))
    exact ⟨res, clk, q1, q2, fun i en hen => by obtain ⟨r, r1, r2, r3⟩ := q3 i en hen; exact ⟨r, r1, r2.ext hext, r3.ext hext⟩, q4⟩
  · intro b s p hx; exact hS.iters b s p (hold b _ hx (by simp))
  · exact hS.keep
  · intro b b' x x' hx hx' ha ha' hne hw
    exact hS.apart b b' x x' (hold b x hx (by rintro rfl; cases ha)) (hold b' x' hx' (by rintro rfl; cases ha')) ha ha' hne hw

/-- A row of cells that reads as data, laid. -/
def Lays (J : Env) (B : Nat) (w : World) (enc : TypeId × Value → K) (held : Bool) (t : TypeId) : Prop :=
  ∀ (m : Nat) (cs : List Value) (x : DataW K × List MemPlace) (ι : Emb) (H : IH), DataW.trod enc J.P w 0 (fun _ => true) held m t cs = some x → Sim J B ι H w →
    ∃ (ι' : Emb) (H' : IH) (cs' : List Value), Sim J B ι' H' w ∧ Ext ι H.next ι' H'.next ∧ Keeps H H' ∧ LRel ι' H'.next cs' cs ∧ Dat J H' t cs' x.1 ∧ J.size t = some cs'.length
/-- Rows of the same length, one behind the other. -/
theorem lays_many {e : TypeId} {n : Nat} (hsz : J.size e = some n) (he : Lays J B w enc held e) (m : Nat) (row : Nat → List Value) (y : Nat → DataW K × List MemPlace) : ∀ (len : Nat) (ι : Emb) (H : IH), (∀ i, i < len → DataW.trod enc J.P w 0 (fun _ => true) held m e (row i) = some (y i)) →
    Sim J B ι H w → ∃ (ι' : Emb) (H' : IH) (cs' : List Value), Sim J B ι' H' w ∧ Ext ι H.next ι' H'.next ∧ Keeps H H' ∧ cs'.length = len * n ∧ (∀ i, i < len → LRel ι' H'.next ((cs'.drop (i * n)).take n) (row i)) ∧ ∀ i, i < len → Dat J H' e ((cs'.drop (i * n)).take n) (y i).1 := by
  intro len
  induction len with
  | zero => intro ι H _ hS; exact ⟨ι, H, [], hS, Ext.refl _ _, Keeps.refl _, by simp, fun i hi => by omega, fun i hi => by omega⟩
  | succ len ih =>
    intro ι H hy hS
    obtain ⟨ι1, H1, cs1, q1, q2, q3, q4, q5, q6⟩ := ih ι H (fun i hi => hy i (by omega)) hS
    obtain ⟨ι2, H2, cs2, r1, r2, r3, r4, r5, r6⟩ := he m _ _ ι1 H1 (hy len (by omega)) q1
    have h2 : cs2.length = n := by rw [hsz] at r6; exact (Option.some.inj r6).symm
    have cut : ∀ i, i < len → ((cs1 ++ cs2).drop (i * n)).take n = (cs1.drop (i * n)).take n := fun i hi => by
      have h3 : (i + 1) * n ≤ len * n := Nat.mul_le_mul_right n (by omega)
      rw [Nat.add_mul] at h3
      rw [List.drop_append_of_le_length (by omega), List.take_append_of_le_length (by rw [List.length_drop]; omega)]
    have cut2 : ((cs1 ++ cs2).drop (len * n)).take n = cs2 := by
      rw [List.drop_append, List.drop_of_length_le (by omega), List.nil_append, q4, Nat.sub_self, List.drop_zero, List.take_of_length_le (by omega)]
    refine ⟨ι2, H2, cs1 ++ cs2, r1, q2.trans r2, q3.trans r3, by rw [List.length_append, q4, h2, Nat.add_mul]; omega, fun i hi => ?_, fun i hi => ?_⟩
    · by_cases h : i < len
      · rw [cut i h]; exact (q5 i h).ext r2
      · obtain rfl : i = len := by omega
        rw [cut2]; exact r4
    · by_cases h : i < len
      · rw [cut i h]; exact (q6 i h).keeps r3
      · obtain rfl : i = len := by omega
        rw [cut2]; exact r5
theorem lays_fields {p : TypeId → Bool} (hp : ∀ t, p t = true → Lays J B w enc held t) (m : Nat) (cs : List Value) : ∀ (fs : List Field) (o n : Nat) (xs : List (DataW K × List MemPlace)) (ι : Emb) (H : IH), plainFs J p fs o n = true → n ≤ cs.length → xs.length = fs.length →
    (∀ (i : Nat) (f : Field), fs[i]? = some f → DataW.trod enc J.P w 0 (fun _ => true) held m f.type ((cs.drop f.offset).take (J.P.cellsOf f.type)) = xs[i]?) →
    Sim J B ι H w → ∃ (ι' : Emb) (H' : IH) (cs' : List Value), Sim J B ι' H' w ∧ Ext ι H.next ι' H'.next ∧ Keeps H H' ∧ o + cs'.length = n ∧ LRel ι' H'.next cs' ((cs.drop o).take (n - o)) ∧
      ∀ (i : Nat) (f : Field) (x : DataW K × List MemPlace), fs[i]? = some f → xs[i]? = some x → ∃ s, J.size f.type = some s ∧ o ≤ f.offset ∧ f.offset + s ≤ n ∧ Dat J H' f.type ((cs'.drop (f.offset - o)).take s) x.1 := by
  intro fs
  induction fs with
  | nil =>
    intro o n xs ι H h hn hl _ hS
    simp only [plainFs, beq_iff_eq] at h
    subst h
    exact ⟨ι, H, [], hS, Ext.refl _ _, Keeps.refl _, by simp, by rw [Nat.sub_self, List.take_zero]; exact LRel.nil, fun i f x hf => by simp at hf⟩
  | cons f fs ih =>
    intro o n xs ι H h hn hl hx hS
    simp only [plainFs, Bool.and_eq_true, beq_iff_eq] at h
    obtain ⟨⟨h1, h2⟩, h3⟩ := h
    split at h3
    case h_2 => cases h3
    rename_i s hs
    cases xs with
    | nil => simp at hl
    | cons x xs =>
      have hx0 := hx 0 f rfl
      rw [cellsOf_eq hs] at hx0
      obtain ⟨ι1, H1, cs1, q1, q2, q3, q4, q5, q6⟩ := hp _ h2 m _ x ι H hx0 hS
      obtain ⟨ι2, H2, cs2, r1, r2, r3, r4, r5, r6⟩ := ih (o + s) n xs ι1 H1 h3 hn (by simpa using hl) (fun i g hg => hx (i + 1) g (by simpa using hg)) q1
      have hl1 : cs1.length = s := by rw [hs] at q6; exact (Option.some.inj q6).symm
      refine ⟨ι2, H2, cs1 ++ cs2, r1, q2.trans r2, q3.trans r3, by rw [List.length_append]; omega, ?_, fun i g y hg hy => ?_⟩
      · have e : (cs.drop o).take (n - o) = (cs.drop f.offset).take s ++ (cs.drop (o + s)).take (n - (o + s)) := by
          rw [h1, show n - o = s + (n - (o + s)) by omega, List.take_add, List.drop_drop]
        rw [e]
        exact (q4.ext r2).append r5
      · cases i with
        | zero =>
          obtain rfl : f = g := by simpa using hg
          obtain rfl : x = y := by simpa using hy
          refine ⟨s, hs, by omega, by omega, ?_⟩
          rw [h1, Nat.sub_self, List.drop_zero, List.take_append_of_le_length (by omega), List.take_of_length_le (by omega)]
          exact q5.keeps r3
        | succ i =>
          obtain ⟨s', k1, k2, k3, k4⟩ := r6 i g y (by simpa using hg) (by simpa using hy)
          refine ⟨s', k1, by omega, k3, ?_⟩
          rw [List.drop_append, List.drop_of_length_le (by omega), List.nil_append, hl1, show g.offset - o - s = g.offset - (o + s) by omega]
          exact k4
theorem lays (hB : B = w.heap.size) : ∀ (k : Nat) (t : TypeId), plainT J k t = true → Lays J B w enc held t := by
  intro k
  induction k with
  | zero => intro t h; simp [plainT] at h
  | succ k ih =>
    intro t h m cs x ι H htr hS
    simp only [plainT] at h
    split at h
    · -- bool
      rename_i n hu hn
      obtain ⟨b, rfl, rfl⟩ := DataW.trod_bool (J.und_ok hu) htr
      obtain rfl : n = 1 := by simpa using h
      exact ⟨ι, H, _, hS, Ext.refl _ _, Keeps.refl _, .cons (.bool b) .nil, .bool b hu, hn⟩
    · rename_i kk n hu hn
      obtain ⟨i, rfl, rfl, hw⟩ := DataW.trod_int (J.und_ok hu) htr
      obtain rfl : n = 1 := by simpa using h
      exact ⟨ι, H, _, hS, Ext.refl _ _, Keeps.refl _, .cons (.int _ _) .nil, .int hu hw, hn⟩
    · rename_i n hu hn
      obtain ⟨s, rfl, rfl, hw⟩ := DataW.trod_string (J.und_ok hu) htr
      obtain rfl : n = 1 := by simpa using h
      exact ⟨ι, H, _, hS, Ext.refl _ _, Keeps.refl _, .cons (.string _) .nil, .string hu hw, hn⟩
    · -- slices
      rename_i e n hu hn
      simp only [Bool.and_eq_true, beq_iff_eq] at h
      obtain ⟨rfl, h⟩ := h
      split at h
      case h_2 => cases h
      rename_i s hs
      simp only [Bool.and_eq_true, bne_iff_ne, ne_eq] at h
      obtain ⟨hs0, hpl⟩ := h
      have hcell := cellsOf_eq hs
      rcases DataW.trod_slice (J.und_ok hu) htr with ⟨rfl, rfl⟩ | ⟨a, len, cap, elems, rest, m', _, rfl, rfl, _, hlc, hcm, hlen, hel, hsp, _⟩
      · exact ⟨ι, H, _, hS, Ext.refl _ _, Keeps.refl _, .cons .sliceN .nil, .nil hu, hn⟩
      · have hsp := hsp rfl
        rw [hcell] at hel hsp
        by_cases hc0 : cap = 0
        · subst hc0
          obtain rfl : len = 0 := by omega
          refine ⟨ι, H.push .dead, [.slice (some ⟨H.next, 0, none⟩) 0 capU], hS.pushDead, ⟨by simp, fun _ _ => rfl⟩, keeps_push hS _, .cons (.slice0 (.inr rfl)) .nil, ?_, hn⟩
          exact .slice (cs := []) hu hs (by omega) (by simp) (fun h => by omega) (by simp) (by simpa using hlen) (by unfold maxLen; omega) fun i d hd => by
            have : (elems.map (·.1)).length = 0 := by simpa using hlen
            rw [List.length_eq_zero_iff.1 this] at hd
            simp at hd
        · -- the row that each element reads
          have hrow : ∀ i, i < cap → ∃ r, w.cells? 0 (a.add (i * s)) s = some r := fun i hi => by
            by_cases h1 : i < len
            · have := hel i h1
              rw [List.getElem?_eq_getElem (by omega)] at this
              obtain ⟨r, hr, _⟩ := Option.bind_eq_some_iff.1 this
              exact ⟨r, hr⟩
            · have := hsp.2 (i - len) (by omega)
              rw [List.getElem?_eq_getElem (by omega), show len + (i - len) = i by omega] at this
              obtain ⟨r, hr, _⟩ := Option.bind_eq_some_iff.1 this
              exact ⟨r, hr⟩
          obtain ⟨r0, hr0⟩ := hrow 0 (by omega)
          obtain ⟨rc, re, fr, hh, hspot0, hb0, _, _⟩ := cells_heap hr0 (by omega)
          have hspot : a.spot = none := by
            unfold Addr.add at hspot0
            cases ha : a.spot with
            | none => rfl
            | some q => simp [ha] at hspot0
          have hadd : ∀ i, a.add i = ⟨a.block, a.off + i, none⟩ := fun i => by obtain ⟨ab, ao, asp⟩ := a; simp only at hspot; subst hspot; unfold Addr.add; split <;> simp_all
          have hat : ∀ i, i < cap → ∃ r, w.cells? 0 (a.add (i * s)) s = some r ∧ a.off + i * s + s ≤ rc.size ∧ r.length = s ∧ ∀ j, j < s → rc[a.off + i * s + j]? = r[j]? := fun i hi => by
            obtain ⟨r, hr⟩ := hrow i hi
            obtain ⟨rc', re', fr', q1, _, q3, q4, q5⟩ := cells_heap hr (by omega)
            rw [hadd] at q1 q3 q5 hh
            simp only at q1 q3 q5 hh
            rw [hh] at q1
            cases q1
            exact ⟨r, hr, q3, q4, q5⟩
          rw [hadd] at hh
          simp only at hh
          have hblk : a.block < B := by rw [hB]; exact (Array.getElem?_eq_some_iff.1 hh).1
          have hend : a.off + cap * s ≤ rc.size := by
            obtain ⟨r, _, q, _⟩ := hat (cap - 1) (by omega)
            have e1 : (cap - 1) * s + s = cap * s := by
              rw [← Nat.succ_mul]
              congr 1
              omega
            omega
          -- the elements
          obtain ⟨row, hrw⟩ : ∃ row : Nat → List Value, ∀ i, i < cap → w.cells? 0 (a.add (i * s)) s = some (row i) := ⟨fun i => (w.cells? 0 (a.add (i * s)) s).getD [], fun i hi => by obtain ⟨r, hr⟩ := hrow i hi; simp [hr]⟩
          obtain ⟨y, hy⟩ : ∃ y : Nat → DataW K × List MemPlace, ∀ i, i < len → elems[i]? = some (y i) := ⟨fun i => elems.getD i (.nil, []), fun i hi => by (have : i < elems.length := by omega); simp [this]⟩
          obtain ⟨ι1, H1, cs1, q1, q2, q3, q4, q5, q6⟩ := lays_many hs (ih e hpl) m' row y len ι H (fun i hi => by
            have := hel i hi
            rw [hrw i (by omega), hy i hi] at this
            simpa using this) hS
          obtain ⟨ι2, r1, r2, r3⟩ := q1.pushRO (ro := a.off) (e := e) (esz := s) (cs := cs1) hh hblk (fun j v hv => by
            have hj : j < len * s := by rw [← q4]; exact (List.getElem?_eq_some_iff.1 hv).1
            have hs1 : 0 < s := by omega
            have hi : j / s < len := Nat.div_lt_of_lt_mul (by rw [Nat.mul_comm]; exact hj)
            have hm := Nat.mod_lt j hs1
            have hjd : j / s * s + j % s = j := by rw [Nat.mul_comm]; exact Nat.div_add_mod j s
            obtain ⟨r, hr, _, hrl, hrc⟩ := hat (j / s) (by omega)
            have h1 : ((cs1.drop (j / s * s)).take s)[j % s]? = some v := by
              rw [List.getElem?_take, if_pos hm, List.getElem?_drop, hjd]; exact hv
            obtain ⟨v', h2, h3⟩ := (q5 (j / s) hi).get h1
            rw [hrw _ (by omega)] at hr
            cases hr
            refine ⟨v', ?_, h3⟩
            rw [← h2, ← hrc _ hm]
            congr 1
            omega) hs
          refine ⟨ι2, H1.push (.cells cs1 e true), [.slice (some ⟨H1.next, 0, none⟩) len capU], r1, q2.trans r2, q3.trans (keeps_push q1 _), .cons ?_ .nil, ?_, hn⟩
          · exact .slice (a := ⟨H1.next, 0, none⟩) (a' := a) ⟨rfl, by simp, by rw [r3]; obtain ⟨ab, ao, asp⟩ := a; simp only at hspot; subst hspot; simp⟩ (.inr rfl) hlc (by rw [r3]; exact hend)
          · refine .slice hu hs (by omega) (by simp) (fun _ => by rw [IH.get_push, if_pos rfl]) q4 (by simpa using hlen) (Nat.le_trans hlc hcm) fun i d hd => ?_
            have hi : i < len := by
              have := (List.getElem?_eq_some_iff.1 hd).1
              simpa [hlen] using this
            rw [List.getElem?_map, hy i hi] at hd
            cases hd
            exact (q6 i hi).keeps (keeps_push q1 _)
    · -- structs
      rename_i fs n hu hn
      obtain ⟨xs, m', _, rfl, hl, hxl, hxf⟩ := DataW.trod_struct (J.und_ok hu) htr
      rw [cellsOf_eq hn] at hl
      obtain ⟨ι1, H1, cs1, q1, q2, q3, q4, q5, q6⟩ := lays_fields ih m' cs fs.toList 0 n xs ι H h (by omega) (by simpa using hxl) (fun i f hf => hxf i f (by simpa using hf)) hS
      refine ⟨ι1, H1, cs1, q1, q2, q3, ?_, ?_, by rw [hn]; congr 1; omega⟩
      · have : (cs.drop 0).take (n - 0) = cs := by rw [List.drop_zero]; exact List.take_of_length_le (by omega)
        rw [← this]; exact q5
      · have one : ∀ (i : Nat) (f : Field), fs[i]? = some f → ∃ x, xs[i]? = some x := fun i f hf => by
          have := (Array.getElem?_eq_some_iff.1 hf).1
          exact ⟨_, List.getElem?_eq_getElem (by omega)⟩
        refine .struct hu (by rw [hn]; congr 1; omega) (by simpa using hxl) (fun i f hf => ?_) fun i f d s' hf hd hs' => ?_
        · obtain ⟨x, hx⟩ := one i f hf
          obtain ⟨s, k1, k2, k3, k4⟩ := q6 i f x (by simpa using hf) hx
          exact ⟨s, k1, by omega⟩
        · obtain ⟨x, hx⟩ := one i f hf
          rw [List.getElem?_map, hx] at hd
          cases hd
          obtain ⟨s, k1, k2, k3, k4⟩ := q6 i f x (by simpa using hf) hx
          rw [hs'] at k1
          cases k1
          exact k4
    · -- arrays
      rename_i mm e n hu hn
      split at h
      case h_2 => cases h
      rename_i s hs
      simp only [Bool.and_eq_true, beq_iff_eq] at h
      obtain ⟨rfl, hpl⟩ := h
      obtain ⟨xs, m', _, rfl, hl, hxl, hxf⟩ := DataW.trod_array (J.und_ok hu) htr
      rw [cellsOf_eq hn] at hl
      rw [cellsOf_eq hs] at hxf
      obtain ⟨y, hy⟩ : ∃ y : Nat → DataW K × List MemPlace, ∀ i, i < mm → xs[i]? = some (y i) := ⟨fun i => xs.getD i (.nil, []), fun i hi => by (have : i < xs.length := by omega); simp [this]⟩
      obtain ⟨ι1, H1, cs1, q1, q2, q3, q4, q5, q6⟩ := lays_many hs (ih e hpl) m' (fun i => (cs.drop (i * s)).take s) y mm ι H (fun i hi => by rw [hxf i hi, hy i hi]) hS
      refine ⟨ι1, H1, cs1, q1, q2, q3, ⟨by omega, fun j v v' hv hv' => ?_⟩, .array hu hs q4 (by simpa using hxl) fun i d hd => ?_, by rw [hn, q4]⟩
      · have hj : j < mm * s := by rw [← q4]; exact (List.getElem?_eq_some_iff.1 hv).1
        have hs1 : 0 < s := by
          rcases Nat.eq_zero_or_pos s with h0 | h0
          · subst h0; simp at hj
          · exact h0
        have hi : j / s < mm := Nat.div_lt_of_lt_mul (by rw [Nat.mul_comm]; exact hj)
        have hm := Nat.mod_lt j hs1
        have hjd : j / s * s + j % s = j := by rw [Nat.mul_comm]; exact Nat.div_add_mod j s
        refine (q5 (j / s) hi).2 (j % s) v v' ?_ ?_
        · rw [List.getElem?_take, if_pos hm, List.getElem?_drop, hjd]; exact hv
        · rw [List.getElem?_take, if_pos hm, List.getElem?_drop, hjd]; exact hv'
      · have hi : i < mm := by
          have := (List.getElem?_eq_some_iff.1 hd).1
          simpa [hxl] using this
        rw [List.getElem?_map, hy i hi] at hd
        cases hd
        exact q6 i hi
    · cases h
/-- A value's own cells, given back. -/
def ofCells (J : Env) (t : TypeId) (cs : List Value) : Value :=
  match J.und t with
  | some (.struct _) | some (.array _ _) => .agg cs.toArray
  | _ => match cs with | [v] => v | _ => undef
end
end Go.Proofs.YtjbcjcibnjbpcaaDoor.Idl
namespace Go.Proofs.YtjbcjcibnjbpcaaDoor.Idl
open Go Go.RowKit Go.WideShapes Go.ChangeShapes

def isAggD (J : Env) (t : TypeId) : Bool :=
  match J.und t with
  | some (.struct _) | some (.array _ _) => true
  | _ => false
theorem ofCells_agg {J : Env} {t : TypeId} {cs : List Value} (h : isAggD J t = true) : ofCells J t cs = .agg cs.toArray := by
  unfold isAggD at h
  unfold ofCells
  cases hu : J.und t with
  | none => rw [hu] at h; cases h
  | some d => rw [hu] at h; cases d <;> first | rfl | cases h
theorem ofCells_one {J : Env} {t : TypeId} {v : Value} (h : isAggD J t = false) : ofCells J t [v] = v := by
  unfold isAggD at h
  unfold ofCells
  cases hu : J.und t with
  | none => rfl
  | some d => rw [hu] at h; cases d <;> first | rfl | cases h
/-- A value that reads as data. -/
def DatV (J : Env) {K : Type} (H : IH) (t : TypeId) (v : Value) (d : DataW K) : Prop := ∃ cs, Dat J H t cs d ∧ v = ofCells J t cs
theorem DatV.keeps {J : Env} {K : Type} {H H' : IH} (hk : Keeps H H') {t : TypeId} {v : Value} {d : DataW K} (h : DatV J H t v d) : DatV J H' t v d := let ⟨cs, h1, h2⟩ := h; ⟨cs, h1.keeps hk, h2⟩
inductive DatAll (J : Env) {K : Type} (H : IH) : List TypeId → List Value → List (DataW K) → Prop
  | nil : DatAll J H [] [] []
  | cons {t : TypeId} {v : Value} {d : DataW K} {ts : List TypeId} {vs : List Value} {ds : List (DataW K)} : DatV J H t v d → DatAll J H ts vs ds → DatAll J H (t :: ts) (v :: vs) (d :: ds)
section
variable {J : Env} {B : Nat} {w : World} {K : Type} {enc : TypeId × Value → K} {held : Bool}
theorem lay_arg (hB : B = w.heap.size) {k : Nat} {t : TypeId} (hp : plainT J k t = true) {r : Reach} {base : Nat} {v : Value} (hv : Value.okWide J.P w r base t v) {d : DataW K} {p : List MemPlace} (ht : DataW.Trod enc J.P w 0 (fun _ => true) held t v d p)
    {ι : Emb} {H : IH} (hS : Sim J B ι H w) : ∃ (ι' : Emb) (H' : IH) (v' : Value), Sim J B ι' H' w ∧ Ext ι H.next ι' H'.next ∧ Keeps H H' ∧ VRel ι' H'.next v' v ∧ DatV J H' t v' d := by
  obtain ⟨m, htr⟩ := ht
  obtain ⟨ι', H', cs', h1, h2, h3, h4, h5, h6⟩ := lays hB k t hp m _ _ ι H htr hS
  have one : ∀ x, v = x → x.cells = #[x] → isAggD J t = false → ∃ (ι' : Emb) (H' : IH) (v' : Value), Sim J B ι' H' w ∧ Ext ι H.next ι' H'.next ∧ Keeps H H' ∧ VRel ι' H'.next v' v ∧ DatV J H' t v' d := fun x hx hc ha => by
    subst hx
    rw [hc] at h4
    have hl : cs'.length = 1 := by simpa using h4.1
    match cs', hl with
    | [y], _ =>
      refine ⟨ι', H', y, h1, h2, h3, h4.2 0 y v rfl rfl, [y], h5, ?_⟩
      rw [ofCells_one ha]
  have agg : ∀ cs, v = .agg cs → isAggD J t = true → ∃ (ι' : Emb) (H' : IH) (v' : Value), Sim J B ι' H' w ∧ Ext ι H.next ι' H'.next ∧ Keeps H H' ∧ VRel ι' H'.next v' v ∧ DatV J H' t v' d := fun cs hx ha => by
    subst hx
    refine ⟨ι', H', .agg cs'.toArray, h1, h2, h3, .agg (by simpa [Value.cells] using h4.1) (fun i x y hx hy => h4.2 i x y (by simpa using hx) (by simpa [Value.cells] using hy)), cs', h5, ?_⟩
    rw [ofCells_agg ha]
  cases k with
  | zero => simp [plainT] at hp
  | succ k =>
    simp only [plainT] at hp
    unfold Value.okWide at hv
    cases hu : J.und t with
    | none => simp [hu] at hp
    | some u =>
      rw [J.und_ok hu] at hv
      have hv' : Value.okWide J.P w r base t v := by unfold Value.okWide; rw [J.und_ok hu]; exact hv
      cases u <;> try (simp [hu] at hp; done)
      case bool =>
        obtain ⟨b, e⟩ := okWide_bool (J.und_ok hu) hv'
        exact one _ e rfl (by unfold isAggD; rw [hu])
      case int q =>
        obtain ⟨b, e⟩ := okWide_int (J.und_ok hu) hv'
        exact one _ e rfl (by unfold isAggD; rw [hu])
      case string =>
        obtain ⟨b, e⟩ := okWide_string (J.und_ok hu) hv'
        exact one _ e rfl (by unfold isAggD; rw [hu])
      case slice q =>
        obtain ⟨a, l, c, e⟩ := okWide_slice (J.und_ok hu) hv'
        exact one _ e rfl (by unfold isAggD; rw [hu])
      case struct fs =>
        obtain ⟨cs, e, _⟩ := hv
        exact agg _ e (by unfold isAggD; rw [hu])
      case array n e =>
        obtain ⟨cs, e, _⟩ := hv
        exact agg _ e (by unfold isAggD; rw [hu])
theorem lay_args (hB : B = w.heap.size) {k : Nat} {r : Reach} {base : Nat} : ∀ (ts : List TypeId) (vs : List Value) (ds : List (DataW K)) (p : List MemPlace), ts.all (plainT J k) = true →
    (∀ (j : Nat) (t : TypeId) (v : Value), ts[j]? = some t → vs[j]? = some v → Value.okWide J.P w r base t v) → DataW.TrodAll enc J.P w 0 (fun _ => true) held ts vs ds p → ∀ (ι : Emb) (H : IH), Sim J B ι H w →
    ∃ (ι' : Emb) (H' : IH) (vs' : List Value), Sim J B ι' H' w ∧ Ext ι H.next ι' H'.next ∧ Keeps H H' ∧ LRel ι' H'.next vs' vs ∧ DatAll J H' ts vs' ds
  | [], [], [], _, _, _, _, ι, H, hS => ⟨ι, H, [], hS, Ext.refl _ _, Keeps.refl _, .nil, .nil⟩
  | t :: ts, v :: vs, d :: ds, _, hp, hv, ⟨p, q, h1, h2, _⟩, ι, H, hS => by
    rw [List.all_cons, Bool.and_eq_true] at hp
    obtain ⟨ι1, H1, v', a1, a2, a3, a4, a5⟩ := lay_arg hB hp.1 (hv 0 t v rfl rfl) h1 hS
    obtain ⟨ι2, H2, vs', b1, b2, b3, b4, b5⟩ := lay_args hB ts vs ds q hp.2 (fun j t v h h' => hv (j + 1) t v (by simpa using h) (by simpa using h')) h2 ι1 H1 a1
    exact ⟨ι2, H2, v' :: vs', b1, a2.trans b2, a3.trans b3, .cons (a4.ext b2) b4, .cons (a5.keeps b3) b5⟩
  | [], _ :: _, _, _, _, _, h, _, _, _ => h.elim
  | [], [], _ :: _, _, _, _, h, _, _, _ => h.elim
  | _ :: _, [], _, _, _, _, h, _, _, _ => h.elim
  | _ :: _, _ :: _, [], _, _, _, h, _, _, _ => h.elim
/-- All arguments read behind a call as they did. -/
theorem stay_args {P : Program} (hl : laidOutB P = true) {W W' : World} (hb : Below W.heap.size W W') : ∀ {ts : List TypeId} {vs : List Value} {ds : List (DataW K)} {p : List MemPlace}, (∀ t ∈ ts, P.readableRec t = true ∧ t < P.types.size) →
    DataW.TrodAll enc P W 0 (fun _ => true) true ts vs ds p → (∀ x ∈ p, x.block < W.heap.size) → DataW.TrodAll enc P W' 0 (fun b => decide (b < W.heap.size)) true ts vs ds p
  | [], [], [], _, _, h, _ => h
  | t :: ts, v :: vs, d :: ds, _, ht, ⟨p, q, h1, h2, e⟩, hlt =>
    ⟨p, q, Below.trod hl (ht t (by simp)).1 (ht t (by simp)).2 h1 hb (fun x hx => hlt x (by rw [e]; simp [hx])),
      stay_args hl hb (fun t' h' => ht t' (by simp [h'])) h2 (fun x hx => hlt x (by rw [e]; simp [hx])), e⟩
  | [], _ :: _, _, _, _, h, _ => h.elim
  | [], [], _ :: _, _, _, h, _ => h.elim
  | _ :: _, [], _, _, _, h, _ => h.elim
  | _ :: _, _ :: _, [], _, _, h, _ => h.elim
/-- A law that the ideal machine shows to answer true, from wherever its arguments lie. -/
theorem law_gen {okf : FuncId → Bool} (hsound : ∀ B k, CallSound J B (icall J okf k)) {W : World} {ι : Emb} {H0 : IH} (hS : Sim J W.heap.size ι H0 W) {f : FuncId} {ts : List TypeId} {k : Nat} (hp : ts.all (plainT J k) = true) {r : Reach} {base : Nat} {args : Array Value} {ds : List (DataW K)} {p : List MemPlace}
    (hv : ∀ (j : Nat) (t : TypeId) (v : Value), ts[j]? = some t → args.toList[j]? = some v → Value.okWide J.P W r base t v) (hT : DataW.TrodAll enc J.P W 0 (fun _ => true) held ts args.toList ds p)
    (hid : ∀ (H : IH) (vs : List Value), Keeps H0 H → DatAll J H ts vs ds → ∃ H', cal J okf f vs.toArray H = some (.ret (.bool true), H')) :
    Calls J.P f args W fun e W' => e = .returned (.bool true) ∧ Below W.heap.size W W' := by
  obtain ⟨ι1, H1, vs, a1, a2, a3, a4, a5⟩ := lay_args rfl ts args.toList ds p hp hv hT ι H0 hS
  obtain ⟨H', hc⟩ := hid H1 vs a3 a5
  obtain ⟨n, hn⟩ := of_cal hc
  refine (hsound W.heap.size n f vs.toArray args H1 ι1 W _ _ a1 (by simpa using a4) (hn n (Nat.le_refl _))).mono fun e W' hp => ?_
  obtain ⟨ι', _, _, hB, v', rfl, hv⟩ := hp
  cases hv
  exact ⟨rfl, hB⟩
end

/-! ### Data of plain shapes -/
section
variable {J : Env} {K : Type} {H : IH} {t : TypeId}
theorem Dat.intI {k : IntKind} (ht : J.und t = some (.int k)) {cs : List Value} {d : DataW K} (h : Dat J H t cs d) : ∃ n, cs = [.int k n] ∧ d = .lit (.int k n) ∧ (Lit.int k n).wf = true := by
  cases h with
  | int h1 h2 => rw [ht] at h1; cases h1; exact ⟨_, rfl, rfl, h2⟩
  | bool b h1 => rw [ht] at h1; cases h1
  | string h1 _ => rw [ht] at h1; cases h1
  | nil h1 => rw [ht] at h1; cases h1
  | slice h1 => rw [ht] at h1; cases h1
  | struct h1 => rw [ht] at h1; cases h1
  | array h1 => rw [ht] at h1; cases h1
theorem Dat.boolI (ht : J.und t = some .bool) {cs : List Value} {d : DataW K} (h : Dat J H t cs d) : ∃ b, cs = [.bool b] ∧ d = .lit (.bool b) := by
  cases h with
  | bool b h1 => exact ⟨_, rfl, rfl⟩
  | int h1 h2 => rw [ht] at h1; cases h1
  | string h1 _ => rw [ht] at h1; cases h1
  | nil h1 => rw [ht] at h1; cases h1
  | slice h1 => rw [ht] at h1; cases h1
  | struct h1 => rw [ht] at h1; cases h1
  | array h1 => rw [ht] at h1; cases h1
theorem Dat.stringI (ht : J.und t = some .string) {cs : List Value} {d : DataW K} (h : Dat J H t cs d) : ∃ s, cs = [.string s] ∧ d = .lit (.string s.data.toList) ∧ s.size ≤ maxLen := by
  cases h with
  | string h1 h2 => exact ⟨_, rfl, rfl, h2⟩
  | int h1 h2 => rw [ht] at h1; cases h1
  | bool b h1 => rw [ht] at h1; cases h1
  | nil h1 => rw [ht] at h1; cases h1
  | slice h1 => rw [ht] at h1; cases h1
  | struct h1 => rw [ht] at h1; cases h1
  | array h1 => rw [ht] at h1; cases h1
theorem Dat.sliceI {e : TypeId} {n : Nat} (ht : J.und t = some (.slice e)) (hn : J.size e = some n) {cs : List Value} {d : DataW K} (h : Dat J H t cs d) : (cs = [.slice none 0 0] ∧ d = .nil) ∨
    ∃ (b len : Nat) (ws : List Value) (ds rest : List (DataW K)), cs = [.slice (some ⟨b, 0, none⟩) len capU] ∧ d = .slice ds rest ∧ b < H.next ∧ (0 < len → H.get b = some (.cells ws e true)) ∧ ws.length = len * n ∧ ds.length = len ∧ len ≤ maxLen ∧
      ∀ (i : Nat) (d : DataW K), ds[i]? = some d → Dat J H e ((ws.drop (i * n)).take n) d := by
  cases h with
  | nil h1 => exact .inl ⟨rfl, rfl⟩
  | slice h1 h2 h3 h8 h4 h5 h6 h7 h9 => rw [ht] at h1; cases h1; rw [hn] at h2; cases h2; exact .inr ⟨_, _, _, _, _, rfl, rfl, h8, h4, h5, h6, h7, h9⟩
  | bool b h1 => rw [ht] at h1; cases h1
  | int h1 h2 => rw [ht] at h1; cases h1
  | string h1 _ => rw [ht] at h1; cases h1
  | struct h1 => rw [ht] at h1; cases h1
  | array h1 => rw [ht] at h1; cases h1
theorem Dat.structI {fs : Array Field} (ht : J.und t = some (.struct fs)) {cs : List Value} {d : DataW K} (h : Dat J H t cs d) : ∃ ds, d = .agg ds ∧ J.size t = some cs.length ∧ ds.length = fs.size ∧
    ∀ (i : Nat) (f : Field) (d : DataW K) (n : Nat), fs[i]? = some f → ds[i]? = some d → J.size f.type = some n → Dat J H f.type ((cs.drop f.offset).take n) d := by
  cases h with
  | struct h1 h2 h3 h4 h5 => rw [ht] at h1; cases h1; exact ⟨_, rfl, h2, h3, h5⟩
  | bool b h1 => rw [ht] at h1; cases h1
  | int h1 h2 => rw [ht] at h1; cases h1
  | string h1 _ => rw [ht] at h1; cases h1
  | nil h1 => rw [ht] at h1; cases h1
  | slice h1 => rw [ht] at h1; cases h1
  | array h1 => rw [ht] at h1; cases h1
theorem Dat.arrayI {e : TypeId} {m n : Nat} (ht : J.und t = some (.array m e)) (hn : J.size e = some n) {cs : List Value} {d : DataW K} (h : Dat J H t cs d) : ∃ ds, d = .agg ds ∧ cs.length = m * n ∧ ds.length = m ∧
    ∀ (i : Nat) (d : DataW K), ds[i]? = some d → Dat J H e ((cs.drop (i * n)).take n) d := by
  cases h with
  | array h1 h2 h3 h4 h5 => rw [ht] at h1; cases h1; rw [hn] at h2; cases h2; exact ⟨_, rfl, h3, h4, h5⟩
  | bool b h1 => rw [ht] at h1; cases h1
  | int h1 h2 => rw [ht] at h1; cases h1
  | string h1 _ => rw [ht] at h1; cases h1
  | nil h1 => rw [ht] at h1; cases h1
  | slice h1 => rw [ht] at h1; cases h1
  | struct h1 => rw [ht] at h1; cases h1
theorem DatV.int {k : IntKind} (ht : J.und t = some (.int k)) {v : Value} {d : DataW K} (h : DatV J H t v d) : ∃ n, v = .int k n ∧ d = .lit (.int k n) ∧ (Lit.int k n).wf = true := by
  obtain ⟨cs, h, rfl⟩ := h
  obtain ⟨n, rfl, rfl, h2⟩ := h.intI ht
  exact ⟨_, by simp [ofCells, ht], rfl, h2⟩
theorem DatV.bool (ht : J.und t = some .bool) {v : Value} {d : DataW K} (h : DatV J H t v d) : ∃ b, v = .bool b ∧ d = .lit (.bool b) := by
  obtain ⟨cs, h, rfl⟩ := h
  obtain ⟨b, rfl, rfl⟩ := h.boolI ht
  exact ⟨_, by simp [ofCells, ht], rfl⟩
theorem DatV.string (ht : J.und t = some .string) {v : Value} {d : DataW K} (h : DatV J H t v d) : ∃ s, v = .string s ∧ d = .lit (.string s.data.toList) ∧ s.size ≤ maxLen := by
  obtain ⟨cs, h, rfl⟩ := h
  obtain ⟨s, rfl, rfl, h2⟩ := h.stringI ht
  exact ⟨_, by simp [ofCells, ht], rfl, h2⟩
theorem DatV.slice {e : TypeId} {n : Nat} (ht : J.und t = some (.slice e)) (hn : J.size e = some n) {v : Value} {d : DataW K} (h : DatV J H t v d) : (v = .slice none 0 0 ∧ d = .nil) ∨
    ∃ (b len : Nat) (ws : List Value) (ds rest : List (DataW K)), v = .slice (some ⟨b, 0, none⟩) len capU ∧ d = .slice ds rest ∧ b < H.next ∧ (0 < len → H.get b = some (.cells ws e true)) ∧ ws.length = len * n ∧ ds.length = len ∧ len ≤ maxLen ∧
      ∀ (i : Nat) (d : DataW K), ds[i]? = some d → Dat J H e ((ws.drop (i * n)).take n) d := by
  obtain ⟨cs, h, rfl⟩ := h
  rcases h.sliceI ht hn with ⟨rfl, rfl⟩ | ⟨b, len, ws, ds, rest, rfl, h2⟩
  · exact .inl ⟨by simp [ofCells, ht], rfl⟩
  · exact .inr ⟨b, len, ws, ds, rest, by simp [ofCells, ht], h2⟩
theorem DatV.struct {fs : Array Field} (ht : J.und t = some (.struct fs)) {v : Value} {d : DataW K} (h : DatV J H t v d) : ∃ cs, v = .agg cs.toArray ∧ Dat J H t cs d := by
  obtain ⟨cs, h, rfl⟩ := h
  exact ⟨cs, by simp [ofCells, ht], h⟩
theorem DatV.array {e : TypeId} {m : Nat} (ht : J.und t = some (.array m e)) {v : Value} {d : DataW K} (h : DatV J H t v d) : ∃ cs, v = .agg cs.toArray ∧ Dat J H t cs d := by
  obtain ⟨cs, h, rfl⟩ := h
  exact ⟨cs, by simp [ofCells, ht], h⟩
theorem wf_i64 {n : Int} (h : (Lit.int .i64 n).wf = true) : -9223372036854775808 ≤ n ∧ n ≤ 9223372036854775807 := by
  simp only [Lit.wf, Bool.and_eq_true, decide_eq_true_eq] at h
  rw [show IntKind.i64.min = -9223372036854775808 by decide, show IntKind.i64.max = 9223372036854775807 by decide] at h
  exact h
end
section
variable {w : World} {K : Type} {enc : TypeId × Value → K} {held : Bool} {P : Program} {sp : Nat → Bool} {base : Nat}
theorem trod_ds1 {t : TypeId} {vs : List Value} {ds : List (DataW K)} {p : List MemPlace} (h : DataW.TrodAll enc P w base sp held [t] vs ds p) : ∃ d, ds = [d] := by
  match vs, ds, h with
  | [_], [d], _ => exact ⟨d, rfl⟩
  | [_], _ :: _ :: _, ⟨_, _, _, h, _⟩ => exact h.elim
  | _ :: _ :: _, [_], ⟨_, _, _, h, _⟩ => exact h.elim
  | _ :: _ :: _, _ :: _ :: _, ⟨_, _, _, h, _⟩ => exact h.elim
theorem trod_ds2 {t u : TypeId} {vs : List Value} {ds : List (DataW K)} {p : List MemPlace} (h : DataW.TrodAll enc P w base sp held [t, u] vs ds p) : ∃ d d', ds = [d, d'] := by
  match vs, ds, h with
  | _ :: _, d :: _, ⟨_, _, _, h, _⟩ => obtain ⟨d', rfl⟩ := trod_ds1 h; exact ⟨d, d', rfl⟩
theorem trod_ds3 {t u x : TypeId} {vs : List Value} {ds : List (DataW K)} {p : List MemPlace} (h : DataW.TrodAll enc P w base sp held [t, u, x] vs ds p) : ∃ d d' d'', ds = [d, d', d''] := by
  match vs, ds, h with
  | _ :: _, d :: _, ⟨_, _, _, h, _⟩ => obtain ⟨d', d'', rfl⟩ := trod_ds2 h; exact ⟨d, d', d'', rfl⟩
end
theorem DatAll.one {J : Env} {K : Type} {H : IH} {t : TypeId} {vs : List Value} {ds : List (DataW K)} (h : DatAll J H [t] vs ds) : ∃ v d, vs = [v] ∧ ds = [d] ∧ DatV J H t v d := by
  cases h with
  | cons h1 h2 => cases h2; exact ⟨_, _, rfl, rfl, h1⟩
theorem DatAll.two {J : Env} {K : Type} {H : IH} {t u : TypeId} {vs : List Value} {ds : List (DataW K)} (h : DatAll J H [t, u] vs ds) : ∃ v d v' d', vs = [v, v'] ∧ ds = [d, d'] ∧ DatV J H t v d ∧ DatV J H u v' d' := by
  cases h with
  | cons h1 h2 => obtain ⟨v', d', rfl, rfl, h3⟩ := h2.one; exact ⟨_, _, _, _, rfl, rfl, h1, h3⟩
theorem DatAll.three {J : Env} {K : Type} {H : IH} {t u x : TypeId} {vs : List Value} {ds : List (DataW K)} (h : DatAll J H [t, u, x] vs ds) : ∃ v d v' d' v'' d'', vs = [v, v', v''] ∧ ds = [d, d', d''] ∧ DatV J H t v d ∧ DatV J H u v' d' ∧ DatV J H x v'' d'' := by
  cases h with
  | cons h1 h2 => obtain ⟨v', d', v'', d'', rfl, rfl, h3, h4⟩ := h2.two; exact ⟨_, _, _, _, _, _, rfl, rfl, h1, h3, h4⟩
end Go.Proofs.YtjbcjcibnjbpcaaDoor.Idl
namespace Go.Proofs.YtjbcjcibnjbpcaaDoor
open Go Go.Shelf Go.RowKit
set_option maxRecDepth 100000
def lays173_ren : Shelf.Ren := { f := fun x => match x with | 173 => 27 | 246 => 54 | 283 => 63 | 284 => 64 | 285 => 65 | 286 => 66 | 129 => 76 | 317 => 75 | 318 => 77 | 319 => 78 | 320 => 79 | 337 => 87 | 338 => 88 | n => n, t := fun x => match x with | 2 => 2 | 3 => 3 | 9 => 9 | 4 => 4 | 171 => 86 | 0 => 0 | 53 => 87 | 37 => 40 | 5 => 5 | 173 => 90 | 212 => 107 | 51 => 95 | 20 => 20 | 213 => 108 | 46 => 101 | 232 => 132 | 233 => 133 | n => n, g := fun x => match x with | 17 => 2 | 18 => 6 | 19 => 7 | n => n }
theorem lays173 : LaysM.n173 Tryd.prog lays173_ren where
  mixed := by kernel_rfl
  f129 := Tryd.func76.trans (congrArg some (by kernel_rfl))
  f173 := Tryd.func27.trans (congrArg some (by kernel_rfl))
  f246 := Tryd.func54.trans (congrArg some (by kernel_rfl))
  f283 := Tryd.func63.trans (congrArg some (by kernel_rfl))
  f284 := Tryd.func64.trans (congrArg some (by kernel_rfl))
  f285 := Tryd.func65.trans (congrArg some (by kernel_rfl))
  f286 := Tryd.func66.trans (congrArg some (by kernel_rfl))
  f317 := Tryd.func75.trans (congrArg some (by kernel_rfl))
  f318 := Tryd.func77.trans (congrArg some (by kernel_rfl))
  f319 := Tryd.func78.trans (congrArg some (by kernel_rfl))
  f320 := Tryd.func79.trans (congrArg some (by kernel_rfl))
  f337 := Tryd.func87.trans (congrArg some (by kernel_rfl))
  f338 := Tryd.func88.trans (congrArg some (by kernel_rfl))
  t0 := Tryd.underlying0
  a0 := Tryd.isAgg0
  z0 := Tryd.sizeOf0
  v0 := Tryd.zeroValue0
  t2 := Tryd.underlying2
  a2 := Tryd.isAgg2
  z2 := Tryd.sizeOf2
  v2 := Tryd.zeroValue2
  t3 := Tryd.underlying3
  a3 := Tryd.isAgg3
  z3 := Tryd.sizeOf3
  v3 := Tryd.zeroValue3
  t4 := Tryd.underlying4
  a4 := Tryd.isAgg4
  z4 := Tryd.sizeOf4
  v4 := Tryd.zeroValue4
  t5 := Tryd.underlying5
  a5 := Tryd.isAgg5
  z5 := Tryd.sizeOf5
  v5 := Tryd.zeroValue5
  t9 := Tryd.underlying9
  a9 := Tryd.isAgg9
  z9 := Tryd.sizeOf9
  v9 := Tryd.zeroValue9
  t20 := Tryd.underlying20
  a20 := Tryd.isAgg20
  z20 := Tryd.sizeOf20
  v20 := Tryd.zeroValue20
  t37 := Tryd.underlying40
  a37 := Tryd.isAgg40
  z37 := Tryd.sizeOf40
  v37 := Tryd.zeroValue40
  t46 := Tryd.underlying101
  a46 := Tryd.isAgg101
  z46 := Tryd.sizeOf101
  v46 := Tryd.zeroValue101
  t51 := Tryd.underlying95
  a51 := Tryd.isAgg95
  z51 := Tryd.sizeOf95
  v51 := Tryd.zeroValue95
  t53 := Tryd.underlying87
  a53 := Tryd.isAgg87
  z53 := Tryd.sizeOf87
  v53 := Tryd.zeroValue87
  t171 := Tryd.underlying86
  a171 := Tryd.isAgg86
  z171 := Tryd.sizeOf86
  v171 := Tryd.zeroValue86
  t173 := Tryd.underlying90
  a173 := Tryd.isAgg90
  z173 := Tryd.sizeOf90
  v173 := Tryd.zeroValue90
  t212 := Tryd.underlying107
  a212 := Tryd.isAgg107
  z212 := Tryd.sizeOf107
  v212 := Tryd.zeroValue107
  t213 := Tryd.underlying108
  a213 := Tryd.isAgg108
  z213 := Tryd.sizeOf108
  t232 := Tryd.underlying132
  a232 := Tryd.isAgg132
  z232 := Tryd.sizeOf132
  v232 := Tryd.zeroValue132
  t233 := Tryd.underlying133
  a233 := Tryd.isAgg133
  z233 := Tryd.sizeOf133
  v233 := Tryd.zeroValue133
  g17 := by kernel_rfl
  g18 := by kernel_rfl
  g19 := by kernel_rfl
  i0 := by kernel_rfl
  i2 := by kernel_rfl
  i3 := by kernel_rfl
  i4 := by kernel_rfl
  i5 := by kernel_rfl
  i9 := by kernel_rfl
  i20 := by kernel_rfl
  i37 := by kernel_rfl
  i46 := by kernel_rfl
  i51 := by kernel_rfl
  i53 := by kernel_rfl
  i171 := by kernel_rfl
  i173 := by kernel_rfl
  i212 := by kernel_rfl
  i232 := by kernel_rfl
  i233 := by kernel_rfl
  m17 := by kernel_rfl
  m18 := by kernel_rfl
  m19 := by kernel_rfl
theorem below_grow (w : World) (os : Array Obj) : Below w.heap.size w (Sort.grow w os) := ⟨rfl, rfl, rfl, by simp [Sort.grow], fun k hk => by simp only [Sort.grow]; rw [Array.getElem?_append_left hk]⟩
theorem fmt27 (n : Int) (h0 : -9223372036854775808 ≤ n) (h1 : n ≤ 9223372036854775807) (w : World) (htab : Lib.TabIs Tryd.prog w "internal/strconv.uint64pow10" .u64 Lib.pow10Tab) :
    Calls Tryd.prog 27 #[.int .i64 n, .int .i64 10] w fun e w' => e = .returned (.string ⟨(Lib.itoa n).toArray⟩) ∧ Below w.heap.size w w' :=
  (Any.strconv_FormatInt_10 lays173 n h0 h1 w htab).mono fun e w' ⟨he, k, os, hw⟩ => ⟨he, by
    subst hw
    exact Below.trans (b := w.drewN k) ⟨rfl, rfl, rfl, Nat.le_refl _, fun _ _ => rfl⟩ (below_grow (w.drewN k) os)⟩
end Go.Proofs.YtjbcjcibnjbpcaaDoor
set_option linter.unusedVariables false
set_option linter.unusedSimpArgs false
namespace Go.Proofs.YtjbcjcibnjbpcaaDoorW.PrintWords
open Go.RowKit
structure Aside0 (p : Prop) : Prop where mk :: (out : p)
structure Drawn0 (w w' : World) : Prop where mk :: (out : ∃ n, w' = w.drewN n)
theorem Drawn0.refl (w : World) : Drawn0 w w := ⟨⟨0, rfl⟩⟩
def nums (k : IntKind) (xs : List Int) : List Value := xs.map fun x => .int k x
theorem below_alloc {w W : World} (h : Below w.heap.size w W) (o : Obj) : Below w.heap.size w (W.alloc o) := h.alloc h.size o
theorem below_drew {B : Nat} {w W : World} (h : Below B w W) : Below B w W.drew := ⟨h.os, h.tape, h.output, h.size, h.block⟩
theorem pw_below_drewN {B : Nat} {w W : World} (h : Below B w W) (n : Nat) : Below B w (W.drewN n) := ⟨h.os, h.tape, h.output, h.size, h.block⟩
theorem below_then {B : Nat} {w w1 w2 : World} (h : Below B w w1) (hB : B ≤ w1.heap.size) (k : Below w1.heap.size w1 w2) : Below B w w2 :=
  h.trans ⟨k.os, k.tape, k.output, k.size, fun i hi => k.block i (Nat.lt_of_lt_of_le hi hB)⟩
theorem pw_cell_below {w w1 : World} (h : Below w.heap.size w w1) {a : Addr} {v : Value} (hc : w.cell? a = some v) : w1.cell? a = some v := (h.cell (World.block_lt_of_cell? w a hc)).trans hc
def ReadsInt (w : World) (k : IntKind) (A : Option Addr) (n : Nat) (xs : List Int) : Prop :=
  xs.length = n ∧ n ≤ 9223372036854775807 ∧ (0 < n → ∃ ad, A = some ad ∧ ∀ j, j < n → w.cell? (ad.add j) = some (.int k (xs.getD j 0)))
theorem own_base {w : World} {base : Nat} {e : TypeId} {size n : Nat} {v : Value} {xs : List Value} (h : w.ownsRow base e size v n xs) (k : Nat) (hk : v.ownBlock = some k) : base ≤ k := by
  rcases h.2 with ⟨rfl, _⟩ | ⟨g, cap, cur, rfl, hb, _⟩
  · simp [Value.ownBlock] at hk
  · have : g = k := by simpa [Value.ownBlock] using hk
    omega
theorem own_lt {w : World} {base : Nat} {e : TypeId} {size n : Nat} {v : Value} {xs : List Value} (h : w.ownsRow base e size v n xs) (k : Nat) (hk : v.ownBlock = some k) : k < w.heap.size := by
  rcases h.2 with ⟨rfl, _⟩ | ⟨g, cap, cur, rfl, hb, hh, _⟩
  · simp [Value.ownBlock] at hk
  · have : g = k := by simpa [Value.ownBlock] using hk
    subst this
    exact (Array.getElem?_eq_some_iff.1 hh).1
theorem own_string {P : Program} {w : World} {base n : Nat} {e' src dst e : TypeId} {v : Value} {xs : List Int} (hs : P.underlying src = some (.slice e)) (he : P.underlying e = some (.int .u8)) (hd : P.underlying dst = some .string)
    (h : w.ownsRow base e' 1 v n (nums .u8 xs)) : (convert src dst v).run P w = .ok (.string (strOfNums xs)) w := by
  have hl : xs.length = n := by have := h.1; simp [nums] at this; exact this
  rcases h.2 with ⟨rfl, rfl⟩ | ⟨g, cap, cur, rfl, _⟩
  · obtain rfl : xs = [] := List.eq_nil_of_length_eq_zero hl
    exact run_convert_bytes_nil w src e hs he 0 0 dst hd
  · refine run_convert_bytes_arg w src e hs he g 0 n cap xs hl (fun i hi => ?_) dst hd
    have hc := h.cells (g := g) rfl i (.int .u8 (xs.getD i 0)) (by simp [nums, List.getElem?_eq_getElem (show i < xs.length by omega), List.getD_eq_getElem?_getD])
    have ha : (⟨g, 0, none⟩ : Addr).add i = ⟨g, 0 + i, none⟩ := by unfold Addr.add; split <;> simp_all
    rwa [ha] at hc
def LeO {α : Type} (a b : Option α) : Prop := ∀ r, a = some r → b = some r
theorem LeO.refl {α : Type} (a : Option α) : LeO a a := fun _ h => h
theorem LeO.none {α : Type} (b : Option α) : LeO Option.none b := fun _ h => by cases h
theorem LeO.trans {α : Type} {a b c : Option α} (h : LeO a b) (k : LeO b c) : LeO a c := fun r hr => k r (h r hr)
theorem LeO.bind {α β : Type} {a a' : Option α} {f f' : α → Option β} (h : LeO a a') (k : ∀ x, LeO (f x) (f' x)) : LeO (a.bind f) (a'.bind f') := by
  intro r hr
  obtain ⟨x, hx, hf⟩ := Option.bind_eq_some_iff.1 hr
  exact Option.bind_eq_some_iff.2 ⟨x, h x hx, k x r hf⟩
theorem LeO.map {α β : Type} {a a' : Option α} (f : α → β) (h : LeO a a') : LeO (a.map f) (a'.map f) := by
  intro r hr
  obtain ⟨x, hx, hf⟩ := Option.map_eq_some_iff.1 hr
  exact Option.map_eq_some_iff.2 ⟨x, h x hx, hf⟩
def Reps {α : Type} (R : α → List Value → Prop) (size : Nat) (ps : List α) (cs : List Value) : Prop :=
  cs.length = ps.length * size ∧ ∀ j p, ps[j]? = some p → R p ((cs.drop (j * size)).take size)
theorem Reps.none {α : Type} (R : α → List Value → Prop) (size : Nat) : Reps R size [] [] := ⟨by simp, fun j p h => by simp at h⟩
theorem Reps.imp_ {α : Type} {R R' : α → List Value → Prop} {size : Nat} {ps : List α} {cs : List Value} (h : Reps R size ps cs) (hR : ∀ p c, R p c → R' p c) : Reps R' size ps cs := ⟨h.1, fun j p hj => hR _ _ (h.2 j p hj)⟩
def ReadsRow {α : Type} (R : α → List Value → Prop) (size : Nat) (w : World) (A : Option Addr) (n : Nat) (ps : List α) : Prop :=
  ps.length = n ∧ n ≤ 9223372036854775807 ∧ (0 < n → ∃ ad, A = some ad ∧ ∀ j p, ps[j]? = some p → ∃ c, c.length = size ∧ R p c ∧ ∀ i u, c[i]? = some u → w.cell? (ad.add (j * size + i)) = some u)
theorem ReadsRow.imp_ {α : Type} {R R' : α → List Value → Prop} {size : Nat} {w w1 : World} {A : Option Addr} {n : Nat} {ps : List α} (h : ReadsRow R size w A n ps) (hb : Below w.heap.size w w1) (hR : ∀ p c, R p c → R' p c) : ReadsRow R' size w1 A n ps :=
  ⟨h.1, h.2.1, fun hn => by
    obtain ⟨ad, e, hc⟩ := h.2.2 hn
    refine ⟨ad, e, fun j p hj => ?_⟩
    obtain ⟨c, hs, hr, hcell⟩ := hc j p hj
    exact ⟨c, hs, hR _ _ hr, fun i u hu => pw_cell_below hb (hcell i u hu)⟩⟩
theorem own_reads_row {α : Type} {R : α → List Value → Prop} {w : World} {base n size : Nat} {e : TypeId} {v : Value} {ps : List α} {cs : List Value} (h : w.ownsRow base e size v n cs) (hR : Reps R size ps cs) (hn : ps.length = n) :
    ∃ A c, v = .slice A n c ∧ ReadsRow R size w A n ps := by
  rcases Nat.eq_zero_or_pos n with h0 | h0
  · rcases h.2 with ⟨rfl, rfl⟩ | ⟨g, cap, cur, rfl, _⟩
    · exact ⟨none, 0, rfl, hn, by omega, fun hp => absurd hp (by omega)⟩
    · exact ⟨_, cap, rfl, hn, by omega, fun hp => absurd hp (by omega)⟩
  · obtain ⟨g, cap, rfl, _, _⟩ := h.form h0
    have hm : n ≤ 9223372036854775807 := by
      rcases h.2 with ⟨_, h1⟩ | ⟨g', cap', cur, he, _, _, h1, h2, _⟩
      · omega
      · simp only [maxLen] at h2
        omega
    refine ⟨_, cap, rfl, hn, hm, fun _ => ⟨_, rfl, fun j p hj => ⟨(cs.drop (j * size)).take size, ?_, hR.2 j p hj, fun i u hu => ?_⟩⟩⟩
    · have hjl := (List.getElem?_eq_some_iff.1 hj).1
      have h1 : j * size + size ≤ cs.length := by rw [hR.1, ← Nat.succ_mul]; exact Nat.mul_le_mul_right _ hjl
      rw [List.length_take, List.length_drop]
      omega
    · refine h.cells (g := g) rfl _ u ?_
      rw [List.getElem?_take] at hu
      split at hu
      · rw [List.getElem?_drop] at hu
        exact hu
      · cases hu
def KeepBut (w w' : World) (g : Nat) (row : Option Nat) : Prop := w.heap.size ≤ w'.heap.size ∧ ∀ i, i < w.heap.size → i ≠ g → some i ≠ row → w'.heap[i]? = w.heap[i]?
theorem KeepBut.refl (w : World) (g : Nat) (row : Option Nat) : KeepBut w w g row := ⟨Nat.le_refl _, fun _ _ _ _ => rfl⟩
theorem KeepBut.trans {w w1 w2 : World} {g : Nat} {row row1 : Option Nat} (h : KeepBut w w1 g row) (k : KeepBut w1 w2 g row1) (hr : row1 = row ∨ ∃ b, row1 = some b ∧ w.heap.size ≤ b) : KeepBut w w2 g row :=
  ⟨Nat.le_trans h.1 k.1, fun i hi hg hn => by
    refine (k.2 i (Nat.lt_of_lt_of_le hi h.1) hg ?_).trans (h.2 i hi hg hn)
    rcases hr with rfl | ⟨b, rfl, hb⟩
    · exact hn
    · intro e
      injection e with e
      omega⟩
def Ev {α : Type} (g : Nat → Option α) (r : α) : Prop := ∃ K, ∀ k, K ≤ k → g k = some r
theorem Ev.bind {α β : Type} {g : Nat → Option α} {f : Nat → α → Option β} {a : α} {r : β} (h : Ev g a) (k : Ev (fun n => f n a) r) : Ev (fun n => (g n).bind (f n)) r := by
  obtain ⟨K, h⟩ := h
  obtain ⟨K', k⟩ := k
  refine ⟨max K K', fun n hn => ?_⟩
  have h1 := h n (by omega)
  have h2 := k n (by omega)
  simp only [h1, Option.bind_some]
  exact h2
theorem Ev.congr {α : Type} {g f : Nat → Option α} {r : α} (h : ∀ k, g k = f k) (k : Ev f r) : Ev g r := by
  obtain ⟨K, k⟩ := k
  exact ⟨K, fun n hn => (h n).trans (k n hn)⟩
theorem own_weaken {w : World} {base base' : Nat} {e : TypeId} {size n : Nat} {v : Value} {xs : List Value} (h : w.ownsRow base e size v n xs) (hb : base' ≤ base) : w.ownsRow base' e size v n xs := by
  obtain ⟨h1, h2⟩ := h
  refine ⟨h1, ?_⟩
  rcases h2 with h2 | ⟨g, cap, cur, rfl, hg, r⟩
  · exact .inl h2
  · exact .inr ⟨g, cap, cur, rfl, Nat.le_trans hb hg, r⟩
section
variable {α : Type} {enc : α → Value} {d : α}
def encs (enc : α → Value) (xs : List α) : List Value := xs.map enc
theorem encs_length (xs : List α) : (encs enc xs).length = xs.length := by simp [encs]
def ReadsOf (enc : α → Value) (d : α) (w : World) (A : Option Addr) (n : Nat) (xs : List α) : Prop :=
  xs.length = n ∧ n ≤ 9223372036854775807 ∧ (0 < n → ∃ ad, A = some ad ∧ ∀ j, j < n → w.cell? (ad.add j) = some (enc (xs.getD j d)))
end
theorem own_le {w : World} {base n m c size : Nat} {e : TypeId} {A : Option Addr} {xs : List Value} (h : w.ownsRow base e size (.slice A m c) n xs) : m ≤ c := by
  rcases h.2 with ⟨he, _⟩ | ⟨g, cap, cur, he, _, _, hnc, _⟩
  · injection he with _ h2 h3
    omega
  · injection he with _ h2 h3
    omega
def OwnRow {α : Type} (R : α → List Value → Prop) (e : TypeId) (size : Nat) (w : World) (base : Nat) (v : Value) (ps : List α) : Prop :=
  ∃ inner, w.ownsRow base e size v ps.length inner ∧ Reps R size ps inner
section
variable {α : Type} {R R' : α → List Value → Prop} {e : TypeId} {size : Nat} {w w1 : World} {base : Nat} {v : Value} {ps : List α}
theorem OwnRow.imp_ (h : OwnRow R e size w base v ps) (hR : ∀ p c, R p c → R' p c) : OwnRow R' e size w base v ps := by
  obtain ⟨inner, ho, hr⟩ := h
  exact ⟨inner, ho, hr.imp_ hR⟩
theorem OwnRow.reads (h : OwnRow R e size w base v ps) : ∃ A c, v = .slice A ps.length c ∧ ps.length ≤ c ∧ ReadsRow R size w A ps.length ps := by
  obtain ⟨inner, ho, hr⟩ := h
  obtain ⟨A, c, rfl, hrow⟩ := own_reads_row ho hr rfl
  exact ⟨A, c, rfl, own_le ho, hrow⟩
end
structure Kd (α : Type) where
  sz : Nat
  E : List Nat
  K : World → α → List Value → Prop
  M : World → Nat → (Nat → Prop) → α → List Value → Prop
  K_len : ∀ {w x cs}, K w x cs → cs.length = sz
  K_one : ∀ {w x cs}, K w x cs → ∀ u ∈ cs, u.oneCell' = true
  K_below : ∀ {w w1 : World} {x cs}, Below w.heap.size w w1 → K w x cs → K w1 x cs
  K_of_M : ∀ {w base ok x cs}, M w base ok x cs → K w x cs
  M_mono : ∀ {w base ok ok' x cs}, (∀ k, ok k → ok' k) → M w base ok x cs → M w base ok' x cs
  M_bound : ∀ {w : World} {base ok x cs}, M w base ok x cs → M w base (fun k => ok k ∧ base ≤ k ∧ k < w.heap.size ∧ ∃ q, q ∈ E ∧ ∃ cells, w.heap[k]? = some (.cells cells q (0, 0))) x cs
  M_move : ∀ {w w1 : World} {base ok x cs}, (∀ k, ok k → w1.heap[k]? = w.heap[k]?) → M w base ok x cs → M w1 base ok x cs
  M_lower : ∀ {w base base' ok x cs}, base' ≤ base → M w base ok x cs → M w base' ok x cs
theorem own_move {w w1 : World} {base : Nat} {e : TypeId} {size n : Nat} {v : Value} {xs : List Value} (h : w.ownsRow base e size v n xs) (hm : ∀ k, v.ownBlock = some k → w1.heap[k]? = w.heap[k]?) : w1.ownsRow base e size v n xs := by
  obtain ⟨h1, h2⟩ := h
  refine ⟨h1, ?_⟩
  rcases h2 with h2 | ⟨g, cap, cur, rfl, hg, hh, r⟩
  · exact .inl h2
  · exact .inr ⟨g, cap, cur, rfl, hg, (hm g (by simp [Value.ownBlock])).trans hh, r⟩
theorem own_typed {w : World} {base : Nat} {e : TypeId} {size n : Nat} {v : Value} {xs : List Value} (h : w.ownsRow base e size v n xs) (k : Nat) (hk : v.ownBlock = some k) : ∃ cells, w.heap[k]? = some (.cells cells e (0, 0)) := by
  rcases h.2 with ⟨rfl, _⟩ | ⟨g, cap, cur, rfl, hg, hh, r⟩
  · simp [Value.ownBlock] at hk
  · have : g = k := by simpa [Value.ownBlock] using hk
    subst this
    exact ⟨cur, hh⟩
namespace Kd
def C {α : Type} (d : Kd α) (w : World) (A : Option Addr) (n : Nat) (xs : List α) : Prop := ReadsRow (d.K w) d.sz w A n xs
def R {α : Type} (d : Kd α) (e : Nat) (w : World) (base : Nat) (ok : Nat → Prop) (v : Value) (xs : List α) : Prop :=
  (∀ k, v.ownBlock = some k → ok k) ∧ OwnRow (d.M w base (fun k => ok k ∧ some k ≠ v.ownBlock)) e d.sz w base v xs
section
variable {α : Type} {d : Kd α} {e : Nat} {w w1 : World} {base : Nat} {ok ok' : Nat → Prop} {v : Value} {xs : List α}
theorem C_below {A : Option Addr} {n : Nat} (h : d.C w A n xs) (hb : Below w.heap.size w w1) : d.C w1 A n xs := ReadsRow.imp_ h hb (fun _ _ hp => d.K_below hb hp)
theorem R_mono (h : d.R e w base ok v xs) (hok : ∀ k, ok k → ok' k) : d.R e w base ok' v xs := ⟨fun k hk => hok k (h.1 k hk), h.2.imp_ (fun _ _ hp => d.M_mono (fun k hk => ⟨hok k hk.1, hk.2⟩) hp)⟩
theorem R_bound (h : d.R e w base ok v xs) : d.R e w base (fun k => ok k ∧ base ≤ k ∧ k < w.heap.size ∧ ∃ q, q ∈ e :: d.E ∧ ∃ cells, w.heap[k]? = some (.cells cells q (0, 0))) v xs := by
  obtain ⟨h0, inner, ho, hr⟩ := h
  refine ⟨fun k hk => ?_, inner, ho, hr.imp_ (fun _ _ hp => d.M_mono (fun k hk => ?_) (d.M_bound hp))⟩
  · obtain ⟨cells, hc⟩ := own_typed ho k hk
    exact ⟨h0 k hk, own_base ho k hk, own_lt ho k hk, e, List.mem_cons_self, cells, hc⟩
  · obtain ⟨⟨h1, h2⟩, h3, h4, q, hq, hc⟩ := hk
    exact ⟨⟨h1, h3, h4, q, List.mem_cons_of_mem _ hq, hc⟩, h2⟩
theorem R_move (h : d.R e w base ok v xs) (hm : ∀ k, ok k → w1.heap[k]? = w.heap[k]?) : d.R e w1 base ok v xs := by
  obtain ⟨h0, inner, ho, hr⟩ := h
  exact ⟨h0, inner, own_move ho (fun k hk => hm k (h0 k hk)), hr.imp_ (fun _ _ hp => d.M_move (fun k hk => hm k hk.1) hp)⟩
theorem R_lower {base' : Nat} (h : d.R e w base ok v xs) (hb : base' ≤ base) : d.R e w base' ok v xs := by
  obtain ⟨h0, inner, ho, hr⟩ := h
  exact ⟨h0, inner, own_weaken ho hb, hr.imp_ (fun _ _ hp => d.M_lower hb hp)⟩
theorem R_step (h : d.R e w base ok v xs) (hm : ∀ k, ok k → k < w.heap.size → w1.heap[k]? = w.heap[k]?) : d.R e w1 base ok v xs :=
  R_mono (R_move (R_bound h) (fun k hk => hm k hk.1 hk.2.2.1)) (fun _ hk => hk.1)
theorem M_step {x : α} {cs : List Value} (h : d.M w base ok x cs) (hm : ∀ k, ok k → k < w.heap.size → w1.heap[k]? = w.heap[k]?) : d.M w1 base ok x cs :=
  d.M_mono (fun _ hk => hk.1) (d.M_move (fun k hk => hm k hk.1 hk.2.2.1) (d.M_bound h))
theorem R_below (h : d.R e w base ok v xs) (hb : Below w.heap.size w w1) : d.R e w1 base ok v xs := R_step h (fun k _ hk => hb.block k hk)
theorem M_below {x : α} {cs : List Value} (h : d.M w base ok x cs) (hb : Below w.heap.size w w1) : d.M w1 base ok x cs := M_step h (fun k _ hk => hb.block k hk)
theorem R_reads (h : d.R e w base ok v xs) : ∃ A c, v = .slice A xs.length c ∧ xs.length ≤ c ∧ d.C w A xs.length xs := by
  obtain ⟨A, c, he, hl, hr⟩ := OwnRow.reads h.2
  exact ⟨A, c, he, hl, hr.imp_ (Below.refl _ _) (fun _ _ hp => d.K_of_M hp)⟩
end
def scalar {α : Type} (enc : α → Value) (h1 : ∀ x, (enc x).oneCell' = true) : Kd α where
  sz := 1
  E := []
  K := fun _ x cs => cs = [enc x]
  M := fun _ _ _ x cs => cs = [enc x]
  K_len := fun h => by rw [h]; rfl
  K_one := fun h u hu => by
    rw [h] at hu
    rw [List.mem_singleton.1 hu]
    exact h1 _
  K_below := fun _ h => h
  K_of_M := fun h => h
  M_mono := fun _ h => h
  M_bound := fun h => h
  M_move := fun _ h => h
  M_lower := fun _ h => h
def int (k : IntKind) : Kd Int := scalar (Value.int k) (fun _ => rfl)
def string : Kd ByteArray := scalar Value.string (fun _ => rfl)
def slice {α : Type} (e : Nat) (d : Kd α) : Kd (List α) where
  sz := 1
  E := e :: d.E
  K := fun w xs cs => ∃ A c, cs = [.slice A xs.length c] ∧ xs.length ≤ c ∧ d.C w A xs.length xs
  M := fun w base ok xs cs => ∃ v, cs = [v] ∧ d.R e w base ok v xs
  K_len := by
    rintro w x cs ⟨A, c, rfl, _⟩
    rfl
  K_one := by
    rintro w x cs ⟨A, c, rfl, _⟩ u hu
    rw [List.mem_singleton.1 hu]
    rfl
  K_below := by
    rintro w w1 x cs hb ⟨A, c, rfl, hl, hr⟩
    exact ⟨A, c, rfl, hl, C_below hr hb⟩
  K_of_M := by
    rintro w base ok x cs ⟨v, rfl, h⟩
    obtain ⟨A, c, rfl, hl, hr⟩ := R_reads h
    exact ⟨A, c, rfl, hl, hr⟩
  M_mono := by
    rintro w base ok ok' x cs hok ⟨v, rfl, h⟩
    exact ⟨v, rfl, R_mono h hok⟩
  M_bound := by
    rintro w base ok x cs ⟨v, rfl, h⟩
    exact ⟨v, rfl, R_bound h⟩
  M_move := by
    rintro w w1 base ok x cs hm ⟨v, rfl, h⟩
    exact ⟨v, rfl, R_move h hm⟩
  M_lower := by
    rintro w base base' ok x cs hb ⟨v, rfl, h⟩
    exact ⟨v, rfl, R_lower h hb⟩
theorem own_of_R {α : Type} {enc : α → Value} {h1 : ∀ x, (enc x).oneCell' = true} {e : Nat} {w : World} {base : Nat} {ok : Nat → Prop} {v : Value} {xs : List α} (h : (scalar enc h1).R e w base ok v xs) : w.ownsRow base e 1 v xs.length (encs enc xs) := by
  obtain ⟨_, inner, ho, hr⟩ := h
  have : inner = encs enc xs := by
    apply List.ext_getElem?
    intro j
    rcases Nat.lt_or_ge j xs.length with hj | hj
    · have h2 := hr.2 j _ (List.getElem?_eq_getElem hj)
      have hl : j < inner.length := by have := hr.1; simp [scalar] at this; omega
      have h3 : (inner.drop (j * 1)).take 1 = [enc xs[j]] := h2
      rw [Nat.mul_one, List.drop_eq_getElem_cons hl] at h3
      have h4 : inner[j] = enc xs[j] := by
        have h5 := congrArg List.head? h3
        rw [List.take_succ_cons] at h5
        exact Option.some.inj h5
      rw [List.getElem?_eq_getElem hl, h4]
      simp [encs, List.getElem?_eq_getElem hj]
    · have h3 : inner.length = xs.length := by have := hr.1; simp [scalar] at this; omega
      rw [List.getElem?_eq_none (by omega), List.getElem?_eq_none (by rw [encs_length]; omega)]
  rw [← this]
  exact ho
end Kd
namespace Kd
end Kd
namespace Kd
end Kd
namespace Kd
section
variable {α β : Type} {d : Kd α} {d' : Kd β} {e e' : Nat} {w w1 W : World} {base b b' : Nat} {ok ok' okv oku : Nat → Prop} {v u : Value} {xs : List α} {ys : List β}
theorem R_alloc (h : d.R e w base ok v xs) (o : Obj) : d.R e (w.alloc o) base ok v xs := R_below h (below_alloc (Below.refl _ _) o)
theorem R_drew (h : d.R e w base ok v xs) : d.R e w.drew base ok v xs := R_below h (below_drew (Below.refl _ _))
theorem R_drewN (h : d.R e w base ok v xs) (m : Nat) : d.R e (w.drewN m) base ok v xs := R_below h (pw_below_drewN (Below.refl _ _) m)
end
section
variable {P : Program} {ops : Array Oper} {rest : List Oper} {o : Oper} {a : Act} {Q : Exit → Act → World → Prop}
theorem event_run {W w1 : World} {v : Value} (hgd : o.guard = none) (hrun : (execOp a.eval o).run P W = .ok (.value v) w1) (h : wpList P ops Q rest (a.put o.dst v) w1) : wpList P ops Q (o :: rest) a W := by
  refine wpList_plain hgd fun K hK => ?_
  unfold Oper.wp
  rw [hrun]
  exact hK _ _ h
variable {α : Type}
theorem R_lit (d : Kd α) {w0 W : World} (base e : Nat) (hgd : o.guard = none) {N : Tmp} (_hd : o.dst = some N) {xs : List α} {inner : List Value} {ok okp : Nat → Prop}
    (hrun : (execOp a.eval o).run P W = .ok (.value (.slice (some ⟨W.heap.size, 0, none⟩) xs.length xs.length)) (W.alloc (.cells inner.toArray e)))
    (hrep : Reps (d.M W base okp) d.sz xs inner) (hok : ∀ k, okp k → ok k) (hfresh : ok W.heap.size) (HB : Below base w0 W) (hbase : base ≤ W.heap.size) (hm : xs.length ≤ 9223372036854775807)
    (h : ∀ v1 w1, d.R e w1 base ok v1 xs → Below base w0 w1 → W.grownBy w1 none → (∃ b, v1.ownBlock = some b ∧ W.heap.size ≤ b) → wpList P ops Q rest (a.put o.dst v1) w1) : wpList P ops Q (o :: rest) a W := by
  refine event_run hgd hrun (h _ _ ⟨fun k hk => ?_, inner, ?_, ?_⟩ (HB.alloc hbase _) (World.grownBy_alloc W _ none) ⟨W.heap.size, by simp [Value.ownBlock], Nat.le_refl _⟩)
  · have : W.heap.size = k := by simpa [Value.ownBlock] using hk
    subst this
    exact hfresh
  · have h2 := World.ownsRow_lit (base := base) (e := e) (size := d.sz) W inner.toArray xs.length hbase (by simpa [maxLen] using hm) (by simpa using hrep.1)
    simpa using h2
  · refine hrep.imp_ (fun p c hp => d.M_mono (fun k hk => ⟨hok k hk.1, fun he => ?_⟩) (M_below (d.M_bound hp) (below_alloc (Below.refl _ _) _)))
    have h3 : k = W.heap.size := by simpa [Value.ownBlock] using he
    have := hk.2.2.1
    omega
end
end Kd
def QRow (w : World) (base : Nat) (e : TypeId) (size : Nat) (v : Value) (n : Nat) (xs : List Value) : Prop :=
  xs.length = n * size ∧
  ((n = 0 ∧ ∃ A, v = .slice A 0 0 ∧ ∀ a, A = some a → base ≤ a.block ∧ ∃ cur, w.heap[a.block]? = some (.cells cur e (0, 0))) ∨
   ∃ g off cap cur, v = .slice (some ⟨g, off * size, none⟩) n cap ∧ base ≤ g ∧ w.heap[g]? = some (.cells cur e (0, 0)) ∧ n ≤ cap ∧ off + cap ≤ maxLen ∧ cur.size = (off + cap) * size ∧ (cur.toList.drop (off * size)).take (n * size) = xs)
namespace Kd
def Q {α : Type} (d : Kd α) (e : Nat) (w : World) (base : Nat) (ok : Nat → Prop) (v : Value) (xs : List α) : Prop :=
  (∀ k, v.ownBlock = some k → ok k) ∧ ∃ inner, QRow w base e d.sz v xs.length inner ∧ Reps (d.M w base (fun k => ok k ∧ some k ≠ v.ownBlock)) d.sz xs inner
end Kd
namespace Kd
end Kd
namespace Kd
end Kd
namespace Kd
end Kd
namespace Kd
end Kd
namespace Kd
end Kd
namespace Kd
end Kd
theorem below_size {w W : World} (h : Below w.heap.size w W) : w.heap.size ≤ W.heap.size := h.size
theorem below_step {w W w2 : World} (h : Below w.heap.size w W) (k : Below W.heap.size W w2) : Below w.heap.size w w2 := below_then h h.size k
theorem ReadsInt.nil (W : World) (k : IntKind) : ReadsInt W k none ([] : List Int).length [] := ⟨rfl, by simp, fun h => absurd h (Nat.lt_irrefl 0)⟩
theorem ReadsOf.nil {α : Type} (enc : α → Value) (d : α) (W : World) : ReadsOf enc d W none ([] : List α).length [] := ⟨rfl, by simp, fun h => absurd h (Nat.lt_irrefl 0)⟩
theorem below_drew1 {base : Nat} {w W : World} (h : Below base w W) : Below base w W.drew := h.drew
namespace Kd
end Kd
namespace Kd
end Kd
namespace Kd
end Kd
namespace Kd
end Kd
section
variable {P : Program} {ops : Array Oper} {rest : List Oper} {o : Oper} {a : Act} {Q : Exit → Act → World → Prop} {W : World}
theorem gate_dst {N : Tmp} (_hN : o.dst = some N) (h : wpList P ops Q (o :: rest) a W) : wpList P ops Q (o :: rest) a W := h
end
section
variable {P : Program} {ops : Array Oper} {o : Oper} {a : Act} {Q : Exit → Act → World → Prop} {Kc : Act → World → Prop}
theorem event_step {W w1 : World} {v : Value} (hw : Region.wanted o (yielded ops a.tmps) = true) (hrun : (execOp a.eval o).run P W = .ok (.value v) w1) (h : Kc (a.put o.dst v) w1) : if Region.wanted o (yielded ops a.tmps) = true then Oper.wp P o a W Kc Q else Kc (a.put o.dst undef) W := by
  rw [if_pos hw]
  unfold Oper.wp
  rw [hrun]
  exact h
namespace Kd
variable {α : Type}
theorem R_lit_step (d : Kd α) {w0 W : World} (base e : Nat) (hw : Region.wanted o (yielded ops a.tmps) = true) {N : Tmp} (_hd : o.dst = some N) {xs : List α} {inner : List Value} {ok okp : Nat → Prop}
    (hrun : (execOp a.eval o).run P W = .ok (.value (.slice (some ⟨W.heap.size, 0, none⟩) xs.length xs.length)) (W.alloc (.cells inner.toArray e)))
    (hrep : Reps (d.M W base okp) d.sz xs inner) (hok : ∀ k, okp k → ok k) (hfresh : ok W.heap.size) (HB : Below base w0 W) (hbase : base ≤ W.heap.size) (hm : xs.length ≤ 9223372036854775807)
    (h : ∀ v1 w1, d.R e w1 base ok v1 xs → Below base w0 w1 → W.grownBy w1 none → (∃ b, v1.ownBlock = some b ∧ W.heap.size ≤ b) → Kc (a.put o.dst v1) w1) : if Region.wanted o (yielded ops a.tmps) = true then Oper.wp P o a W Kc Q else Kc (a.put o.dst undef) W := by
  refine event_step hw hrun (h _ _ ⟨fun k hk => ?_, inner, ?_, ?_⟩ (HB.alloc hbase _) (World.grownBy_alloc W _ none) ⟨W.heap.size, by simp [Value.ownBlock], Nat.le_refl _⟩)
  · have : W.heap.size = k := by simpa [Value.ownBlock] using hk
    subst this
    exact hfresh
  · have h2 := World.ownsRow_lit (base := base) (e := e) (size := d.sz) W inner.toArray xs.length hbase (by simpa [maxLen] using hm) (by simpa using hrep.1)
    simpa using h2
  · refine hrep.imp_ (fun p c hp => d.M_mono (fun k hk => ⟨hok k hk.1, fun he => ?_⟩) (M_below (d.M_bound hp) (below_alloc (Below.refl _ _) _)))
    have h3 : k = W.heap.size := by simpa [Value.ownBlock] using he
    have := hk.2.2.1
    omega
end Kd
end
namespace Kd
end Kd
end Go.Proofs.YtjbcjcibnjbpcaaDoorW.PrintWords
namespace Go.Proofs.YtjbcjcibnjbpcaaDoorW.PrintLast
section
variable {P : Program} {ops : Array Oper} {Q : Exit → Act → World → Prop} {md : Region.Mode} {S : World → Prop} {ds : List Nat}
def ListedClosed (md : Region.Mode) (ops : Array Oper) (listed : Array Bool) : Prop :=
  ∀ j oj, ops[j]? = some oj → listed.getD j false = true → ∀ e ∈ oj.after, Region.binds md e = true → listed.getD e.on false = true
theorem ListedClosed.set {listed : Array Bool} {i : Nat} (h : ListedClosed md ops listed) (hi : i ∈ Region.ready md ops listed) : ListedClosed md ops (listed.setIfInBounds i true) := by
  obtain ⟨_, oi, hoi, hall⟩ := mem_ready.1 hi
  intro j oj hj hl e he hb
  by_cases hij : i = j
  · subst hij
    have : oj = oi := Option.some.inj (hj.symm.trans hoi)
    subst this
    exact getD_set_true (hall e he hb)
  · rw [getD_set_ne false hij] at hl
    exact getD_set_true (h j oj hj hl e he hb)
def wpAnyLast (P : Program) (md : Region.Mode) (ops : Array Oper) (Q : Exit → Act → World → Prop) (S : World → Prop) (ds : List Nat) : Nat → Array Bool → Act → World → Prop
  | 0, listed, a, w => Region.ready md ops listed = [] ∧ Q .normal a w
  | fuel + 1, listed, a, w =>
    (Region.ready md ops listed = [] → Q .normal a w) ∧
    ∀ i ∈ Region.ready md ops listed, wpOp P ops Q i (fun a' w' => (i ∉ ds → S w → S w') ∧ wpAnyLast P md ops Q S ds fuel (listed.setIfInBounds i true) a' w') a w
theorem wpAny_of_last : ∀ (fuel : Nat) (listed : Array Bool) (a : Act) (w : World), wpAnyLast P md ops Q S ds fuel listed a w → wpAny P md ops Q fuel listed a w
  | 0, _, _, _, h => h
  | fuel + 1, _, _, _, h => ⟨h.1, fun i hi => wpOp_mono (fun a' w' h' => wpAny_of_last fuel _ a' w' h'.2) (h.2 i hi)⟩
theorem wpAnyLast_any {i : Nat} {oi : Oper} {v : Value} (hi : ops[i]? = some oi) (hsel : ∀ (j : Nat) (o : Oper) cs b, ops[j]? = some o → o.op ≠ .select cs b)
    (hQ : ∀ c a w, Q (.panic c) (a.put oi.dst v) w → Q (.panic c) a w) :
    ∀ (fuel : Nat) (listed : Array Bool) (a : Act) (w : World),
      (∀ j oj, ops[j]? = some oj → j ≠ i → listed.getD j true = false → (∀ e ∈ oj.after, Region.binds md e = true → e.on ≠ i) → oi.apart ops oj = true) →
      i ∈ Region.ready md ops listed → Yields P ops oi v a →
      wpAnyLast P md ops Q S ds fuel (listed.setIfInBounds i true) (a.put oi.dst v) w → wpAnyLast P md ops Q S ds (fuel + 1) listed a w := by
  intro fuel
  induction fuel with
  | zero =>
    intro listed a w _ hr hy H
    refine ⟨fun h => (by rw [h] at hr; cases hr), fun j hj => ?_⟩
    by_cases hji : j = i
    · subst hji; exact (hy.yieldsIf (S := fun _ => True)).wpOp hi trivial ⟨fun _ h => h, H⟩
    · have := ready_mono hj hji
      rw [H.1] at this
      cases this
  | succ fuel ih =>
    intro listed a w hfree hr hy H
    refine ⟨fun h => (by rw [h] at hr; cases hr), fun j hj => ?_⟩
    by_cases hji : j = i
    · subst hji; exact (hy.yieldsIf (S := fun _ => True)).wpOp hi trivial ⟨fun _ h => h, H⟩
    · have h1 := H.2 j (ready_mono hj hji)
      obtain ⟨hjun, oj, hoj, hall⟩ := mem_ready.1 hj
      have hiun := (mem_ready.1 hr).1
      have hnot : ∀ e ∈ oj.after, Region.binds md e = true → e.on ≠ i := fun e he hb heq => by
        have h1 := hall e he hb
        rw [heq] at h1
        rcases Nat.lt_or_ge i listed.size with h' | h'
        · simp [h'] at hiun h1; rw [hiun] at h1; cases h1
        · simp [Array.getElem?_eq_none h'] at h1
      have h2 := wpOp_put hoj (hfree j oj hoj hji hjun hnot) (fun cs b => hsel i oi cs b hi) (fun cs b => hsel j oj cs b hoj) hQ hy h1
      have hfree' : ∀ k ok, ops[k]? = some ok → k ≠ i → (listed.setIfInBounds j true).getD k true = false →
          (∀ e ∈ ok.after, Region.binds md e = true → e.on ≠ i) → oi.apart ops ok = true := fun k ok hk hki hun hno => by
        refine hfree k ok hk hki ?_ hno
        by_cases hjk : j = k
        · subst hjk; exact hjun
        · rw [getD_set_ne true hjk] at hun; exact hun
      refine wpOp_mono (fun a' w' h3 => ⟨h3.2.1, ih (listed.setIfInBounds j true) a' w' hfree' (ready_mono hr (Ne.symm hji)) h3.1 ?_⟩) h2
      rw [Array.setIfInBounds_comm _ _ hji]
      exact h3.2.2
theorem wpAnyLast_all {rs : List Nat} {fuel : Nat} {listed : Array Bool} {a : Act} {w : World} (hr : Region.ready md ops listed = rs) (hne : rs ≠ [])
    (h : ∀ i ∈ rs, wpOp P ops Q i (fun a' w' => (i ∉ ds → S w → S w') ∧ wpAnyLast P md ops Q S ds fuel (listed.setIfInBounds i true) a' w') a w) : wpAnyLast P md ops Q S ds (fuel + 1) listed a w :=
  ⟨fun h0 => absurd (hr ▸ h0) hne, hr ▸ h⟩
theorem wpAnyLast_done {listed : Array Bool} {a : Act} {w : World} (hr : Region.ready md ops listed = []) (h : Q .normal a w) :
    ∀ fuel, wpAnyLast P md ops Q S ds fuel listed a w
  | 0 => ⟨hr, h⟩
  | _ + 1 => ⟨fun _ => h, by rw [hr]; simp⟩
theorem wp_region_last {id : Nat} {a : Act} {w : World} (hm : P.follows .mixedOrders = true)
    (h : wpAnyLast P .any ops Q S ds ops.size (Array.replicate ops.size false) a { w with drawn := w.drawn + 1 }) : (Code.region id ops true).wp P Q a w :=
  wp_region_any hm (wpAny_of_last _ _ _ _ h)
end
section
variable {P : Program} {ops : Array Oper} {Q : Exit → Act → World → Prop} {md : Region.Mode} {S : World → Prop} {ds : List Nat}
def AllReadyL (P : Program) (md : Region.Mode) (ops : Array Oper) (Q : Exit → Act → World → Prop) (S : World → Prop) (ds : List Nat) (fuel : Nat) (listed : Array Bool) (a : Act) (w : World) (rs : List Nat) : Prop :=
  ∀ i ∈ rs, wpOp P ops Q i (fun a' w' => (i ∉ ds → S w → S w') ∧ wpAnyLast P md ops Q S ds fuel (listed.setIfInBounds i true) a' w') a w
theorem AllReadyL.nil {fuel : Nat} {listed : Array Bool} {a : Act} {w : World} : AllReadyL P md ops Q S ds fuel listed a w [] := fun _ h => by cases h
theorem AllReadyL.cons {fuel : Nat} {listed : Array Bool} {a : Act} {w : World} {i : Nat} {o : Oper} {rs : List Nat} (ho : ops[i]? = some o) (hd : i ∉ ds)
    (h : ∀ K' : Act → World → Prop, Shut (∀ a w, S w → (S w → wpAnyLast P md ops Q S ds fuel (listed.setIfInBounds i true) a w) → K' a w) → if Region.wanted o (yielded ops a.tmps) = true then Oper.wp P o a w K' Q else K' (a.put o.dst undef) w)
    (hs : AllReadyL P md ops Q S ds fuel listed a w rs) : AllReadyL P md ops Q S ds fuel listed a w (i :: rs) := fun j hj => by
  rcases List.mem_cons.1 hj with rfl | hj
  · exact wpOp_step ho (fun K' hK => h K' (fun a w hS hW => hK a w ⟨fun _ _ => hS, hW hS⟩))
  · exact hs j hj
theorem wpAnyLast_ready {rs : List Nat} {fuel : Nat} {listed : Array Bool} {a : Act} {w : World} (hr : Region.ready md ops listed = rs) (hne : rs ≠ [])
    (h : AllReadyL P md ops Q S ds fuel listed a w rs) : wpAnyLast P md ops Q S ds (fuel + 1) listed a w := wpAnyLast_all hr hne h
theorem start_ {id n : Nat} {a : Act} {w : World} (l : Array Bool) (hm : P.follows .mixedOrders = true) (hn : ops.size = n) (hl : Array.replicate n false = l) (hS : S w.drew)
    (h : S w.drew → wpAnyLast P .any ops Q S ds n l a w.drew) : (Code.region id ops true).wp P Q a w := by
  subst hn
  subst hl
  exact wp_region_last hm (h hS)
def anyB (md : Region.Mode) (ops : Array Oper) (l l' : Array Bool) (i : Nat) : Bool :=
  Region.noSelect ops && Region.free md ops l i && (Region.ready md ops l).contains i && (l.setIfInBounds i true == l')
theorem pure_ {i : Nat} {N : Option Tmp} {oi : Oper} {v : Value} {fuel : Nat} {l : Array Bool} {a : Act} {w : World} (l' : Array Bool) (hi : ops[i]? = some oi) (hN : oi.dst = N) (hc : anyB md ops l l' i = true)
    (hQ : ∀ c a w, Q (.panic c) (a.put oi.dst v) w → Q (.panic c) a w) (hy : Yields P ops oi v a) {a' : Act} (ha : a.put N v = a')
    (h : wpAnyLast P md ops Q S ds fuel l' a' w) : wpAnyLast P md ops Q S ds (fuel + 1) l a w := by
  subst ha
  subst hN
  simp only [anyB, Bool.and_eq_true, beq_iff_eq] at hc
  obtain ⟨⟨⟨h1, h2⟩, h3⟩, h6⟩ := hc
  subst h6
  exact wpAnyLast_any hi (Region.noSelect_spec h1) hQ fuel l a w (Region.free_spec hi h2) (by simpa using h3) hy h
def readyB (md : Region.Mode) (ops : Array Oper) (l l' : Array Bool) (i : Nat) : Bool := (Region.ready md ops l == [i]) && (l.setIfInBounds i true == l')
theorem one_ {i : Nat} {N : Option Tmp} {oi : Oper} {fuel : Nat} {l : Array Bool} {a : Act} {w : World} (l' : Array Bool) (hi : ops[i]? = some oi) (hN : oi.dst = N) (hc : readyB md ops l l' i = true) (hd : i ∉ ds)
    (h : ∀ K : Act → World → Prop, Shut (∀ a' w', S w' → (S w' → wpAnyLast P md ops Q S ds fuel l' a' w') → K a' w') → if Region.wanted oi (yielded ops a.tmps) = true then Oper.wp P oi a w K Q else K (a.put N undef) w) :
    wpAnyLast P md ops Q S ds (fuel + 1) l a w := by
  subst hN
  simp only [readyB, Bool.and_eq_true, beq_iff_eq] at hc
  obtain ⟨h1, h2⟩ := hc
  subst h2
  exact wpAnyLast_ready h1 (by simp) (AllReadyL.cons hi hd (fun K hK => h K hK) AllReadyL.nil)
theorem done_ {l : Array Bool} {a : Act} {w : World} {n : Nat} (hr : (Region.ready md ops l == []) = true) (h : Q .normal a w) : wpAnyLast P md ops Q S ds n l a w := wpAnyLast_done (by simpa using hr) h n
theorem two_ {i j : Nat} {Ni Nj : Option Tmp} {oi oj : Oper} {fuel : Nat} {l : Array Bool} {a : Act} {w : World} (li lj : Array Bool) (hi : ops[i]? = some oi) (hj : ops[j]? = some oj) (hNi : oi.dst = Ni) (hNj : oj.dst = Nj)
    (hc : (Region.ready md ops l == [i, j] && l.setIfInBounds i true == li && l.setIfInBounds j true == lj) = true) (hdi : i ∉ ds) (hdj : j ∉ ds)
    (h1 : ∀ K : Act → World → Prop, Shut (∀ a' w', S w' → (S w' → wpAnyLast P md ops Q S ds fuel li a' w') → K a' w') → if Region.wanted oi (yielded ops a.tmps) = true then Oper.wp P oi a w K Q else K (a.put Ni undef) w)
    (h2 : ∀ K : Act → World → Prop, Shut (∀ a' w', S w' → (S w' → wpAnyLast P md ops Q S ds fuel lj a' w') → K a' w') → if Region.wanted oj (yielded ops a.tmps) = true then Oper.wp P oj a w K Q else K (a.put Nj undef) w) :
    wpAnyLast P md ops Q S ds (fuel + 1) l a w := by
  subst hNi
  subst hNj
  simp only [Bool.and_eq_true, beq_iff_eq] at hc
  obtain ⟨⟨h3, h4⟩, h5⟩ := hc
  subst h4
  subst h5
  exact wpAnyLast_ready h3 (by simp) (AllReadyL.cons hi hdi (fun K hK => h1 K hK) (AllReadyL.cons hj hdj (fun K hK => h2 K hK) AllReadyL.nil))
def putAll : Act → List (Tmp × Value) → Act
  | a, [] => a
  | a, (n, v) :: r => putAll (a.put (some n) v) r
theorem join_ {σ : Type} {fuel : Nat} {l : Array Bool} {a : Act} {w : World} (fuel' : Nat) (l' : Array Bool) (ns : σ → List (Tmp × Value)) (F : σ → World → Prop)
    (hcont : ∀ s w', F s w' → wpAnyLast P md ops Q S ds fuel' l' (putAll a (ns s)) w')
    (h : (∀ s w', F s w' → wpAnyLast P md ops Q S ds fuel' l' (putAll a (ns s)) w') → wpAnyLast P md ops Q S ds fuel l a w) : wpAnyLast P md ops Q S ds fuel l a w := h hcont
theorem norm_ {fuel : Nat} {l : Array Bool} {a a' : Act} {w : World} (ha : a = a') (h : wpAnyLast P md ops Q S ds fuel l a' w) : wpAnyLast P md ops Q S ds fuel l a w := by
  subst ha
  exact h
theorem call_ {oi : Oper} {N : Option Tmp} {a : Act} {w : World} {K : Act → World → Prop} (f : FuncId) (args : Array Value) (hw : Region.wanted oi (yielded ops a.tmps) = true) (hN : oi.dst = N) (hrun : (execOp a.eval oi).run P w = .ok (.enter f args) w)
    (h : Calls P f args w fun e w' => ∃ v, e = .returned v ∧ K (a.put N v) w') : if Region.wanted oi (yielded ops a.tmps) = true then Oper.wp P oi a w K Q else K (a.put N undef) w := by
  rw [if_pos hw]
  subst hN
  unfold Oper.wp
  rw [hrun, Oper.upon_enter]
  refine h.mono fun e w'' hh => ?_
  obtain ⟨v, rfl, hk⟩ := hh
  exact hk
theorem enters_ {f : FuncId} {fn : Func} (hf : P.funcs[f]? = some fn) (hname : (fn.name == "runtime.NumGoroutine") = false) (hb : fn.body.isSome = true) (args : Array Value) (w : World) : (callFunc f args).run P w = .ok (.enter f args) w := by
  have h1 : fn.name ≠ "runtime.NumGoroutine" := by simpa using hname
  obtain ⟨c, hc⟩ := Option.isSome_iff_exists.1 hb
  simp [callFunc, hf, h1, hc]
theorem goes_ {oi : Oper} {N : Option Tmp} {a : Act} {w : World} {K : Act → World → Prop} {f : FuncId} {fn : Func} {as_ : Array Operand} {ts : Array TypeId} (hf : P.funcs[f]? = some fn) (hname : (fn.name == "runtime.NumGoroutine") = false) (hb : fn.body.isSome = true) (args : Array Value)
    (hw : Region.wanted oi (yielded ops a.tmps) = true) (hN : oi.dst = N) (hop : oi.op = .call { callee := .value (.func f), args := as_, argTypes := ts }) (hargs : as_.map a.eval = args)
    (h : Calls P f args w fun e w' => ∃ v, e = .returned v ∧ K (a.put N v) w') : if Region.wanted oi (yielded ops a.tmps) = true then Oper.wp P oi a w K Q else K (a.put N undef) w := by
  refine call_ f args hw hN ?_ h
  have he := enters_ hf hname hb args w
  unfold execOp
  simp [hop, resolve, Deferred.ofValue, invoke, Act.eval, hargs, he]
theorem goesL_ {rest : List Oper} {oi : Oper} {a : Act} {w : World} (N : Option Tmp) (hd : oi.dst = N) (hg : oi.guard = none) {f : FuncId} {fn : Func} {as_ : Array Operand} {ts : Array TypeId} (hf : P.funcs[f]? = some fn) (hname : (fn.name == "runtime.NumGoroutine") = false) (hb : fn.body.isSome = true) (args : Array Value)
    (hop : oi.op = .call { callee := .value (.func f), args := as_, argTypes := ts }) (hargs : as_.map a.eval = args)
    (h : Calls P f args w fun e w' => ∃ v, e = .returned v ∧ wpList P ops Q rest (a.put N v) w') : wpList P ops Q (oi :: rest) a w := by
  refine wpList_plain hg fun K hK => ?_
  have he := enters_ hf hname hb args w
  have hrun : (execOp a.eval oi).run P w = .ok (.enter f args) w := by
    unfold execOp
    simp [hop, resolve, Deferred.ofValue, invoke, Act.eval, hargs, he]
  unfold Oper.wp
  rw [hrun, Oper.upon_enter]
  refine h.mono fun e w'' hh => ?_
  obtain ⟨v, rfl, hk⟩ := hh
  subst hd
  exact hK _ _ hk
theorem value_ {oi : Oper} {N : Option Tmp} {a : Act} {w w1 : World} {v : Value} {K : Act → World → Prop} (hw : Region.wanted oi (yielded ops a.tmps) = true) (hN : oi.dst = N) (hrun : (execOp a.eval oi).run P w = .ok (.value v) w1)
    (h : K (a.put N v) w1) : if Region.wanted oi (yielded ops a.tmps) = true then Oper.wp P oi a w K Q else K (a.put N undef) w := by
  rw [if_pos hw]
  subst hN
  unfold Oper.wp
  rw [hrun]
  exact h
theorem i64_w (n : Int) : IntKind.i64.wrap n = Go.RowKit.wrap64 n := by unfold Go.RowKit.wrap64; exact IntKind.wrap_i64 n
theorem i32_w (n : Int) : IntKind.i32.wrap n = Go.RowKit.wrap32 n := by unfold Go.RowKit.wrap32; exact IntKind.wrap_i32 n
end
end Go.Proofs.YtjbcjcibnjbpcaaDoorW.PrintLast
namespace Go.Proofs.YtjbcjcibnjbpcaaDoorW.PrintLast
open Go.Proofs.YtjbcjcibnjbpcaaDoorW.PrintWords (Aside0)
def needsOf (md : Region.Mode) (o : Oper) : List Nat := (o.after.toList.filter (fun e => Region.binds md e)).map (fun e => e.on)
def clashOf (md : Region.Mode) (ops : Array Oper) (i : Nat) (oi : Oper) : List Nat := (List.range ops.size).filter fun j => !(j == i) && match ops[j]? with
  | some oj => !(oj.after.any (fun e => Region.binds md e && e.on == i) || oi.apart ops oj)
  | none => false
def rtab (md : Region.Mode) (ops : Array Oper) : Bool × List (List Nat × List Nat) := (Region.noSelect ops, (List.range ops.size).map fun i => match ops[i]? with
  | some o => (needsOf md o, clashOf md ops i o)
  | none => ([], []))
def readyAt (T : List (List Nat × List Nat)) (l : List Bool) (i : Nat) : Bool := !l.getD i true && match T[i]? with
  | some r => r.1.all (fun j => l.getD j false)
  | none => false
def readyT (T : List (List Nat × List Nat)) (l : List Bool) : List Nat := (List.range T.length).filter (readyAt T l)
def freeT (T : List (List Nat × List Nat)) (l : List Bool) (i : Nat) : Bool := match T[i]? with
  | some r => r.2.all (fun j => l.getD j true)
  | none => false
section
variable {md : Region.Mode} {ops : Array Oper} {T : Bool × List (List Nat × List Nat)} {l l' li lj lk : Array Bool} {ds : List Nat} {i j k : Nat}
theorem gd (l : Array Bool) (j : Nat) (b : Bool) : l.getD j b = l.toList.getD j b := by simp [Array.getD_eq_getD_getElem?, List.getD_eq_getElem?_getD]
theorem needs_all (o : Oper) (p : Nat → Bool) : o.after.all (fun e => !Region.binds md e || p e.on) = (needsOf md o).all p := by
  unfold needsOf
  rw [← Array.all_toList]
  induction o.after.toList with
  | nil => rfl
  | cons e r ih =>
    rw [List.all_cons, ih, List.filter_cons]
    cases h : Region.binds md e <;> simp
theorem rtab_length : (rtab md ops).2.length = ops.size := by simp [rtab]
theorem rtab_some {o : Oper} (h : ops[i]? = some o) : (rtab md ops).2[i]? = some (needsOf md o, clashOf md ops i o) := by
  have hi := (Array.getElem?_eq_some_iff.1 h).1
  unfold rtab
  rw [List.getElem?_map, List.getElem?_range hi, Option.map_some, h]
theorem rtab_none (h : ops[i]? = none) : (rtab md ops).2[i]? = none := by
  have hi : ops.size ≤ i := Array.getElem?_eq_none_iff.1 h
  exact List.getElem?_eq_none (by rw [rtab_length]; exact hi)
theorem readyAt_eq : readyAt (rtab md ops).2 l.toList i = (!l.getD i true && ((ops[i]?).map (·.after.all fun e => !Region.binds md e || l.getD e.on false)).getD false) := by
  unfold readyAt
  rw [gd]
  cases h : ops[i]? with
  | none => rw [rtab_none h]; rfl
  | some o =>
    rw [rtab_some h]
    simp only [Option.map_some, Option.getD_some]
    rw [← needs_all]
    simp only [gd]
theorem ready_eq : Region.ready md ops l = readyT (rtab md ops).2 l.toList := by
  unfold Region.ready readyT
  rw [rtab_length]
  refine List.filter_congr (fun i _ => ?_)
  rw [readyAt_eq]
theorem free_eq : Region.free md ops l i = freeT (rtab md ops).2 l.toList i := by
  unfold Region.free freeT
  cases h : ops[i]? with
  | none => rw [rtab_none h]
  | some oi =>
    rw [rtab_some h]
    simp only [clashOf]
    rw [List.all_filter]
    congr 1
    funext j
    rw [gd]
    cases hj : ops[j]? with
    | none => cases (j == i) <;> cases (l.toList.getD j true) <;> simp
    | some oj =>
      cases (j == i) <;> cases (l.toList.getD j true) <;> cases (oj.after.any (fun e => Region.binds md e && e.on == i) || oi.apart ops oj) <;> simp_all
theorem readyAt_mem (h : readyAt T.2 l.toList i = true) (hT : rtab md ops = T) : (Region.ready md ops l).contains i = true := by
  subst hT
  rw [ready_eq]
  unfold readyT
  rw [List.contains_iff_mem, List.mem_filter, List.mem_range]
  refine ⟨?_, h⟩
  unfold readyAt at h
  rw [Bool.and_eq_true] at h
  cases hq : (rtab md ops).2[i]? with
  | none => rw [hq] at h; simp at h
  | some r => exact (List.getElem?_eq_some_iff.1 hq).1
theorem set_of (h : (l.toList.set i true == l'.toList) = true) : (l.setIfInBounds i true == l') = true := by
  rw [beq_iff_eq] at h ⊢
  apply Array.ext'
  rw [Array.toList_setIfInBounds]
  exact h
def anyT (T : Bool × List (List Nat × List Nat)) (l l' : List Bool) (i : Nat) : Bool := T.1 && freeT T.2 l i && readyAt T.2 l i && (l.set i true == l')
theorem any_of (hT : rtab md ops = T) (h : anyT T l.toList l'.toList i = true) : anyB md ops l l' i = true := by
  simp only [anyT, Bool.and_eq_true] at h
  obtain ⟨⟨⟨h1, h2⟩, h3⟩, h4⟩ := h
  have h5 := readyAt_mem h3 hT
  have h6 := set_of h4
  subst hT
  simp only [anyB, Bool.and_eq_true]
  exact ⟨⟨⟨h1, by rw [free_eq]; exact h2⟩, h5⟩, h6⟩
theorem one_of (hT : rtab md ops = T) (h : (readyT T.2 l.toList == [i] && l.toList.set i true == l'.toList) = true) : readyB md ops l l' i = true := by
  simp only [Bool.and_eq_true] at h
  obtain ⟨h1, h2⟩ := h
  subst hT
  simp only [readyB, Bool.and_eq_true]
  exact ⟨by rw [ready_eq]; exact h1, set_of h2⟩
theorem two_of (hT : rtab md ops = T) (h : (readyT T.2 l.toList == [i, j] && l.toList.set i true == li.toList && l.toList.set j true == lj.toList) = true) : (Region.ready md ops l == [i, j] && l.setIfInBounds i true == li && l.setIfInBounds j true == lj) = true := by
  simp only [Bool.and_eq_true] at h ⊢
  obtain ⟨⟨h1, h2⟩, h3⟩ := h
  subst hT
  exact ⟨⟨by rw [ready_eq]; exact h1, set_of h2⟩, set_of h3⟩
theorem done_of (hT : rtab md ops = T) (h : (readyT T.2 l.toList == []) = true) : (Region.ready md ops l == []) = true := by
  subst hT
  rw [ready_eq]
  exact h
def upM (B : List Nat) (d : Nat) : List Nat → Nat
  | [] => 0
  | n :: r => (2 ^ n ||| (if n < d then B.getD n 0 else 0)) ||| upM B d r
def waitsOk (T : List (List Nat × List Nat)) (B : List Nat) : Bool := (List.range T.length).all fun d => match T[d]? with
  | some r => (B.getD d 0 ||| upM B d r.1) == upM B d r.1
  | none => false
theorem with_tabW {P : Program} {Q : Exit → Act → World → Prop} {S : World → Prop} {n : Nat} {a : Act} {w : World} {B : List Nat} (hT : rtab md ops = T) (hB : waitsOk T.2 B = true) (h : Aside0 (rtab md ops = T) → Aside0 (waitsOk T.2 B = true) → wpAnyLast P md ops Q S ds n l a w) : wpAnyLast P md ops Q S ds n l a w := h ⟨hT⟩ ⟨hB⟩
end
def opsIn : Code → Nat → Option (Array Oper)
  | .region id ops _, k => if id == k then some ops else none
  | .seq a b, k => match opsIn a k with
    | some o => some o
    | none => opsIn b k
  | .cond _ a b, k => match opsIn a k with
    | some o => some o
    | none => opsIn b k
  | .block _ c, k => opsIn c k
  | .loop c, k => opsIn c k
  | .scope c, k => opsIn c k
  | .rangeFunc _ _ a b, k => match opsIn a k with
    | some o => some o
    | none => opsIn b k
  | _, _ => none
def opsOf (f : Func) (k : Nat) : Array Oper := ((f.body.bind fun c => opsIn c k)).getD #[]
end Go.Proofs.YtjbcjcibnjbpcaaDoorW.PrintLast
namespace Go.Proofs.YtjbcjcibnjbpcaaDoorW.PrintLast
end Go.Proofs.YtjbcjcibnjbpcaaDoorW.PrintLast
namespace Go.Proofs.YtjbcjcibnjbpcaaDoorW.PrintWords
open Go.RowKit
namespace Kd
end Kd
end Go.Proofs.YtjbcjcibnjbpcaaDoorW.PrintWords
namespace Go.Proofs.YtjbcjcibnjbpcaaDoorW.PrintWords
open Go.RowKit
namespace Kd
def tag {α : Type} (f : Nat → Nat) (d : Kd α) : Kd (α × Nat) where
  sz := d.sz
  E := d.E
  K := fun w x cs => d.K w x.1 cs
  M := fun w base ok x cs => d.M w base (fun k => ok k ∧ f k = x.2) x.1 cs
  K_len := fun h => d.K_len h
  K_one := fun h => d.K_one h
  K_below := fun hb h => d.K_below hb h
  K_of_M := fun h => d.K_of_M h
  M_mono := fun hok h => d.M_mono (fun k hk => ⟨hok k hk.1, hk.2⟩) h
  M_bound := fun h => d.M_mono (fun _ hk => ⟨⟨hk.1.1, hk.2⟩, hk.1.2⟩) (d.M_bound h)
  M_move := fun hm h => d.M_move (fun k hk => hm k hk.1) h
  M_lower := fun hb h => d.M_lower hb h
def raw (sz : Nat) : Kd (List Value) where
  sz := sz
  E := []
  K := fun _ x cs => cs = x ∧ cs.length = sz ∧ ∀ u ∈ cs, u.oneCell' = true
  M := fun _ _ _ x cs => cs = x ∧ cs.length = sz ∧ ∀ u ∈ cs, u.oneCell' = true
  K_len := fun h => h.2.1
  K_one := fun h => h.2.2
  K_below := fun _ h => h
  K_of_M := fun h => h
  M_mono := fun _ h => h
  M_bound := fun h => h
  M_move := fun _ h => h
  M_lower := fun _ h => h
def S {α : Type} (d : Kd α) (e : Nat) (w : World) (base : Nat) (ok : Nat → Prop) (v : Value) (xs : List α) : Prop := ∃ f, (tag f d).R e w base ok v xs.zipIdx
def gap {α : Type} (f : Nat → Nat) (d : Kd α) (i : Nat) (c : List Value) : Kd (α × Nat) where
  sz := d.sz
  E := d.E
  K := fun w x cs => (x.2 = i → cs = c ∧ cs.length = d.sz ∧ ∀ u ∈ cs, u.oneCell' = true) ∧ (x.2 ≠ i → d.K w x.1 cs)
  M := fun w base ok x cs => (x.2 = i → cs = c ∧ cs.length = d.sz ∧ ∀ u ∈ cs, u.oneCell' = true) ∧ (x.2 ≠ i → d.M w base (fun k => ok k ∧ f k = x.2) x.1 cs)
  K_len := fun {w x cs} h => by
    by_cases hx : x.2 = i
    · exact (h.1 hx).2.1
    · exact d.K_len (h.2 hx)
  K_one := fun {w x cs} h => by
    by_cases hx : x.2 = i
    · exact (h.1 hx).2.2
    · exact d.K_one (h.2 hx)
  K_below := fun hb h => ⟨h.1, fun hx => d.K_below hb (h.2 hx)⟩
  K_of_M := fun h => ⟨h.1, fun hx => d.K_of_M (h.2 hx)⟩
  M_mono := fun hok h => ⟨h.1, fun hx => d.M_mono (fun k hk => ⟨hok k hk.1, hk.2⟩) (h.2 hx)⟩
  M_bound := fun h => ⟨h.1, fun hx => d.M_mono (fun _ hk => ⟨⟨hk.1.1, hk.2⟩, hk.1.2⟩) (d.M_bound (h.2 hx))⟩
  M_move := fun hm h => ⟨h.1, fun hx => d.M_move (fun k hk => hm k hk.1) (h.2 hx)⟩
  M_lower := fun hb h => ⟨h.1, fun hx => d.M_lower hb (h.2 hx)⟩
def H {α : Type} (d : Kd α) (e : Nat) (w : World) (base : Nat) (ok : Nat → Prop) (v : Value) (xs : List α) (i : Int) (oki : Nat → Prop) (c : List Value) : Prop :=
  (∀ k, oki k → ok k) ∧ ∃ f, (gap f d i.toNat c).R e w base (fun k => ok k ∧ ¬ oki k) v xs.zipIdx
end Kd
end Go.Proofs.YtjbcjcibnjbpcaaDoorW.PrintWords
namespace Go.Proofs.YtjbcjcibnjbpcaaDoorW.PrintWords
open Go.RowKit
namespace Kd
end Kd
end Go.Proofs.YtjbcjcibnjbpcaaDoorW.PrintWords
namespace Go.Proofs.YtjbcjcibnjbpcaaDoorW.PrintWords
open Go.RowKit
namespace Kd
end Kd
end Go.Proofs.YtjbcjcibnjbpcaaDoorW.PrintWords
namespace Go.Proofs.YtjbcjcibnjbpcaaDoorW.PrintWords
open Go.RowKit
namespace Kd
end Kd
end Go.Proofs.YtjbcjcibnjbpcaaDoorW.PrintWords
namespace Go.Proofs.YtjbcjcibnjbpcaaDoorW.PrintWords
open Go.RowKit
def Kept (w W : World) (S : Nat → Prop) : Prop := w.heap.size ≤ W.heap.size ∧ ∀ i, i < w.heap.size → ¬ S i → W.heap[i]? = w.heap[i]?
section
variable {w W W2 : World} {S S2 S' : Nat → Prop}
theorem Kept.refl (w : World) (S : Nat → Prop) : Kept w w S := ⟨Nat.le_refl _, fun _ _ _ => rfl⟩
theorem Kept.mono (h : Kept w W S) (hs : ∀ k, S k → S' k) : Kept w W S' := ⟨h.1, fun i hi hn => h.2 i hi (fun hk => hn (hs i hk))⟩
theorem Kept.drew (h : Kept w W S) : Kept w W.drew S := h
end
namespace Kd
end Kd
end Go.Proofs.YtjbcjcibnjbpcaaDoorW.PrintWords
namespace Go.Proofs.YtjbcjcibnjbpcaaDoorW.PrintWords
open Go.RowKit
def Foot (P : World → Prop) (W : World) (ok : Nat → Prop) : Prop := ∀ W' : World, (∀ k, ok k → k < W.heap.size → W'.heap[k]? = W.heap[k]?) → P W'
namespace Foot
variable {P Q : World → Prop} {W W1 : World} {ok ok' : Nat → Prop}
theorem mono (h : Foot P W ok) (hok : ∀ k, ok k → ok' k) : Foot P W ok' := fun W' hW => h W' (fun k hk hlt => hW k (hok k hk) hlt)
end Foot
namespace Kd
def FK {α : Type} (d : Kd α) (W : World) (ok : Nat → Prop) (x : α) (c : List Value) : Prop := Foot (fun W => d.K W x c) W ok
end Kd
end Go.Proofs.YtjbcjcibnjbpcaaDoorW.PrintWords
namespace Go.Proofs.YtjbcjcibnjbpcaaDoorW.PrintWords
open Go.RowKit
namespace Kd
section
variable {α : Type} {d : Kd α} {e base n cc g : Nat} {ok ok' okp S : Nat → Prop} {w w1 W W1 : World} {A : Option Addr} {u v v1 : Value} {xs : List α} {x : α} {c : List Value}
def N {α : Type} (d : Kd α) (e : Nat) (w : World) (base : Nat) (ok : Nat → Prop) (v : Value) (xs : List α) : Prop :=
  (∀ k, v.ownBlock = some k → ok k) ∧ ∃ rows : List (List Value), rows.length = xs.length ∧ (raw d.sz).R e w base (fun k => some k = v.ownBlock) v rows ∧ ∀ (j : Nat) (x : α) (c : List Value), xs[j]? = some x → rows[j]? = some c → FK d w (fun k => ok k ∧ some k ≠ v.ownBlock) x c
end
end Kd
end Go.Proofs.YtjbcjcibnjbpcaaDoorW.PrintWords
namespace Go.Proofs.YtjbcjcibnjbpcaaDoorW.PrintWords
open Go.RowKit
namespace Kd
end Kd
end Go.Proofs.YtjbcjcibnjbpcaaDoorW.PrintWords
namespace Go.Proofs.YtjbcjcibnjbpcaaDoorW.PrintWords
open Go.RowKit
namespace Kd
end Kd
end Go.Proofs.YtjbcjcibnjbpcaaDoorW.PrintWords
namespace Go.Proofs.YtjbcjcibnjbpcaaDoorW.PrintWords
open Go.RowKit
end Go.Proofs.YtjbcjcibnjbpcaaDoorW.PrintWords
namespace Go.Proofs.YtjbcjcibnjbpcaaDoorW.PrintWords
theorem Reps.one {α : Type} {R : α → List Value → Prop} {ps : List α} {cs : List Value} {p : α} {v : Value} (hp : R p [v]) (h : Reps R 1 ps cs) : Reps R 1 (p :: ps) (v :: cs) := by
  refine ⟨by simp [h.1], fun j q hq => ?_⟩
  cases j with
  | zero =>
    simp only [List.getElem?_cons_zero, Option.some.injEq] at hq
    subst hq
    simpa using hp
  | succ j =>
    simp only [List.getElem?_cons_succ] at hq
    have h1 := h.2 j q hq
    simpa [Nat.mul_one] using h1
theorem Reps.front {α : Type} {R : α → List Value → Prop} {size : Nat} {ps : List α} {cs c all : List Value} {p : α} (hp : R p c) (hc : c.length = size) (h : Reps R size ps cs) (ha : c ++ cs = all) : Reps R size (p :: ps) all := by
  subst ha
  refine ⟨by rw [List.length_append, hc, h.1, List.length_cons, Nat.succ_mul, Nat.add_comm], fun j q hq => ?_⟩
  cases j with
  | zero =>
    simp only [List.getElem?_cons_zero, Option.some.injEq] at hq
    subst hq
    rw [Nat.zero_mul, List.drop_zero, List.take_append_of_le_length (by omega), List.take_of_length_le (by omega)]
    exact hp
  | succ j =>
    simp only [List.getElem?_cons_succ] at hq
    have h1 := h.2 j q hq
    rw [Nat.succ_mul, List.drop_append, List.drop_of_length_le (by rw [hc]; exact Nat.le_add_left _ _), List.nil_append, hc, Nat.add_sub_cancel]
    exact h1
theorem Reps.c2 {α : Type} {R : α → List Value → Prop} {ps : List α} {cs : List Value} {p : α} {va vb : Value} (hp : R p [va, vb]) (h : Reps R 2 ps cs) : Reps R 2 (p :: ps) (va :: vb :: cs) := Reps.front hp rfl h rfl
theorem Reps.c3 {α : Type} {R : α → List Value → Prop} {ps : List α} {cs : List Value} {p : α} {va vb vc : Value} (hp : R p [va, vb, vc]) (h : Reps R 3 ps cs) : Reps R 3 (p :: ps) (va :: vb :: vc :: cs) := Reps.front hp rfl h rfl
theorem Reps.c5 {α : Type} {R : α → List Value → Prop} {ps : List α} {cs : List Value} {p : α} {va vb vc vd ve : Value} (hp : R p [va, vb, vc, vd, ve]) (h : Reps R 5 ps cs) : Reps R 5 (p :: ps) (va :: vb :: vc :: vd :: ve :: cs) := Reps.front hp rfl h rfl
theorem Reps.c7 {α : Type} {R : α → List Value → Prop} {ps : List α} {cs : List Value} {p : α} {va vb vc vd ve vf vg : Value} (hp : R p [va, vb, vc, vd, ve, vf, vg]) (h : Reps R 7 ps cs) : Reps R 7 (p :: ps) (va :: vb :: vc :: vd :: ve :: vf :: vg :: cs) := Reps.front hp rfl h rfl
end Go.Proofs.YtjbcjcibnjbpcaaDoorW.PrintWords
namespace Go.Proofs.YtjbcjcibnjbpcaaDoorW.PrintLast
end Go.Proofs.YtjbcjcibnjbpcaaDoorW.PrintLast
namespace Go.Proofs.YtjbcjcibnjbpcaaDoorW.PrintWords
open Go.RowKit
end Go.Proofs.YtjbcjcibnjbpcaaDoorW.PrintWords
namespace Go.Proofs.YtjbcjcibnjbpcaaDoorW.PrintLast
end Go.Proofs.YtjbcjcibnjbpcaaDoorW.PrintLast
namespace Go.Proofs.YtjbcjcibnjbpcaaDoorW.PrintWords
open Go.RowKit
end Go.Proofs.YtjbcjcibnjbpcaaDoorW.PrintWords
namespace Go.Proofs.YtjbcjcibnjbpcaaDoorW.PrintWords
open Go.RowKit
namespace Kd
end Kd
end Go.Proofs.YtjbcjcibnjbpcaaDoorW.PrintWords
namespace Go.Proofs.YtjbcjcibnjbpcaaDoorW.PrintMore
open Go.RowKit Go.Proofs.YtjbcjcibnjbpcaaDoorW.PrintWords
namespace Kd
open Go.Proofs.YtjbcjcibnjbpcaaDoorW.PrintWords.Kd
end Kd
namespace Kd
open Go.Proofs.YtjbcjcibnjbpcaaDoorW.PrintWords.Kd
end Kd
end Go.Proofs.YtjbcjcibnjbpcaaDoorW.PrintMore
namespace Go.Proofs.YtjbcjcibnjbpcaaDoorW.PrintWords
open Go.RowKit
section
variable {P : Program} {ops : Array Oper} {rest : List Oper} {o : Oper} {a : Act} {Q : Exit → Act → World → Prop} {W : World}
theorem gate_callee {f : FuncId} {as_ : Array Operand} {ts : Array TypeId} (_ho : o.op = .call { callee := .value (.func f), args := as_, argTypes := ts }) (h : wpList P ops Q (o :: rest) a W) : wpList P ops Q (o :: rest) a W := h
end
namespace Kd
end Kd
end Go.Proofs.YtjbcjcibnjbpcaaDoorW.PrintWords
namespace Go.Proofs.YtjbcjcibnjbpcaaDoorW.PrintWords
open Go.RowKit
namespace Kd
end Kd
end Go.Proofs.YtjbcjcibnjbpcaaDoorW.PrintWords
namespace Go.Proofs.YtjbcjcibnjbpcaaDoor.PLexPrints
open Go.RowKit Go.Proofs.YtjbcjcibnjbpcaaDoorW.PrintWords Go.Proofs.YtjbcjcibnjbpcaaDoorW.PrintLast Go.Proofs.YtjbcjcibnjbpcaaDoorW.PrintMore
set_option linter.unusedVariables false
set_option linter.unusedSimpArgs false
def errW : Option Int → Value
  | none => .nilIface
  | some c => .iface 0 (.int .i64 c)
theorem errW_none : errW none = .nilIface := rfl
theorem errW_some (c : Int) : errW (some c) = .iface 0 (.int .i64 c) := rfl
end Go.Proofs.YtjbcjcibnjbpcaaDoor.PLexPrints
namespace Go.Proofs.YtjbcjcibnjbpcaaDoor.PLexPrints
open Go.RowKit Go.Proofs.YtjbcjcibnjbpcaaDoorW.PrintWords Go.Proofs.YtjbcjcibnjbpcaaDoorW.PrintLast Go.Proofs.YtjbcjcibnjbpcaaDoorW.PrintMore
set_option linter.unusedVariables false
set_option linter.unusedSimpArgs false
def bellowsref07_digits.f : Nat → Int → Option (ByteArray)
  | 0, _ => none
  | k + 1, a0 => if a0 < 0 then (if a0 = (-9223372036854775808) then (some (⟨#[45, 57, 50, 50, 51, 51, 55, 50, 48, 51, 54, 56, 53, 52, 55, 55, 53, 56, 48, 56]⟩ : ByteArray)) else ((bellowsref07_digits.f k (wrap64 (-a0))).bind fun t127 => (if 1 + t127.size ≤ 9223372036854775807 then (some ((⟨#[45]⟩ : ByteArray) ++ t127)) else (none)))) else (if a0 < 10 then (some (strOfNums (([(wrap64 (48 + a0)) % 256] : List Int)))) else ((bellowsref07_digits.f k (wrap64 (Int.tdiv a0 10))).bind fun t131 => ((some (([(wrap64 (48 + (Int.tmod a0 10))) % 256] : List Int) : List Int)).bind fun y132 => (if t131.size + (strOfNums y132).size ≤ 9223372036854775807 then (some (t131 ++ (strOfNums y132))) else (none)))))
def bellowsref07_digits.T7 : Bool × List (List Nat × List Nat) := (true, [([], []), ([0], [0]), ([1], [1]), ([], []), ([3], [3]), ([4], [4]), ([5], [5]), ([6], [6]), ([7], [7]), ([2, 8], [2, 8]), ([9, 2, 0, 1, 2, 3, 4, 5, 6, 7, 8, 9], [9])])
def bellowsref07_digits.B7 : List Nat := [0, 1, 3, 0, 8, 24, 56, 120, 248, 511, 1023]
theorem bellowsref07_digits.tab7 : rtab .any (opsOf Tryd.f30 7) = bellowsref07_digits.T7 := by kernel_rfl
theorem bellowsref07_digits.bits7 : waitsOk bellowsref07_digits.T7.2 bellowsref07_digits.B7 = true := by kernel_rfl
set_option maxHeartbeats 8000000 in
set_option maxRecDepth 100000 in
theorem bellowsref07_digits.calls (k : Nat) : ∀ (a0 : Int) (r : ByteArray) (w : World) (h : bellowsref07_digits.f k a0 = some r),
    Calls Tryd.prog 30 #[.int .i64 a0] w fun e w' => e = .returned (.string r) ∧ Below w.heap.size w w' := by
  induction k using Nat.strongRecOn with
  | _ k ih =>
  intro a0 r w h
  cases k with
  | zero => exact absurd h (by simp [bellowsref07_digits.f])
  | succ k =>
  simp only [bellowsref07_digits.f] at h
  have HB := Aside0.mk (Below.refl w.heap.size w)
  have H : (if a0 < 0 then (if a0 = (-9223372036854775808) then (some (⟨#[45, 57, 50, 50, 51, 51, 55, 50, 48, 51, 54, 56, 53, 52, 55, 55, 53, 56, 48, 56]⟩ : ByteArray)) else ((bellowsref07_digits.f k (wrap64 (-a0))).bind fun t127 => (if 1 + t127.size ≤ 9223372036854775807 then (some ((⟨#[45]⟩ : ByteArray) ++ t127)) else (none)))) else (if a0 < 10 then (some (strOfNums (([(wrap64 (48 + a0)) % 256] : List Int)))) else ((bellowsref07_digits.f k (wrap64 (Int.tdiv a0 10))).bind fun t131 => ((some (([(wrap64 (48 + (Int.tmod a0 10))) % 256] : List Int) : List Int)).bind fun y132 => (if t131.size + (strOfNums y132).size ≤ 9223372036854775807 then (some (t131 ++ (strOfNums y132))) else (none)))))) = some r := h
  clear h
  by_cases c2 : a0 < 0
  · rw [if_pos c2] at H
    have c2b0 : decide (a0 < 0) = true := decide_eq_true c2
    clear c2
    by_cases c3 : a0 = (-9223372036854775808)
    · rw [if_pos c3] at H
      have c3b0 : (a0 == (-9223372036854775808)) = true := beq_iff_eq.mpr c3
      have c3b1 : (a0 != (-9223372036854775808)) = false := bne_eq_false_iff_eq.mpr c3
      clear c3
      obtain rfl := Option.some.inj H
      go_enter Tryd.func30, Tryd.ntmps30
      go_wp2
      go_ret
      exact ⟨by first | rfl | (simp [errW_none, errW_some] <;> rfl) | (simp [*, errW_none, errW_some] <;> rfl), by repeat (first | (with_reducible first | exact HB.out | apply below_alloc | apply pw_below_drewN | apply below_drew1) | exact HB.out)⟩
    · rw [if_neg c3] at H
      have c3b0 : (a0 == (-9223372036854775808)) = false := beq_eq_false_iff_ne.mpr c3
      have c3b1 : (a0 != (-9223372036854775808)) = true := bne_iff_ne.mpr c3
      replace H := Option.bind_eq_some_iff.mp H
      obtain ⟨t127, A40, H⟩ := H
      replace H : (if 1 + t127.size ≤ 9223372036854775807 then (some ((⟨#[45]⟩ : ByteArray) ++ t127)) else (none)) = some r := H
      have A4 := Aside0.mk A40
      clear A40
      by_cases c5 : 1 + t127.size ≤ 9223372036854775807
      · rw [if_pos c5] at H
        have c5b0 := eq_true c5
        have c5b1 : decide (1 + t127.size ≤ 9223372036854775807) = true := decide_eq_true c5
        try have c5b2 : (9223372036854775807 < 1 + t127.size) = False := eq_false (Nat.not_lt.2 c5)
        obtain rfl := Option.some.inj H
        go_enter Tryd.func30, Tryd.ntmps30
        go_wp2_with (first | ((with_reducible refine gate_callee (f := 30) rfl ?_); refine goesL_ (some 9) rfl rfl Tryd.func30 (by kernel_rfl) rfl #[.int .i64 (wrap64 (-a0))] rfl (by (try simp only [List.map_toArray, List.map_cons, List.map_nil]); first | done | rfl | (simp only [List.length_drop, List.length_take]; rfl)) ?_; (with_reducible refine (ih k (by omega) (wrap64 (-a0)) t127 _ A4.out).mono ?_); rintro e w6 ⟨rfl, hb⟩; refine ⟨_, rfl, ?_⟩; have n0_ := Aside0.mk (below_step (by repeat (first | (with_reducible first | exact HB.out | apply below_alloc | apply pw_below_drewN | apply below_drew1) | exact HB.out)) hb); clear HB; have HB := n0_; clear n0_; (try clear hb); (try clear hb2); (try clear hk); (try clear hi)))
        go_ret
        exact ⟨by first | rfl | (simp [errW_none, errW_some] <;> rfl) | (simp [*, errW_none, errW_some] <;> rfl), by repeat (first | (with_reducible first | exact HB.out | apply below_alloc | apply pw_below_drewN | apply below_drew1) | exact HB.out)⟩
      · rw [if_neg c5] at H
        exact absurd H (by simp)
  · rw [if_neg c2] at H
    have c2b0 : decide (a0 < 0) = false := decide_eq_false c2
    clear c2
    by_cases c7 : a0 < 10
    · rw [if_pos c7] at H
      have c7b0 : decide (a0 < 10) = true := decide_eq_true c7
      clear c7
      obtain ⟨y128, hy128⟩ : ∃ y_ : List Int, y_ = (([(wrap64 (48 + a0)) % 256] : List Int)) := ⟨_, rfl⟩
      replace H : (some (strOfNums y128)) = some r := by first | (rw [hy128]; with_reducible exact H) | (have H2_ := (Option.bind_some _ _).symm.trans H; rw [hy128]; with_reducible exact H2_) | (have H2_ := (Option.bind_some _ _).symm.trans H; with_reducible exact H2_) | with_reducible exact H | (rw [hy128]; exact H) | exact H
      have Ny128 := Aside0.mk hy128
      clear hy128
      obtain rfl := Option.some.inj H
      go_enter Tryd.func30, Tryd.ntmps30
      go_wp2_with (first | ((with_reducible refine gate_dst (N := 16) rfl ?_); refine Kd.R_lit (Kd.int .u8) _ 5 ?hg (N := 16) ?hd (xs := ([(wrap64 (48 + a0)) % 256] : List Int)) (inner := [.int .u8 ((wrap64 (48 + a0)) % 256)]) (ok := fun _ => True) (okp := fun _ => True) ?hr ?hp (fun _ hk => hk) trivial (Below.refl _ _) (Nat.le_refl _) (by simp) ?_; (case hd => rfl); (case hg => rfl); (case hr => first | (go_simp; done) | (go_simp; rfl)); (case hp => exact (Reps.one (show Kd.M (Kd.int .u8) _ _ _ ((wrap64 (48 + a0)) % 256) [.int .u8 ((wrap64 (48 + a0)) % 256)] from rfl) (Reps.none _ _))); intro v129 w8 ho9 hb hg_ hnew_; clear hg_ hnew_; (first | rw [← Ny128.out] at ho9 | (simp only [Int.reduceToNat] at ho9; rw [← Ny128.out] at ho9)); have n0_ := Aside0.mk (Kd.R_lower ho9 (below_size (by repeat (first | (with_reducible first | exact HB.out | apply below_alloc | apply pw_below_drewN | apply below_drew1) | exact HB.out)))); have n1_ := Aside0.mk (below_step (by repeat (first | (with_reducible first | exact HB.out | apply below_alloc | apply pw_below_drewN | apply below_drew1) | exact HB.out)) hb); clear HB; have HO130 := n0_; have HB := n1_; clear n0_ n1_; clear hb ho9; have hcv10 := own_string (P := Tryd.prog) Tryd.underlying40 Tryd.underlying5 Tryd.underlying9 (Kd.own_of_R HO130.out)))
      go_ret
      exact ⟨by first | rfl | (simp [errW_none, errW_some] <;> rfl) | (simp [*, errW_none, errW_some] <;> rfl), by repeat (first | (with_reducible first | exact HB.out | apply below_alloc | apply pw_below_drewN | apply below_drew1) | exact HB.out)⟩
    · rw [if_neg c7] at H
      have c7b0 : decide (a0 < 10) = false := decide_eq_false c7
      clear c7
      replace H := Option.bind_eq_some_iff.mp H
      obtain ⟨t131, A110, H⟩ := H
      replace H : ((some (([(wrap64 (48 + (Int.tmod a0 10))) % 256] : List Int) : List Int)).bind fun y132 => (if t131.size + (strOfNums y132).size ≤ 9223372036854775807 then (some (t131 ++ (strOfNums y132))) else (none))) = some r := H
      have A11 := Aside0.mk A110
      clear A110
      obtain ⟨y132, hy132⟩ : ∃ y_ : List Int, y_ = (([(wrap64 (48 + (Int.tmod a0 10))) % 256] : List Int)) := ⟨_, rfl⟩
      replace H : (if t131.size + (strOfNums y132).size ≤ 9223372036854775807 then (some (t131 ++ (strOfNums y132))) else (none)) = some r := by first | (rw [hy132]; with_reducible exact H) | (have H2_ := (Option.bind_some _ _).symm.trans H; rw [hy132]; with_reducible exact H2_) | (have H2_ := (Option.bind_some _ _).symm.trans H; with_reducible exact H2_) | with_reducible exact H | (rw [hy132]; exact H) | exact H
      have Ny132 := Aside0.mk hy132
      clear hy132
      by_cases c12 : t131.size + (strOfNums y132).size ≤ 9223372036854775807
      · rw [if_pos c12] at H
        have c12b0 := eq_true c12
        have c12b1 : decide (t131.size + (strOfNums y132).size ≤ 9223372036854775807) = true := decide_eq_true c12
        try have c12b2 : (9223372036854775807 < t131.size + (strOfNums y132).size) = False := eq_false (Nat.not_lt.2 c12)
        obtain rfl := Option.some.inj H
        go_enter Tryd.func30, Tryd.ntmps30
        try go_wp2
        have n0_ := Aside0.mk (below_drew1 HB.out)
        clear HB
        have HB := n0_
        clear n0_
        refine start_ (n := 11) (S := fun w' => True) (ds := []) #[false, false, false, false, false, false, false, false, false, false, false] (by kernel_rfl) rfl rfl trivial (fun hHeld => ?_); refine with_tabW bellowsref07_digits.tab7 bellowsref07_digits.bits7 (fun HT_ HW_ => ?_)
        generalize w.drew = w13 at HB hHeld ⊢
        refine pure_ (i := 0) (N := some 18) (v := ?_) (a' := ?_) #[true, false, false, false, false, false, false, false, false, false, false] rfl rfl (any_of HT_.out (by kernel_rfl)) (fun _ _ _ h => h) (Or.inl ⟨by rfl, ?_⟩) ?_ ?_
        rotate_left
        · intro w'
          go_simp
          with_reducible rfl
        rotate_left
        · simp only [Act.put, List.setIfInBounds_toArray, List.set_cons_zero, List.set_cons_succ, i64_w, i32_w]
          rfl
        refine pure_ (i := 1) (N := some 19) (v := ?_) (a' := ?_) #[true, true, false, false, false, false, false, false, false, false, false] rfl rfl (any_of HT_.out (by kernel_rfl)) (fun _ _ _ h => h) (Or.inl ⟨by rfl, ?_⟩) ?_ ?_
        rotate_left
        · intro w'
          go_simp
          with_reducible rfl
        rotate_left
        · simp only [Act.put, List.setIfInBounds_toArray, List.set_cons_zero, List.set_cons_succ, i64_w, i32_w]
          rfl
        refine pure_ (i := 3) (N := some 21) (v := ?_) (a' := ?_) #[true, true, false, true, false, false, false, false, false, false, false] rfl rfl (any_of HT_.out (by kernel_rfl)) (fun _ _ _ h => h) (Or.inl ⟨by rfl, ?_⟩) ?_ ?_
        rotate_left
        · intro w'
          go_simp
          with_reducible rfl
        rotate_left
        · simp only [Act.put, List.setIfInBounds_toArray, List.set_cons_zero, List.set_cons_succ, i64_w, i32_w]
          rfl
        refine pure_ (i := 4) (N := some 22) (v := ?_) (a' := ?_) #[true, true, false, true, true, false, false, false, false, false, false] rfl rfl (any_of HT_.out (by kernel_rfl)) (fun _ _ _ h => h) (Or.inl ⟨by rfl, ?_⟩) ?_ ?_
        rotate_left
        · intro w'
          go_simp
          with_reducible rfl
        rotate_left
        · simp only [Act.put, List.setIfInBounds_toArray, List.set_cons_zero, List.set_cons_succ, i64_w, i32_w]
          rfl
        refine pure_ (i := 5) (N := some 23) (v := ?_) (a' := ?_) #[true, true, false, true, true, true, false, false, false, false, false] rfl rfl (any_of HT_.out (by kernel_rfl)) (fun _ _ _ h => h) (Or.inl ⟨by rfl, ?_⟩) ?_ ?_
        rotate_left
        · intro w'
          go_simp
          with_reducible rfl
        rotate_left
        · simp only [Act.put, List.setIfInBounds_toArray, List.set_cons_zero, List.set_cons_succ, i64_w, i32_w]
          rfl
        refine pure_ (i := 6) (N := some 24) (v := ?_) (a' := ?_) #[true, true, false, true, true, true, true, false, false, false, false] rfl rfl (any_of HT_.out (by kernel_rfl)) (fun _ _ _ h => h) (Or.inl ⟨by rfl, ?_⟩) ?_ ?_
        rotate_left
        · intro w'
          go_simp
          with_reducible rfl
        rotate_left
        · simp only [Act.put, List.setIfInBounds_toArray, List.set_cons_zero, List.set_cons_succ, i64_w, i32_w]
          rfl
        refine join_ (σ := Value) 2 #[true, true, true, true, true, true, true, true, true, false, false] (fun s_ => [(20, .string t131), (25, s_), (26, .string (strOfNums y132))]) (fun s_ w' => (Kd.R (Kd.int .u8) 5 w' w.heap.size (fun _ => True) s_ y132) ∧ (Below w.heap.size w w')) ?_ ?_
        rotate_left
        · intro hCont
          refine two_ (i := 2) (j := 7) (Ni := some 20) (Nj := some 25) #[true, true, true, true, true, true, true, false, false, false, false] #[true, true, false, true, true, true, true, true, false, false, false] rfl rfl rfl rfl (two_of HT_.out (by kernel_rfl)) (by decide) (by decide) (fun K hK => ?_) (fun K hK => ?_)
          · skip
            refine goes_ Tryd.func30 (by kernel_rfl) rfl #[.int .i64 (wrap64 (Int.tdiv a0 10))] (by rfl) rfl rfl (by (try simp only [List.map_toArray, List.map_cons, List.map_nil]); first | done | rfl | (simp only [List.length_drop, List.length_take]; rfl)) ?_
            with_reducible refine (ih k (by omega) (wrap64 (Int.tdiv a0 10)) t131 _ A11.out).mono ?_
            rintro e w14 ⟨rfl, hb⟩
            refine ⟨_, rfl, ?_⟩
            have n0_ := Aside0.mk (below_step (by repeat (first | (with_reducible first | exact HB.out | apply below_alloc | apply pw_below_drewN | apply below_drew1) | exact HB.out)) hb)
            clear HB
            have HB := n0_
            clear n0_
            (try clear hb)
            (try clear hb2)
            (try clear hk)
            (try clear hi)
            refine hK.out _ _ trivial (fun hHeld => ?_)
            clear hK K
            refine norm_ (a' := ?_) ?_ ?_
            rotate_left
            · show Act.put _ (some 20) _ = _
              simp only [Act.put, List.setIfInBounds_toArray, List.set_cons_zero, List.set_cons_succ, i64_w, i32_w]
              rfl
            refine one_ (i := 7) (N := some 25) #[true, true, true, true, true, true, true, true, false, false, false] rfl rfl (one_of HT_.out (by kernel_rfl)) (by decide) (fun K hK => ?_)
            refine Kd.R_lit_step (Kd.int .u8) _ 5 ?hg (N := 25) ?hd (xs := ([(wrap64 (48 + (Int.tmod a0 10))) % 256] : List Int)) (inner := [.int .u8 ((wrap64 (48 + (Int.tmod a0 10))) % 256)]) (ok := fun _ => True) (okp := fun _ => True) ?hr ?hp (fun _ hk => hk) trivial (Below.refl _ _) (Nat.le_refl _) (by simp) ?_; (case hd => rfl); (case hg => rfl); (case hr => first | (go_simp; done) | (go_simp; rfl)); (case hp => exact (Reps.one (show Kd.M (Kd.int .u8) _ _ _ ((wrap64 (48 + (Int.tmod a0 10))) % 256) [.int .u8 ((wrap64 (48 + (Int.tmod a0 10))) % 256)] from rfl) (Reps.none _ _)))
            intro v133 w15 ho16 hb hg_ hnew_
            clear hg_ hnew_
            (first | rw [← Ny132.out] at ho16 | (simp only [Int.reduceToNat] at ho16; rw [← Ny132.out] at ho16))
            have n0_ := Aside0.mk (Kd.R_lower ho16 (below_size (by repeat (first | (with_reducible first | exact HB.out | apply below_alloc | apply pw_below_drewN | apply below_drew1) | exact HB.out))))
            have n1_ := Aside0.mk (below_step (by repeat (first | (with_reducible first | exact HB.out | apply below_alloc | apply pw_below_drewN | apply below_drew1) | exact HB.out)) hb)
            clear HB
            have HO134 := n0_
            have HB := n1_
            clear n0_ n1_
            clear hb ho16
            refine hK.out _ _ trivial (fun hHeld => ?_)
            clear hK K
            refine norm_ (a' := ?_) ?_ ?_
            rotate_left
            · show Act.put _ (some 25) _ = _
              simp only [Act.put, List.setIfInBounds_toArray, List.set_cons_zero, List.set_cons_succ, i64_w, i32_w]
              rfl
            refine one_ (i := 8) (N := some 26) #[true, true, true, true, true, true, true, true, true, false, false] rfl rfl (one_of HT_.out (by kernel_rfl)) (by decide) (fun K hK => ?_)
            have hcv17 := own_string (P := Tryd.prog) Tryd.underlying40 Tryd.underlying5 Tryd.underlying9 (Kd.own_of_R HO134.out)
            refine value_ (w1 := ?_) (v := ?_) (by rfl) rfl ?_ ?_
            rotate_left 2
            · go_simp
              constructor
              · rfl
              · rfl
            clear hcv17
            refine hK.out _ _ trivial (fun hHeld => ?_)
            clear hK K
            refine norm_ (a' := ?_) ?_ ?_
            rotate_left
            · show Act.put _ (some 26) _ = _
              simp only [Act.put, List.setIfInBounds_toArray, List.set_cons_zero, List.set_cons_succ, i64_w, i32_w]
              rfl
            exact norm_ (by simp only [putAll, Act.put, List.setIfInBounds_toArray, List.set_cons_zero, List.set_cons_succ]) (hCont (v133) _ ⟨(by (with_reducible repeat (first | apply Kd.R_alloc | apply Kd.R_drewN | apply Kd.R_drew)); exact HO134.out), (by repeat (first | (with_reducible first | exact HB.out | apply below_alloc | apply pw_below_drewN | apply below_drew1) | exact HB.out))⟩)
          · skip
            refine Kd.R_lit_step (Kd.int .u8) _ 5 ?hg (N := 25) ?hd (xs := ([(wrap64 (48 + (Int.tmod a0 10))) % 256] : List Int)) (inner := [.int .u8 ((wrap64 (48 + (Int.tmod a0 10))) % 256)]) (ok := fun _ => True) (okp := fun _ => True) ?hr ?hp (fun _ hk => hk) trivial (Below.refl _ _) (Nat.le_refl _) (by simp) ?_; (case hd => rfl); (case hg => rfl); (case hr => first | (go_simp; done) | (go_simp; rfl)); (case hp => exact (Reps.one (show Kd.M (Kd.int .u8) _ _ _ ((wrap64 (48 + (Int.tmod a0 10))) % 256) [.int .u8 ((wrap64 (48 + (Int.tmod a0 10))) % 256)] from rfl) (Reps.none _ _)))
            intro v133 w14 ho15 hb hg_ hnew_
            clear hg_ hnew_
            (first | rw [← Ny132.out] at ho15 | (simp only [Int.reduceToNat] at ho15; rw [← Ny132.out] at ho15))
            have n0_ := Aside0.mk (Kd.R_lower ho15 (below_size (by repeat (first | (with_reducible first | exact HB.out | apply below_alloc | apply pw_below_drewN | apply below_drew1) | exact HB.out))))
            have n1_ := Aside0.mk (below_step (by repeat (first | (with_reducible first | exact HB.out | apply below_alloc | apply pw_below_drewN | apply below_drew1) | exact HB.out)) hb)
            clear HB
            have HO134 := n0_
            have HB := n1_
            clear n0_ n1_
            clear hb ho15
            refine hK.out _ _ trivial (fun hHeld => ?_)
            clear hK K
            refine norm_ (a' := ?_) ?_ ?_
            rotate_left
            · show Act.put _ (some 25) _ = _
              simp only [Act.put, List.setIfInBounds_toArray, List.set_cons_zero, List.set_cons_succ, i64_w, i32_w]
              rfl
            refine two_ (i := 2) (j := 8) (Ni := some 20) (Nj := some 26) #[true, true, true, true, true, true, true, true, false, false, false] #[true, true, false, true, true, true, true, true, true, false, false] rfl rfl rfl rfl (two_of HT_.out (by kernel_rfl)) (by decide) (by decide) (fun K hK => ?_) (fun K hK => ?_)
            · skip
              refine goes_ Tryd.func30 (by kernel_rfl) rfl #[.int .i64 (wrap64 (Int.tdiv a0 10))] (by rfl) rfl rfl (by (try simp only [List.map_toArray, List.map_cons, List.map_nil]); first | done | rfl | (simp only [List.length_drop, List.length_take]; rfl)) ?_
              with_reducible refine (ih k (by omega) (wrap64 (Int.tdiv a0 10)) t131 _ A11.out).mono ?_
              rintro e w16 ⟨rfl, hb⟩
              refine ⟨_, rfl, ?_⟩
              have n0_ := Aside0.mk (Kd.R_below (by (with_reducible repeat (first | apply Kd.R_alloc | apply Kd.R_drewN | apply Kd.R_drew)); exact HO134.out) hb)
              have n1_ := Aside0.mk (below_step (by repeat (first | (with_reducible first | exact HB.out | apply below_alloc | apply pw_below_drewN | apply below_drew1) | exact HB.out)) hb)
              clear HO134
              clear HB
              have HO134 := n0_
              have HB := n1_
              clear n0_ n1_
              (try clear hb)
              (try clear hb2)
              (try clear hk)
              (try clear hi)
              refine hK.out _ _ trivial (fun hHeld => ?_)
              clear hK K
              refine norm_ (a' := ?_) ?_ ?_
              rotate_left
              · show Act.put _ (some 20) _ = _
                simp only [Act.put, List.setIfInBounds_toArray, List.set_cons_zero, List.set_cons_succ, i64_w, i32_w]
                rfl
              refine one_ (i := 8) (N := some 26) #[true, true, true, true, true, true, true, true, true, false, false] rfl rfl (one_of HT_.out (by kernel_rfl)) (by decide) (fun K hK => ?_)
              have hcv17 := own_string (P := Tryd.prog) Tryd.underlying40 Tryd.underlying5 Tryd.underlying9 (Kd.own_of_R HO134.out)
              refine value_ (w1 := ?_) (v := ?_) (by rfl) rfl ?_ ?_
              rotate_left 2
              · go_simp
                constructor
                · rfl
                · rfl
              clear hcv17
              refine hK.out _ _ trivial (fun hHeld => ?_)
              clear hK K
              refine norm_ (a' := ?_) ?_ ?_
              rotate_left
              · show Act.put _ (some 26) _ = _
                simp only [Act.put, List.setIfInBounds_toArray, List.set_cons_zero, List.set_cons_succ, i64_w, i32_w]
                rfl
              exact norm_ (by simp only [putAll, Act.put, List.setIfInBounds_toArray, List.set_cons_zero, List.set_cons_succ]) (hCont (v133) _ ⟨(by (with_reducible repeat (first | apply Kd.R_alloc | apply Kd.R_drewN | apply Kd.R_drew)); exact HO134.out), (by repeat (first | (with_reducible first | exact HB.out | apply below_alloc | apply pw_below_drewN | apply below_drew1) | exact HB.out))⟩)
            · skip
              have hcv16 := own_string (P := Tryd.prog) Tryd.underlying40 Tryd.underlying5 Tryd.underlying9 (Kd.own_of_R HO134.out)
              refine value_ (w1 := ?_) (v := ?_) (by rfl) rfl ?_ ?_
              rotate_left 2
              · go_simp
                constructor
                · rfl
                · rfl
              clear hcv16
              refine hK.out _ _ trivial (fun hHeld => ?_)
              clear hK K
              refine norm_ (a' := ?_) ?_ ?_
              rotate_left
              · show Act.put _ (some 26) _ = _
                simp only [Act.put, List.setIfInBounds_toArray, List.set_cons_zero, List.set_cons_succ, i64_w, i32_w]
                rfl
              refine one_ (i := 2) (N := some 20) #[true, true, true, true, true, true, true, true, true, false, false] rfl rfl (one_of HT_.out (by kernel_rfl)) (by decide) (fun K hK => ?_)
              refine goes_ Tryd.func30 (by kernel_rfl) rfl #[.int .i64 (wrap64 (Int.tdiv a0 10))] (by rfl) rfl rfl (by (try simp only [List.map_toArray, List.map_cons, List.map_nil]); first | done | rfl | (simp only [List.length_drop, List.length_take]; rfl)) ?_
              with_reducible refine (ih k (by omega) (wrap64 (Int.tdiv a0 10)) t131 _ A11.out).mono ?_
              rintro e w17 ⟨rfl, hb⟩
              refine ⟨_, rfl, ?_⟩
              have n0_ := Aside0.mk (Kd.R_below (by (with_reducible repeat (first | apply Kd.R_alloc | apply Kd.R_drewN | apply Kd.R_drew)); exact HO134.out) hb)
              have n1_ := Aside0.mk (below_step (by repeat (first | (with_reducible first | exact HB.out | apply below_alloc | apply pw_below_drewN | apply below_drew1) | exact HB.out)) hb)
              clear HO134
              clear HB
              have HO134 := n0_
              have HB := n1_
              clear n0_ n1_
              (try clear hb)
              (try clear hb2)
              (try clear hk)
              (try clear hi)
              refine hK.out _ _ trivial (fun hHeld => ?_)
              clear hK K
              refine norm_ (a' := ?_) ?_ ?_
              rotate_left
              · show Act.put _ (some 20) _ = _
                simp only [Act.put, List.setIfInBounds_toArray, List.set_cons_zero, List.set_cons_succ, i64_w, i32_w]
                rfl
              exact norm_ (by simp only [putAll, Act.put, List.setIfInBounds_toArray, List.set_cons_zero, List.set_cons_succ]) (hCont (v133) _ ⟨(by (with_reducible repeat (first | apply Kd.R_alloc | apply Kd.R_drewN | apply Kd.R_drew)); exact HO134.out), (by repeat (first | (with_reducible first | exact HB.out | apply below_alloc | apply pw_below_drewN | apply below_drew1) | exact HB.out))⟩)
        rintro v133 w18 ⟨h0_, h1_⟩
        have n0_ : Aside0 (Kd.R (Kd.int .u8) 5 w18 w.heap.size (fun _ => True) v133 y132) := ⟨h0_⟩
        have n1_ : Aside0 (Below w.heap.size w w18) := ⟨h1_⟩
        clear HB
        clear h0_ h1_
        have HO134 := n0_
        have HB := n1_
        clear n0_ n1_
        have hHeld := trivial
        refine norm_ (a' := ?_) ?_ ?_
        rotate_left
        · simp only [putAll, Act.put, List.setIfInBounds_toArray, List.set_cons_zero, List.set_cons_succ]
          rfl
        refine pure_ (i := 9) (N := some 27) (v := ?_) (a' := ?_) #[true, true, true, true, true, true, true, true, true, true, false] rfl rfl (any_of HT_.out (by kernel_rfl)) (fun _ _ _ h => h) (Or.inl ⟨by rfl, ?_⟩) ?_ ?_
        rotate_left
        · intro w'
          go_simp
          with_reducible rfl
        rotate_left
        · simp only [Act.put, List.setIfInBounds_toArray, List.set_cons_zero, List.set_cons_succ, i64_w, i32_w]
          rfl
        refine pure_ (i := 10) (N := some 2) (v := ?_) (a' := ?_) #[true, true, true, true, true, true, true, true, true, true, true] rfl rfl (any_of HT_.out (by kernel_rfl)) (fun _ _ _ h => h) (Or.inl ⟨by rfl, ?_⟩) ?_ ?_
        rotate_left
        · intro w'
          go_simp
          with_reducible rfl
        rotate_left
        · simp only [Act.put, List.setIfInBounds_toArray, List.set_cons_zero, List.set_cons_succ, i64_w, i32_w]
          rfl
        refine done_ (done_of HT_.out (by kernel_rfl)) ?_
        try go_wp2
        go_ret
        exact ⟨by first | rfl | (simp [errW_none, errW_some] <;> rfl) | (simp [*, errW_none, errW_some] <;> rfl), by repeat (first | (with_reducible first | exact HB.out | apply below_alloc | apply pw_below_drewN | apply below_drew1) | exact HB.out)⟩
      · rw [if_neg c12] at H
        exact absurd H (by simp)
end Go.Proofs.YtjbcjcibnjbpcaaDoor.PLexPrints
namespace Go.Proofs.YtjbcjcibnjbpcaaDoor.Idl
open Go
/-- What the hooks lean on: strconv's table of powers of ten. -/
def invT (w : World) : Prop := Lib.TabIs Tryd.prog w "internal/strconv.uint64pow10" .u64 Lib.pow10Tab
theorem dec_len : ∀ (k n : Nat), n < k → (Lib.decDigits n).length ≤ n / 5 + 1 := by
  intro k
  induction k with
  | zero => intro n h; omega
  | succ k ih =>
    intro n h
    rw [Lib.decDigits]
    split
    · simp
    · have := ih (n / 10) (by omega)
      rw [List.length_append]
      simp
      omega
theorem wr64 (x : Int) (h0 : -9223372036854775808 ≤ x) (h1 : x ≤ 9223372036854775807) : RowKit.wrap64 x = x := by unfold RowKit.wrap64; omega
theorem dig_nat : ∀ (k n : Nat), n < 10 ^ (k + 1) → n < 9223372036854775808 → PLexPrints.bellowsref07_digits.f (k + 1) (n : Int) = some ⟨(Lib.decDigits n).toArray⟩ := by
  intro k
  induction k with
  | zero =>
    intro n h hn
    simp only [PLexPrints.bellowsref07_digits.f]
    rw [if_neg (by omega), if_pos (by omega), wr64 _ (by omega) (by omega), Lib.decDigits_one (by omega)]
    simp only [strOfNums, List.map_cons, List.map_nil]
    rw [show ((48 + (n : Int)) % 256).toNat = 48 + n by omega]
  | succ k ih =>
    intro n h hn
    rw [PLexPrints.bellowsref07_digits.f]
    by_cases h10 : n < 10
    · rw [if_neg (by omega), if_pos (by omega), wr64 _ (by omega) (by omega), Lib.decDigits_one h10]
      simp only [strOfNums, List.map_cons, List.map_nil]
      rw [show ((48 + (n : Int)) % 256).toNat = 48 + n by omega]
    · have e1 : Int.tdiv (n : Int) 10 = ((n / 10 : Nat) : Int) := by rw [Int.tdiv_eq_ediv_of_nonneg (by omega)]; omega
      have e2 : Int.tmod (n : Int) 10 = ((n % 10 : Nat) : Int) := by rw [Int.tmod_eq_emod_of_nonneg (by omega)]; omega
      rw [if_neg (by omega), if_neg (by omega), e1, e2, wr64 ((n / 10 : Nat) : Int) (by omega) (by omega), ih (n / 10) (by rw [Nat.pow_succ] at h; omega) (by omega), wr64 _ (by omega) (by omega)]
      simp only [Option.bind_some]
      have hl := dec_len (n / 10 + 1) (n / 10) (by omega)
      have hs1 : (ByteArray.mk (Lib.decDigits (n / 10)).toArray).size = (Lib.decDigits (n / 10)).length := by show (Lib.decDigits (n / 10)).toArray.size = _; simp
      have hs2 : (strOfNums [(48 + ((n % 10 : Nat) : Int)) % 256]).size = 1 := rfl
      rw [if_pos (by rw [hs1, hs2]; omega)]
      conv => rhs; rw [Lib.decDigits]
      rw [dif_neg h10]
      congr 1
      apply ByteArray.ext
      rw [ByteArray.data_append]
      simp only [strOfNums, List.map_cons, List.map_nil]
      rw [show ((48 + ((n % 10 : Nat) : Int)) % 256).toNat = 48 + n % 10 by omega]
      simp
theorem dig_int (n : Int) (h0 : -9223372036854775808 ≤ n) (h1 : n ≤ 9223372036854775807) : PLexPrints.bellowsref07_digits.f 21 n = some ⟨(Lib.itoa n).toArray⟩ := by
  by_cases hneg : n < 0
  · by_cases hmin : n = -9223372036854775808
    · subst hmin
      rw [PLexPrints.bellowsref07_digits.f, if_pos hneg, if_pos rfl]
      simp [Lib.itoa, Lib.decDigits]
    · obtain ⟨m, rfl⟩ : ∃ m : Nat, n = -(m : Int) := ⟨n.natAbs, by omega⟩
      rw [PLexPrints.bellowsref07_digits.f, if_pos hneg, if_neg hmin, Int.neg_neg, wr64 _ (by omega) (by omega), dig_nat 19 m (by omega) (by omega)]
      simp only [Option.bind_some]
      have hl := dec_len (m + 1) m (by omega)
      have hs1 : (ByteArray.mk (Lib.decDigits m).toArray).size = (Lib.decDigits m).length := by show (Lib.decDigits m).toArray.size = _; simp
      rw [Lib.itoa_neg m (by omega)]
      rw [if_pos (by rw [hs1]; omega)]
      congr 1
  · obtain ⟨m, rfl⟩ : ∃ m : Nat, n = (m : Int) := ⟨n.toNat, by omega⟩
    rw [dig_nat 20 m (by omega) (by omega), Lib.itoa_nonneg]
def hookT (f : FuncId) (vs : List Value) : Option Value :=
  if f = 27 then match vs with
    | [.int .i64 n, .int .i64 b] => if b = 10 ∧ -9223372036854775808 ≤ n ∧ n ≤ 9223372036854775807 then some (.string ⟨(Lib.itoa n).toArray⟩) else none
    | _ => none
  else if f = 30 then match vs with
    | [.int .i64 n] => if -9223372036854775808 ≤ n ∧ n ≤ 9223372036854775807 then some (.string ⟨(Lib.itoa n).toArray⟩) else none
    | _ => none
  else none
theorem hookT_ok : ∀ f vs v, hookT f vs = some v → flat v = true ∧ vs.all flat = true ∧ ∀ w, invT w → Calls Tryd.prog f vs.toArray w fun e w' => e = .returned v ∧ RowKit.Below w.heap.size w w' := by
  intro f vs v h
  unfold hookT at h
  split at h
  · rename_i hf
    subst hf
    split at h
    · split at h
      · rename_i n b hc
        obtain ⟨rfl, h0, h1⟩ := hc
        cases h
        exact ⟨rfl, rfl, fun w hw => fmt27 n h0 h1 w hw⟩
      · cases h
    · cases h
  · split at h
    · rename_i hf
      subst hf
      split at h
      · split at h
        · rename_i n hc
          cases h
          exact ⟨rfl, rfl, fun w hw => PLexPrints.bellowsref07_digits.calls 21 n _ w (dig_int n hc.1 hc.2)⟩
        · cases h
      · cases h
    · cases h
end Go.Proofs.YtjbcjcibnjbpcaaDoor.Idl
