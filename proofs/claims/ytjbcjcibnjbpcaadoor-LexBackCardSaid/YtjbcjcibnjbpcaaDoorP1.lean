/- The ideal machine: code, calls; what they come to, the model's program comes to. -/
import Derived.Test.YtjbcjcibnjbpcaaDoorP0
import Derived.Laws.StructEq
import Derived.Shelf.Strconv.Itoa4
import Derived.Test.YtjbcjcibnjbpcaaDoorChecked
import Derived.Below
import Derived.KernelRfl
namespace Go.Proofs.YtjbcjcibnjbpcaaDoor.Idl
open Go Go.RowKit

def icode (J : Env) (call : CallR) : Nat → Code → Regs → IH → Option (IX × Regs × IH)
  | 0, _, _, _ => none
  | k + 1, c, T, H => match c with
    | .skip => some (.normal, T, H)
    | .label _ => some (.normal, T, H)
    | .region _ ops draw => if draw then idraw J call ops T H else iops J call ops ops.toList T H
    | .seq a b => match icode J call k a T H with
      | some (.normal, T', H') => icode J call k b T' H'
      | r => r
    | .cond c x y => match iev T c with
      | .bool true => icode J call k x T H
      | .bool false => icode J call k y T H
      | _ => none
    | .block id body => match icode J call k body T H with
      | some (.exit id', T', H') => if id' = id then some (.normal, T', H') else some (.exit id', T', H')
      | r => r
    | .loop body => match icode J call k body T H with
      | some (.normal, T', H') => icode J call k (.loop body) T' H'
      | r => r
    | .exit id => some (.exit id, T, H)
    | .ret => some (.ret, T, H)
    | _ => none
def codeOk (J : Env) (N : Nat) : Code → Bool
  | .region _ ops draw => ops.all (opOk J N) && (!draw || regionOk J ops)
  | .seq a b => codeOk J N a && codeOk J N b
  | .cond c x y => operandOk J c && codeOk J N x && codeOk J N y
  | .block _ c => codeOk J N c
  | .loop c => codeOk J N c
  | _ => true
def icall (J : Env) (okf : FuncId → Bool) : Nat → CallR
  | 0, _, _, _ => none
  | k + 1, f, args, H => match J.hook f args.toList with
    | some v => some (.ret v, H)
    | none => if okf f then
      match J.fn f with
      | some fn => match fn.body with
        | some c => if args.size ≤ fn.ntmps then
            match icode J (icall J okf k) k c (regsOf args.toList 0 .leaf) H with
            | some (.normal, T', H') => (iresults J fn T' H').map fun v => (.ret v, H')
            | some (.ret, T', H') => (iresults J fn T' H').map fun v => (.ret v, H')
            | some (.pan v, _, H') => some (.pan v, H')
            | _ => none
          else none
        | none => none
      | none => none
    else none

section
variable {J : Env} {B : Nat}
theorem CodePost.trans {ι ι1 : Emb} {n n1 : Nat} {w w1 : World} {a a1 : Act} {x : IX} {T' : Regs} {H' : IH} (h1 : Ext ι n ι1 n1) (h2 : Below B w w1) (h3 : a1.defers = a.defers) (h4 : a1.tmps.size = a.tmps.size) {e : Exit} {a' : Act} {w' : World}
    (h : CodePost J B ι1 n1 w1 a1 x T' H' e a' w') : CodePost J B ι n w a x T' H' e a' w' := by
  obtain ⟨ι2, v, q1, q2, q3, q4, q5, q6, q7⟩ := h
  exact ⟨ι2, v, q1, q2, h1.trans q3, h2.trans q4, q5.trans h3, q6.trans h4, q7⟩
theorem icode_wp {call : CallR} (hm : J.P.follows .mixedOrders = true) (hcall : CallSound J B call) : ∀ (k : Nat),
    (∀ (c : Code) (ι : Emb) (H : IH) (w : World) (T : Regs) (a : Act) (x : IX) (T' : Regs) (H' : IH), Sim J B ι H w → RegsRel ι H.next T a.tmps → codeOk J a.tmps.size c = true → icode J call k c T H = some (x, T', H') →
      c.wp J.P (CodePost J B ι H.next w a x T' H') a w) ∧
    (∀ (c : Code) (ι : Emb) (H : IH) (w : World) (T : Regs) (a : Act) (x : IX) (T' : Regs) (H' : IH), Sim J B ι H w → RegsRel ι H.next T a.tmps → codeOk J a.tmps.size c = true → icode J call k (.loop c) T H = some (x, T', H') →
      ∀ (b : Frame) (kk : List Item) (cs : List Frame), ∃ e a' w', CodePost J B ι H.next w a x T' H' e a' w' ∧ Arrives J.P (lone (b.at a (.code c :: .inLoop c :: kk)) cs w) b kk cs e a' w') := by
  intro k
  induction k with
  | zero => exact ⟨fun c ι H w T a x T' H' _ _ _ h => by simp [icode] at h, fun c ι H w T a x T' H' _ _ _ h => by simp [icode] at h⟩
  | succ k ih =>
    have hloop : ∀ (c : Code) (ι : Emb) (H : IH) (w : World) (T : Regs) (a : Act) (x : IX) (T' : Regs) (H' : IH), Sim J B ι H w → RegsRel ι H.next T a.tmps → codeOk J a.tmps.size c = true → icode J call (k + 1) (.loop c) T H = some (x, T', H') →
      ∀ (b : Frame) (kk : List Item) (cs : List Frame), ∃ e a' w', CodePost J B ι H.next w a x T' H' e a' w' ∧ Arrives J.P (lone (b.at a (.code c :: .inLoop c :: kk)) cs w) b kk cs e a' w' := by
      intro c ι H w T a x T' H' hS hR hok h b kk cs
      simp only [icode] at h
      cases hb : icode J call k c T H with
      | none => simp [hb] at h
      | some r =>
        obtain ⟨x1, T1, H1⟩ := r
        obtain ⟨e, a1, w1, ⟨ι1, v, q1, q2, q3, q4, q5, q6, q7⟩, harr⟩ := ih.1 c ι H w T a x1 T1 H1 hS hR hok hb b (.inLoop c :: kk) cs
        subst q1
        cases x1 with
        | normal =>
          simp only [hb] at h
          obtain ⟨e2, a2, w2, p1, p2⟩ := ih.2 c ι1 H1 w1 T1 a1 x T' H' q2 q7 (by rw [q6]; exact hok) h b kk cs
          exact ⟨e2, a2, w2, p1.trans q3 q4 q5 q6, .of_steps (Steps.trans harr (.one step_inLoop)) p2⟩
        | exit id =>
          simp only [hb, Option.some.injEq, Prod.mk.injEq] at h
          obtain ⟨rfl, rfl, rfl⟩ := h
          exact ⟨_, a1, w1, ⟨ι1, v, rfl, q2, q3, q4, q5, q6, q7⟩, .pass (x := .inLoop c) rfl (fun _ _ => .inl (by simp [toExit])) harr⟩
        | ret =>
          simp only [hb, Option.some.injEq, Prod.mk.injEq] at h
          obtain ⟨rfl, rfl, rfl⟩ := h
          exact ⟨_, a1, w1, ⟨ι1, v, rfl, q2, q3, q4, q5, q6, q7⟩, .pass (x := .inLoop c) rfl (fun _ _ => .inl (by simp [toExit])) harr⟩
        | pan u =>
          simp only [hb, Option.some.injEq, Prod.mk.injEq] at h
          obtain ⟨rfl, rfl, rfl⟩ := h
          exact ⟨_, a1, w1, ⟨ι1, v, rfl, q2, q3, q4, q5, q6, q7⟩, .pass (x := .inLoop c) rfl (fun _ _ => .inl (by simp [toExit])) harr⟩
    refine ⟨fun c ι H w T a x T' H' hS hR hok h => ?_, hloop⟩
    cases c with
    | skip =>
      simp only [icode, Option.some.injEq, Prod.mk.injEq] at h
      obtain ⟨rfl, rfl, rfl⟩ := h
      exact wp_skip ⟨ι, undef, rfl, hS, Ext.refl _ _, Below.refl _ _, rfl, rfl, hR⟩
    | label l =>
      simp only [icode, Option.some.injEq, Prod.mk.injEq] at h
      obtain ⟨rfl, rfl, rfl⟩ := h
      exact wp_label ⟨ι, undef, rfl, hS, Ext.refl _ _, Below.refl _ _, rfl, rfl, hR⟩
    | region id ops draw =>
      simp only [icode] at h
      simp only [codeOk, Bool.and_eq_true] at hok
      obtain ⟨hok, hrok⟩ := hok
      cases draw with
      | true =>
        simp only [if_true] at h
        exact draw_wp hcall hS hR (fun o ho => Array.all_eq_true'.1 hok o ho) (by simpa using hrok) h id hm
      | false =>
        simp only [Bool.false_eq_true, if_false] at h
        exact wp_region_list (iops_wp hcall ops ops.toList ι H w T a x T' H' hS hR (fun o ho => Array.all_eq_true'.1 hok o (by simpa using ho)) h)
    | seq c1 c2 =>
      simp only [codeOk, Bool.and_eq_true] at hok
      simp only [icode] at h
      cases hb : icode J call k c1 T H with
      | none => simp [hb] at h
      | some r =>
        obtain ⟨x1, T1, H1⟩ := r
        refine wp_seq (Code.wp_mono ?_ (ih.1 c1 ι H w T a x1 T1 H1 hS hR hok.1 hb))
        rintro e a1 w1 ⟨ι1, v, q1, q2, q3, q4, q5, q6, q7⟩
        subst q1
        cases x1 with
        | normal =>
          simp only [hb] at h
          exact Code.wp_mono (fun e a2 w2 p => p.trans q3 q4 q5 q6) (ih.1 c2 ι1 H1 w1 T1 a1 x T' H' q2 q7 (by rw [q6]; exact hok.2) h)
        | exit id =>
          simp only [hb, Option.some.injEq, Prod.mk.injEq] at h
          obtain ⟨rfl, rfl, rfl⟩ := h
          exact ⟨ι1, v, rfl, q2, q3, q4, q5, q6, q7⟩
        | ret =>
          simp only [hb, Option.some.injEq, Prod.mk.injEq] at h
          obtain ⟨rfl, rfl, rfl⟩ := h
          exact ⟨ι1, v, rfl, q2, q3, q4, q5, q6, q7⟩
        | pan u =>
          simp only [hb, Option.some.injEq, Prod.mk.injEq] at h
          obtain ⟨rfl, rfl, rfl⟩ := h
          exact ⟨ι1, v, rfl, q2, q3, q4, q5, q6, q7⟩
    | cond c c1 c2 =>
      simp only [codeOk, Bool.and_eq_true] at hok
      have hc := operand_rel hS hR hok.1.1
      simp only [icode] at h
      split at h
      · rename_i e
        rw [e] at hc
        have he : a.eval c = .bool true := by cases hra : a.eval c <;> rw [hra] at hc <;> cases hc; rfl
        exact wp_cond_true he (ih.1 c1 ι H w T a x T' H' hS hR hok.1.2 h)
      · rename_i e
        rw [e] at hc
        have he : a.eval c = .bool false := by cases hra : a.eval c <;> rw [hra] at hc <;> cases hc; rfl
        exact wp_cond_false he (ih.1 c2 ι H w T a x T' H' hS hR hok.2 h)
      · simp at h
    | block id c =>
      simp only [icode] at h
      simp only [codeOk] at hok
      cases hb : icode J call k c T H with
      | none => simp [hb] at h
      | some r =>
        obtain ⟨x1, T1, H1⟩ := r
        refine wp_block (Code.wp_mono ?_ (ih.1 c ι H w T a x1 T1 H1 hS hR hok hb))
        rintro e a1 w1 ⟨ι1, v, q1, q2, q3, q4, q5, q6, q7⟩
        subst q1
        cases x1 with
        | exit id' =>
          simp only [hb] at h
          simp only [toExit, Exit.inBlock]
          split at h
          · rename_i hid
            rw [if_pos hid]
            simp only [Option.some.injEq, Prod.mk.injEq] at h
            obtain ⟨rfl, rfl, rfl⟩ := h
            exact ⟨ι1, undef, rfl, q2, q3, q4, q5, q6, q7⟩
          · rename_i hid
            rw [if_neg hid]
            simp only [Option.some.injEq, Prod.mk.injEq] at h
            obtain ⟨rfl, rfl, rfl⟩ := h
            exact ⟨ι1, v, rfl, q2, q3, q4, q5, q6, q7⟩
        | normal =>
          simp only [hb, Option.some.injEq, Prod.mk.injEq] at h
          obtain ⟨rfl, rfl, rfl⟩ := h
          exact ⟨ι1, v, rfl, q2, q3, q4, q5, q6, q7⟩
        | ret =>
          simp only [hb, Option.some.injEq, Prod.mk.injEq] at h
          obtain ⟨rfl, rfl, rfl⟩ := h
          exact ⟨ι1, v, rfl, q2, q3, q4, q5, q6, q7⟩
        | pan u =>
          simp only [hb, Option.some.injEq, Prod.mk.injEq] at h
          obtain ⟨rfl, rfl, rfl⟩ := h
          exact ⟨ι1, v, rfl, q2, q3, q4, q5, q6, q7⟩
    | loop c =>
      intro b kk cs
      obtain ⟨e, a', w', h1, h2⟩ := hloop c ι H w T a x T' H' hS hR hok h b kk cs
      exact ⟨e, a', w', h1, .of_steps (.one step_loop) h2⟩
    | exit id =>
      simp only [icode, Option.some.injEq, Prod.mk.injEq] at h
      obtain ⟨rfl, rfl, rfl⟩ := h
      exact wp_exit ⟨ι, undef, rfl, hS, Ext.refl _ _, Below.refl _ _, rfl, rfl, hR⟩
    | ret =>
      simp only [icode, Option.some.injEq, Prod.mk.injEq] at h
      obtain ⟨rfl, rfl, rfl⟩ := h
      exact wp_ret ⟨ι, undef, rfl, hS, Ext.refl _ _, Below.refl _ _, rfl, rfl, hR⟩
    | rangeFunc => simp [icode] at h
    | scope => simp [icode] at h
    | goto => simp [icode] at h
    | refuse => simp [icode] at h

theorem regsOf_at : ∀ (l : List Value) (i : Nat) (T : Regs) (t : Nat), (regsOf l i T).at t = if i ≤ t then (match l[t - i]? with | some v => v | none => T.at t) else T.at t := by
  intro l
  induction l with
  | nil => intro i T t; simp [regsOf]
  | cons v l ih =>
    intro i T t
    simp only [regsOf]
    rw [ih, at_set]
    by_cases h1 : i + 1 ≤ t
    · rw [if_pos h1, if_pos (show i ≤ t by omega), if_neg (show ¬ t = i by omega)]
      rw [show t - i = (t - (i + 1)) + 1 by omega, List.getElem?_cons_succ]
    · rw [if_neg h1]
      by_cases h2 : t = i
      · subst h2; simp
      · rw [if_neg h2, if_neg (by omega)]
theorem regsOf_rel {ι : Emb} {n N : Nat} {args args' : Array Value} (h : LRel ι n args.toList args'.toList) : RegsRel ι n (regsOf args.toList 0 .leaf) (args' ++ Array.replicate (N - args'.size) undef) := by
  intro t
  rw [regsOf_at]
  simp only [Nat.zero_le, if_true, Nat.sub_zero]
  cases hx : args.toList[t]? with
  | some v =>
    obtain ⟨y, hy, hr⟩ := h.get hx
    have hlt := (List.getElem?_eq_some_iff.1 hy).1
    simp at hlt
    have : (args' ++ Array.replicate (N - args'.size) undef).getD t undef = y := by
      rw [Array.getD_eq_getD_getElem?, Array.getElem?_append_left hlt, ← Array.getElem?_toList, hy]; rfl
    rw [this]; exact hr
  | none =>
    have hge : args'.size ≤ t := by
      have := List.getElem?_eq_none_iff.1 hx
      have := h.1
      simp at *; omega
    have : (args' ++ Array.replicate (N - args'.size) undef).getD t undef = undef := by
      rw [Array.getD_eq_getD_getElem?, Array.getElem?_append_right hge, Array.getElem?_replicate]
      split <;> rfl
    rw [this]; exact VRel.undef
theorem results_list {ι : Emb} {H : IH} {w : World} {T : Regs} {tmps : Array Value} (hS : Sim J B ι H w) (hR : RegsRel ι H.next T tmps) (g : ResultVar → Sem Value)
    (hg1 : ∀ t, g (.tmp t) = pure (tmps.getD t undef)) (hg2 : ∀ a t, g (.cell a t) = do loadVar t (← asAddr (tmps.getD a undef))) : ∀ (l : List ResultVar) (vs : List Value), l.mapM (iresult1 J T H) = some vs →
    ∃ us, (l.mapM g).run J.P w = .ok us w ∧ LRel ι H.next vs us := by
  intro l
  induction l with
  | nil => intro vs h; simp at h; subst h; exact ⟨[], rfl, .nil⟩
  | cons r l ih =>
    intro vs h
    rw [List.mapM_cons] at h ⊢
    cases e : iresult1 J T H r with
    | none => simp [e] at h
    | some v =>
      cases e2 : l.mapM (iresult1 J T H) with
      | none => simp [e, e2] at h
      | some vs2 =>
        simp [e, e2] at h
        subst h
        obtain ⟨us, h1, h2⟩ := ih vs2 e2
        have one : ∃ u, (g r).run J.P w = .ok u w ∧ VRel ι H.next v u := by
          cases r with
          | tmp t =>
            simp only [iresult1, Option.some.injEq] at e
            subst e
            exact ⟨_, by rw [hg1]; rfl, hR t⟩
          | cell a t =>
            simp only [iresult1] at e
            split at e
            · rename_i ad had
              have hr := hR a
              rw [had] at hr
              cases hra : tmps.getD a undef <;> rw [hra] at hr <;> cases hr
              rename_i hA
              obtain ⟨v', h3, h4⟩ := iload_run hS hA e
              refine ⟨v', ?_, h4⟩
              rw [hg2, hra]
              rw [run_bind_ok (show (asAddr (.pointer (some _))).run J.P w = .ok _ w from rfl)]
              exact h3
            · simp at e
        obtain ⟨u, h3, h4⟩ := one
        exact ⟨u :: us, by rw [run_bind_ok h3, run_bind_ok h1]; rfl, .cons h4 h2⟩
theorem results_run {ι : Emb} {H : IH} {w : World} {T : Regs} {tmps : Array Value} {fn : Func} {v : Value} (hS : Sim J B ι H w) (hR : RegsRel ι H.next T tmps) (h : iresults J fn T H = some v) :
    ∃ v', (results fn tmps).run J.P w = .ok v' w ∧ VRel ι H.next v v' := by
  unfold iresults at h
  unfold results
  rw [Array.mapM_eq_mapM_toList]
  split at h
  · rename_i u hu
    cases h
    obtain ⟨us, h1, h2⟩ := results_list hS hR (fun r => match r with | .tmp t => pure (tmps.getD t undef) | .cell a t => do loadVar t (← asAddr (tmps.getD a undef))) (fun t => rfl) (fun a t => rfl) _ _ hu
    have hl : us.length = 1 := by have := h2.1; simpa using this.symm
    match us, hl with
    | [y], _ =>
      refine ⟨y, ?_, h2.2 0 _ y rfl rfl⟩
      exact (run_bind_ok (run_map h1)).trans rfl
  · rename_i vs hne hvs
    cases h
    obtain ⟨us, h1, h2⟩ := results_list hS hR (fun r => match r with | .tmp t => pure (tmps.getD t undef) | .cell a t => do loadVar t (← asAddr (tmps.getD a undef))) (fun t => rfl) (fun a t => rfl) _ _ hvs
    refine ⟨.tuple us.toArray, ?_, .tuple (by simpa using h2.1) fun i x y hx hy => h2.2 i x y (by simpa using hx) (by simpa using hy)⟩
    refine (run_bind_ok (run_map h1)).trans ?_
    have hl : us.toArray.size ≠ 1 := by
      intro e
      have hl2 : vs.length = 1 := by have := h2.1; simp at e; omega
      match vs, hl2 with
      | [y], _ => exact hne y rfl
    rw [dif_neg hl]; rfl
  · simp at h
theorem icall_sound (hm : J.P.follows .mixedOrders = true) {okf : FuncId → Bool} (hok : ∀ f fn c, okf f = true → J.fn f = some fn → fn.body = some c → codeOk J fn.ntmps c = true) : ∀ k, CallSound J B (icall J okf k) := by
  intro k
  induction k with
  | zero => intro f args args' H ι w r H' _ _ h; simp [icall] at h
  | succ k ih =>
    intro f args args' H ι w r H' hS hA h
    simp only [icall] at h
    split at h
    · rename_i v hv
      cases h
      obtain ⟨h1, h2, h3⟩ := J.hook_ok f args.toList v hv
      have he : args = args' := by
        apply Array.ext'
        apply List.ext_getElem? 
        intro i
        cases hx : args.toList[i]? with
        | none =>
          have h4 := List.getElem?_eq_none_iff.1 hx
          have h5 := hA.1
          rw [List.getElem?_eq_none_iff.2 (by omega)]
        | some x =>
          obtain ⟨y, hy, hr⟩ := hA.get hx
          rw [hy, flat_eq hr (List.all_eq_true.1 h2 x (List.mem_of_getElem? hx))]
      subst he
      have h4 := h3 w (Env.keep_inv hS.keep)
      rw [Array.toArray_toList] at h4
      exact h4.mono fun e w' ⟨h5, h6⟩ => ⟨ι, hS.more h6, Ext.refl _ _, ⟨h6.os, h6.tape, h6.output, h6.size, fun k hk => h6.block k (Nat.lt_of_lt_of_le hk hS.base)⟩, v, h5, VRel.ofFlat h1⟩
    split at h
    case isFalse => simp at h
    rename_i hf
    split at h
    case h_2 => simp at h
    rename_i fn hfn
    split at h
    case h_2 => simp at h
    rename_i c hc
    split at h
    case isFalse => simp at h
    rename_i hsz
    have hsz' : args'.size ≤ fn.ntmps := by have := hA.1; simp at this; omega
    have hts : (args' ++ Array.replicate (fn.ntmps - args'.size) undef).size = fn.ntmps := by simp; omega
    refine calls_of_wp (J.fn_ok f fn hfn).1 hc ?_
    have key : ∀ (x : IX) (T' : Regs) (H1 : IH), icode J (icall J okf k) k c (regsOf args.toList 0 .leaf) H = some (x, T', H1) →
        c.wp J.P (CodePost J B ι H.next w { tmps := args' ++ Array.replicate (fn.ntmps - args'.size) undef, defers := [] } x T' H1) { tmps := args' ++ Array.replicate (fn.ntmps - args'.size) undef, defers := [] } w :=
      fun x T' H1 hx => (icode_wp hm ih k).1 c ι H w _ { tmps := args' ++ Array.replicate (fn.ntmps - args'.size) undef, defers := [] } x T' H1 hS (regsOf_rel hA) (by rw [hts]; exact hok f fn c hf hfn hc) hx
    have ret : ∀ (x : IX) (T' : Regs) (H1 : IH), (x = .normal ∨ x = .ret) → icode J (icall J okf k) k c (regsOf args.toList 0 .leaf) H = some (x, T', H1) → (iresults J fn T' H1).map (fun v => (IE.ret v, H1)) = some (r, H') →
        c.wp J.P (bodyPost J.P fn (CallPost J B ι H.next w r H')) { tmps := args' ++ Array.replicate (fn.ntmps - args'.size) undef, defers := [] } w := by
      intro x T' H1 hx1 hx2 hx3
      cases hv : iresults J fn T' H1 with
      | none => simp [hv] at hx3
      | some v =>
        simp only [hv, Option.map_some, Option.some.injEq, Prod.mk.injEq] at hx3
        obtain ⟨rfl, rfl⟩ := hx3
        refine Code.wp_mono ?_ (key x T' H1 hx2)
        rintro e a' w' ⟨ι', u, q1, q2, q3, q4, q5, q6, q7⟩
        rcases hx1 with rfl | rfl
        · obtain ⟨v', r1, r2⟩ := results_run q2 q7 hv
          subst q1
          exact ⟨q5, v', r1, ι', q2, q3, q4, v', rfl, r2⟩
        · obtain ⟨v', r1, r2⟩ := results_run q2 q7 hv
          subst q1
          exact ⟨q5, v', r1, ι', q2, q3, q4, v', rfl, r2⟩
    split at h
    · rename_i T' H1 hx; exact ret _ _ _ (.inl rfl) hx h
    · rename_i T' H1 hx; exact ret _ _ _ (.inr rfl) hx h
    · rename_i v T' H1 hx
      cases h
      refine Code.wp_mono ?_ (key _ _ _ hx)
      rintro e a' w' ⟨ι', u, q1, q2, q3, q4, q5, q6, q7⟩
      subst q1
      exact ⟨q5, ι', q2, q3, q4, u, rfl, q7⟩
    · simp at h
end
end Go.Proofs.YtjbcjcibnjbpcaaDoor.Idl
namespace Go.Proofs.YtjbcjcibnjbpcaaDoor.Idl
open Go Go.RowKit

def Tr.AllAt {α : Type} (p : Nat → α → Prop) (f : Nat → Nat) : Tr α → Prop
  | .leaf => True
  | .node v l r => (match v with | some x => p (f 0) x | none => True) ∧ Tr.AllAt p (fun m => f (2 * m + 1)) l ∧ Tr.AllAt p (fun m => f (2 * m + 2)) r
theorem Tr.allAt {α : Type} {p : Nat → α → Prop} : ∀ (t : Tr α) (f : Nat → Nat), Tr.AllAt p f t → ∀ n x, t.get n = some x → p (f n) x := by
  intro t
  induction t with
  | leaf => intro f _ n x h; simp [Tr.get] at h
  | node v l r ihl ihr =>
    intro f h n x hx
    obtain ⟨h1, h2, h3⟩ := h
    simp only [Tr.get] at hx
    by_cases e : n = 0
    · subst e
      rw [if_pos rfl] at hx
      subst hx
      exact h1
    · rw [if_neg e] at hx
      by_cases e1 : n % 2 = 1
      · rw [if_pos e1] at hx
        have := ihl _ h2 _ _ hx
        rw [show 2 * (n / 2) + 1 = n by omega] at this
        exact this
      · rw [if_neg e1] at hx
        have := ihr _ h3 _ _ hx
        rw [show 2 * ((n - 1) / 2) + 2 = n by omega] at this
        exact this
def TyOk (P : Program) (t : Nat) (i : TyI) : Prop :=
  P.underlying t = some i.und ∧ ∃ inf, P.info? t = some inf ∧ inf.size = i.size ∧ inf.bytes = i.bytes ∧ ∀ z, i.zero = some z → inf.zero = some z ∧ flat z = true
theorem tyOk_mk {P : Program} {t s b : Nat} {d : TypeDesc} {z : Value} (h1 : P.underlying t = some d) (h2 : (P.info? t).map (fun i => (i.size, i.bytes, i.zero)) = some (s, b, some z)) (h3 : flat z = true) : TyOk P t ⟨d, s, b, some z⟩ := by
  refine ⟨h1, ?_⟩
  cases e : P.info? t with
  | none => simp [e] at h2
  | some inf =>
    simp only [e, Option.map_some, Option.some.injEq, Prod.mk.injEq] at h2
    obtain ⟨rfl, rfl, h⟩ := h2
    exact ⟨inf, rfl, rfl, rfl, fun y hy => by cases hy; exact ⟨h, h3⟩⟩
theorem tyOk_mk0 {P : Program} {t s b : Nat} {d : TypeDesc} (h1 : P.underlying t = some d) (h2 : (P.info? t).map (fun i => (i.size, i.bytes)) = some (s, b)) : TyOk P t ⟨d, s, b, none⟩ := by
  refine ⟨h1, ?_⟩
  cases e : P.info? t with
  | none => simp [e] at h2
  | some inf =>
    simp only [e, Option.map_some, Option.some.injEq, Prod.mk.injEq] at h2
    obtain ⟨rfl, rfl⟩ := h2
    exact ⟨inf, rfl, rfl, rfl, fun y hy => by cases hy⟩
def FnOk (P : Program) (f : Nat) (x : Func) : Prop := P.funcs[f]? = some x ∧ (x.name == "runtime.NumGoroutine") = false
/-- A function's code passes the look. -/
def bodyOk (J : Env) (fn : Func) : Bool :=
  match fn.body with
  | some c => codeOk J fn.ntmps c
  | none => true
end Go.Proofs.YtjbcjcibnjbpcaaDoor.Idl
namespace Go.Proofs.YtjbcjcibnjbpcaaDoor.Idl
open Go Go.RowKit

section
variable (J : Env) (call : CallR) (k : Nat) (T : Regs) (H : IH)
theorem icode_skip : icode J call (k + 1) .skip T H = some (.normal, T, H) := rfl
theorem icode_label (l : Nat) : icode J call (k + 1) (.label l) T H = some (.normal, T, H) := rfl
theorem icode_exit (i : Nat) : icode J call (k + 1) (.exit i) T H = some (.exit i, T, H) := rfl
theorem icode_ret : icode J call (k + 1) .ret T H = some (.ret, T, H) := rfl
theorem icode_region (i : Nat) (ops : Array Oper) : icode J call (k + 1) (.region i ops false) T H = iops J call ops ops.toList T H := rfl
theorem icode_draw (i : Nat) (ops : Array Oper) : icode J call (k + 1) (.region i ops true) T H = idraw J call ops T H := rfl
/-- What follows code that ended so. -/
def andThen (r : Option (IX × Regs × IH)) (f : Regs → IH → Option (IX × Regs × IH)) : Option (IX × Regs × IH) :=
  match r with
  | some (.normal, T', H') => f T' H'
  | r => r
theorem icode_seq (a b : Code) : icode J call (k + 1) (.seq a b) T H = andThen (icode J call k a T H) fun T' H' => icode J call k b T' H' := by
  simp only [icode]; rfl
theorem icode_loop (c : Code) : icode J call (k + 1) (.loop c) T H = andThen (icode J call k c T H) fun T' H' => icode J call k (.loop c) T' H' := by
  simp only [icode]; rfl
theorem andThen_normal (f : Regs → IH → Option (IX × Regs × IH)) : andThen (some (.normal, T, H)) f = f T H := rfl
theorem andThen_exit (i : Nat) (f : Regs → IH → Option (IX × Regs × IH)) : andThen (some (.exit i, T, H)) f = some (.exit i, T, H) := rfl
theorem andThen_ret (f : Regs → IH → Option (IX × Regs × IH)) : andThen (some (.ret, T, H)) f = some (.ret, T, H) := rfl
theorem andThen_pan (v : Value) (f : Regs → IH → Option (IX × Regs × IH)) : andThen (some (.pan v, T, H)) f = some (.pan v, T, H) := rfl
def branch (v : Value) (a b : Option (IX × Regs × IH)) : Option (IX × Regs × IH) :=
  match v with
  | .bool true => a
  | .bool false => b
  | _ => none
theorem icode_cond (c : Operand) (x y : Code) : icode J call (k + 1) (.cond c x y) T H = branch (iev T c) (icode J call k x T H) (icode J call k y T H) := rfl
theorem branch_true (a b : Option (IX × Regs × IH)) : branch (.bool true) a b = a := rfl
theorem branch_false (a b : Option (IX × Regs × IH)) : branch (.bool false) a b = b := rfl
def blockOut (id : Nat) (r : Option (IX × Regs × IH)) : Option (IX × Regs × IH) :=
  match r with
  | some (.exit id', T', H') => if id' = id then some (.normal, T', H') else some (.exit id', T', H')
  | r => r
theorem icode_block (id : Nat) (c : Code) : icode J call (k + 1) (.block id c) T H = blockOut id (icode J call k c T H) := by
  simp only [icode]; rfl
theorem blockOut_normal (id : Nat) : blockOut id (some (.normal, T, H)) = some (.normal, T, H) := rfl
theorem blockOut_exit (id id' : Nat) : blockOut id (some (.exit id', T, H)) = if id' = id then some (.normal, T, H) else some (.exit id', T, H) := rfl
theorem blockOut_ret (id : Nat) : blockOut id (some (.ret, T, H)) = some (.ret, T, H) := rfl
theorem blockOut_pan (id : Nat) (v : Value) : blockOut id (some (.pan v, T, H)) = some (.pan v, T, H) := rfl
def fin (J : Env) (rs : List ResultVar) (T : Regs) (H : IH) : Option Value :=
  match rs.mapM (iresult1 J T H) with
  | some [v] => some v
  | some vs => some (.tuple vs.toArray)
  | none => none
/-- How a call ends behind its code. -/
def finish (J : Env) (rs : List ResultVar) (r : Option (IX × Regs × IH)) : Option (IE × IH) :=
  match r with
  | some (.normal, T', H') => (fin J rs T' H').map fun v => (.ret v, H')
  | some (.ret, T', H') => (fin J rs T' H').map fun v => (.ret v, H')
  | some (.pan v, _, H') => some (.pan v, H')
  | _ => none
theorem finish_normal (rs : List ResultVar) : finish J rs (some (.normal, T, H)) = (fin J rs T H).map fun v => (.ret v, H) := rfl
theorem finish_ret (rs : List ResultVar) : finish J rs (some (.ret, T, H)) = (fin J rs T H).map fun v => (.ret v, H) := rfl
theorem finish_pan (rs : List ResultVar) (v : Value) : finish J rs (some (.pan v, T, H)) = some (.pan v, H) := rfl
theorem icall_body (okf : FuncId → Bool) (f : FuncId) (args : Array Value) (fn : Func) (c : Code) (h0 : okf f = true) (h1 : J.fn f = some fn) (h2 : fn.body = some c) (h3 : args.size ≤ fn.ntmps) (h4 : J.hook f args.toList = none) :
    icall J okf (k + 1) f args H = finish J fn.results.toList (icode J (icall J okf k) k c (regsOf args.toList 0 .leaf) H) := by
  simp only [icall, h0, h1, h2, h3, h4, if_true]
  rfl
theorem icall_hook (okf : FuncId → Bool) (f : FuncId) (args : Array Value) (v : Value) (h : J.hook f args.toList = some v) : icall J okf (k + 1) f args H = some (.ret v, H) := by
  simp only [icall, h]
theorem at_leaf (t : Nat) : Regs.at .leaf t = undef := rfl
theorem iops_nil (ops : Array Oper) : iops J call ops [] T H = some (.normal, T, H) := rfl
def opStep (o : Oper) (r : Option (IE × IH)) (T : Regs) (f : Regs → IH → Option (IX × Regs × IH)) : Option (IX × Regs × IH) :=
  match r with
  | some (.ret v, H') => f (putR T o.dst v) H'
  | some (.pan v, H') => some (.pan v, T, H')
  | none => none
theorem iops_cons (ops : Array Oper) (o : Oper) (r : List Oper) : iops J call ops (o :: r) T H =
    if wantedR ops T o then opStep o (iexec J call o T H) T (fun T' H' => iops J call ops r T' H') else iops J call ops r (putR T o.dst undef) H := by
  simp only [iops, opStep]
  split
  · split <;> simp_all
  · rfl
theorem opStep_ret (o : Oper) (v : Value) (f : Regs → IH → Option (IX × Regs × IH)) : opStep o (some (.ret v, H)) T f = f (putR T o.dst v) H := rfl
theorem opStep_pan (o : Oper) (v : Value) (f : Regs → IH → Option (IX × Regs × IH)) : opStep o (some (.pan v, H)) T f = some (.pan v, T, H) := rfl
def orStep (call : CallR) (r : Option OR) : Option (IE × IH) :=
  match r with
  | some (.val v H') => some (.ret v, H')
  | some (.pan v H') => some (.pan v, H')
  | some (.enter f args H') => call f args H'
  | none => none
theorem iexec_eq (o : Oper) : iexec J call o T H = orStep call (iop J o T H) := by
  unfold iexec orStep
  split <;> simp_all
theorem orStep_val (v : Value) : orStep call (some (.val v H)) = some (.ret v, H) := rfl
theorem orStep_pan (v : Value) : orStep call (some (.pan v H)) = some (.pan v, H) := rfl
theorem orStep_enter (f : FuncId) (args : Array Value) : orStep call (some (.enter f args H)) = call f args H := rfl
end

/-! ### More fuel -/
def Mono (call call' : CallR) : Prop := ∀ f args H r, call f args H = some r → call' f args H = some r
theorem iexec_mono {J : Env} {call call' : CallR} (h : Mono call call') {o : Oper} {T : Regs} {H : IH} {r : IE × IH} (hx : iexec J call o T H = some r) : iexec J call' o T H = some r := by
  rw [iexec_eq] at hx ⊢
  cases hi : iop J o T H with
  | none => simp [hi, orStep] at hx
  | some y => cases y <;> simp only [hi, orStep] at hx ⊢ <;> first | exact hx | exact h _ _ _ _ hx
theorem iops_mono {J : Env} {call call' : CallR} (h : Mono call call') (ops : Array Oper) : ∀ (l : List Oper) (T : Regs) (H : IH) (r : IX × Regs × IH), iops J call ops l T H = some r → iops J call' ops l T H = some r := by
  intro l
  induction l with
  | nil => intro T H r hx; exact hx
  | cons o l ih =>
    intro T H r hx
    rw [iops_cons] at hx ⊢
    split
    · rename_i hw
      rw [if_pos hw] at hx
      cases he : iexec J call o T H with
      | none => simp [he, opStep] at hx
      | some y =>
        rw [iexec_mono h he]
        rw [he] at hx
        obtain ⟨e, H'⟩ := y
        cases e with
        | ret v => exact ih _ _ _ hx
        | pan v => exact hx
    · rename_i hw
      rw [if_neg hw] at hx
      exact ih _ _ _ hx
theorem drun_mono {J : Env} {call call' : CallR} (h : Mono call call') (ops : Array Oper) : ∀ (l : List Oper) (s : DSt) (r : DSt × Option Value), drun J call ops l s = some r → drun J call' ops l s = some r := by
  intro l
  induction l with
  | nil => intro s r hx; exact hx
  | cons o l ih =>
    intro s r hx
    simp only [drun] at hx ⊢
    split
    · rename_i hw
      rw [if_pos hw] at hx
      cases he : iexec J call o s.T s.H with
      | none => simp [he] at hx
      | some y =>
        rw [iexec_mono h he]
        rw [he] at hx
        obtain ⟨e, H'⟩ := y
        cases e with
        | ret v => exact ih _ _ hx
        | pan v => exact hx
    · rename_i hw
      rw [if_neg hw] at hx
      exact ih _ _ hx
theorem idraw_mono {J : Env} {call call' : CallR} (h : Mono call call') (ops : Array Oper) (T : Regs) (H : IH) (r : IX × Regs × IH) (hx : idraw J call ops T H = some r) : idraw J call' ops T H = some r := by
  unfold idraw at hx ⊢
  cases he : drun J call ops ops.toList ⟨T, H, [], [H]⟩ with
  | none => simp [he] at hx
  | some y => rw [drun_mono h ops _ _ _ he]; rw [he] at hx; exact hx
theorem icode_mono {J : Env} {call call' : CallR} (h : Mono call call') : ∀ (k : Nat) (c : Code) (T : Regs) (H : IH) (r : IX × Regs × IH) (k' : Nat), k ≤ k' → icode J call k c T H = some r → icode J call' k' c T H = some r := by
  intro k
  induction k with
  | zero => intro c T H r k' _ hx; simp [icode] at hx
  | succ k ih =>
    intro c T H r k' hk hx
    obtain ⟨k', rfl⟩ : ∃ j, k' = j + 1 := ⟨k' - 1, by omega⟩
    have hk : k ≤ k' := by omega
    have two : ∀ (a : Code) (f f' : Regs → IH → Option (IX × Regs × IH)), (∀ T H r, f T H = some r → f' T H = some r) → andThen (icode J call k a T H) f = some r → andThen (icode J call' k' a T H) f' = some r := by
      intro a f f' hf hx
      cases he : icode J call k a T H with
      | none => simp [he, andThen] at hx
      | some y =>
        rw [ih a T H y k' hk he]
        rw [he] at hx
        obtain ⟨e, T', H'⟩ := y
        cases e <;> first | exact hf _ _ _ hx | exact hx
    cases c with
    | seq a b => rw [icode_seq] at hx ⊢; exact two a _ _ (fun T H r => ih b T H r k' hk) hx
    | loop a => rw [icode_loop] at hx ⊢; exact two a _ _ (fun T H r => ih (.loop a) T H r k' hk) hx
    | cond c x y =>
      rw [icode_cond] at hx ⊢
      cases hv : iev T c with
      | bool b =>
        rw [hv] at hx
        cases b with
        | true => exact ih x T H r k' hk hx
        | false => exact ih y T H r k' hk hx
      | _ => rw [hv] at hx; simp [branch] at hx
    | block id a =>
      rw [icode_block] at hx ⊢
      cases he : icode J call k a T H with
      | none => simp [he, blockOut] at hx
      | some y => rw [ih a T H y k' hk he]; rw [he] at hx; exact hx
    | region id ops draw => cases draw with
      | true => rw [icode_draw] at hx ⊢; exact idraw_mono h ops T H r hx
      | false => rw [icode_region] at hx ⊢; exact iops_mono h ops _ T H r hx
    | _ => exact hx
theorem icall_mono {J : Env} {okf : FuncId → Bool} : ∀ (k k' : Nat), k ≤ k' → Mono (icall J okf k) (icall J okf k') := by
  intro k
  induction k with
  | zero => intro k' _ f args H r hx; simp [icall] at hx
  | succ k ih =>
    intro k' hk f args H r hx
    obtain ⟨k', rfl⟩ : ∃ j, k' = j + 1 := ⟨k' - 1, by omega⟩
    have hk : k ≤ k' := by omega
    simp only [icall] at hx ⊢
    cases hh : J.hook f args.toList with
    | some v => simp only [hh] at hx ⊢; exact hx
    | none =>
    simp only [hh] at hx ⊢
    split
    · rename_i h0
      rw [if_pos h0] at hx
      cases hf : J.fn f with
      | none => simp [hf] at hx
      | some fn =>
        simp only [hf] at hx ⊢
        cases hb : fn.body with
        | none => simp [hb] at hx
        | some c =>
          simp only [hb] at hx ⊢
          split
          · rename_i h3
            rw [if_pos h3] at hx
            cases he : icode J (icall J okf k) k c (regsOf args.toList 0 .leaf) H with
            | none => simp [he] at hx
            | some y =>
              rw [icode_mono (ih k' hk) k c _ H y k' hk he]
              rw [he] at hx; exact hx
          · rename_i h3
            rw [if_neg h3] at hx
            simp at hx
    · rename_i h0
      rw [if_neg h0] at hx
      simp at hx
end Go.Proofs.YtjbcjcibnjbpcaaDoor.Idl
namespace Go.Proofs.YtjbcjcibnjbpcaaDoor.Idl
open Go Go.RowKit

/-! ### Code -/
section
variable (J : Env) (call : CallR) (k : Nat) (T : Regs) (H : IH)
def seqNext (J : Env) (call : CallR) (k : Nat) (b : Code) (r : Option (IX × Regs × IH)) : Option (IX × Regs × IH) :=
  match r with
  | some (.normal, T', H') => icode J call k b T' H'
  | r => r
@[simp] theorem run_skip : icode J call (k + 1) .skip T H = some (.normal, T, H) := rfl
@[simp] theorem run_label (l : Nat) : icode J call (k + 1) (.label l) T H = some (.normal, T, H) := rfl
@[simp] theorem run_exit (i : Nat) : icode J call (k + 1) (.exit i) T H = some (.exit i, T, H) := rfl
@[simp] theorem run_ret : icode J call (k + 1) .ret T H = some (.ret, T, H) := rfl
@[simp] theorem run_region (i : Nat) (ops : List Oper) : icode J call (k + 1) (.region i ops.toArray false) T H = iops J call ops.toArray ops T H := by simp [icode]
@[simp] theorem run_seq (a b : Code) : icode J call (k + 1) (.seq a b) T H = seqNext J call k b (icode J call k a T H) := by simp only [icode]; rfl
@[simp] theorem seq_normal (b : Code) : seqNext J call k b (some (.normal, T, H)) = icode J call k b T H := rfl
@[simp] theorem seq_exit (b : Code) (i : Nat) : seqNext J call k b (some (.exit i, T, H)) = some (.exit i, T, H) := rfl
@[simp] theorem seq_ret (b : Code) : seqNext J call k b (some (.ret, T, H)) = some (.ret, T, H) := rfl
@[simp] theorem seq_pan (b : Code) (v : Value) : seqNext J call k b (some (.pan v, T, H)) = some (.pan v, T, H) := rfl
def condNext (J : Env) (call : CallR) (k : Nat) (x y : Code) (T : Regs) (H : IH) (v : Value) : Option (IX × Regs × IH) :=
  match v with
  | .bool true => icode J call k x T H
  | .bool false => icode J call k y T H
  | _ => none
@[simp] theorem run_cond (c : Operand) (x y : Code) : icode J call (k + 1) (.cond c x y) T H = condNext J call k x y T H (iev T c) := rfl
@[simp] theorem cond_t (x y : Code) : condNext J call k x y T H (.bool true) = icode J call k x T H := rfl
@[simp] theorem cond_f (x y : Code) : condNext J call k x y T H (.bool false) = icode J call k y T H := rfl
@[simp] theorem run_block (id : Nat) (c : Code) : icode J call (k + 1) (.block id c) T H = blockOut id (icode J call k c T H) := by simp only [icode]; rfl
attribute [simp] blockOut_normal blockOut_exit blockOut_ret blockOut_pan finish_normal finish_ret finish_pan
theorem run_loop (c : Code) : icode J call (k + 1) (.loop c) T H = seqNext J call k (.loop c) (icode J call k c T H) := by simp only [icode]; rfl

/-! ### Regions -/
def opRes (J : Env) (call : CallR) (ops : Array Oper) (r : List Oper) (d : Option Tmp) (T : Regs) (x : Option (IE × IH)) : Option (IX × Regs × IH) :=
  match x with
  | some (.ret v, H') => iops J call ops r (putR T d v) H'
  | some (.pan v, H') => some (.pan v, T, H')
  | none => none
def opGo (J : Env) (call : CallR) (ops : Array Oper) (r : List Oper) (o : Oper) (T : Regs) (H : IH) (b : Bool) : Option (IX × Regs × IH) :=
  match b with
  | true => opRes J call ops r o.dst T (orStep call (iop J o T H))
  | false => iops J call ops r (putR T o.dst undef) H
@[simp] theorem ops_nil (ops : Array Oper) : iops J call ops [] T H = some (.normal, T, H) := rfl
@[simp] theorem ops_cons (ops : Array Oper) (o : Oper) (r : List Oper) : iops J call ops (o :: r) T H = opGo J call ops r o T H (wantedR ops T o) := by
  rw [iops_cons, iexec_eq]
  cases wantedR ops T o <;> rfl
@[simp] theorem go_true (ops : Array Oper) (r : List Oper) (o : Oper) : opGo J call ops r o T H true = opRes J call ops r o.dst T (orStep call (iop J o T H)) := rfl
@[simp] theorem go_false (ops : Array Oper) (r : List Oper) (o : Oper) : opGo J call ops r o T H false = iops J call ops r (putR T o.dst undef) H := rfl
@[simp] theorem res_ret (ops : Array Oper) (r : List Oper) (d : Option Tmp) (v : Value) : opRes J call ops r d T (some (.ret v, H)) = iops J call ops r (putR T d v) H := rfl
@[simp] theorem res_pan (ops : Array Oper) (r : List Oper) (d : Option Tmp) (v : Value) : opRes J call ops r d T (some (.pan v, H)) = some (.pan v, T, H) := rfl
attribute [simp] orStep_val orStep_pan orStep_enter
@[simp] theorem put_none (v : Value) : putR T none v = T := rfl
@[simp] theorem put_some (d : Tmp) (v : Value) : putR T (some d) v = T.set d v := rfl
attribute [simp] at_leaf
@[simp] theorem at_set_eq (t : Nat) (v : Value) : Regs.at (Tr.set T t v) t = v := by rw [at_set, if_pos rfl]
@[simp] theorem at_set_ne (d t : Nat) (v : Value) (h : (t = d) = False) : Regs.at (Tr.set T d v) t = T.at t := by rw [at_set, if_neg (by simp [h])]
@[simp] theorem iev_tmp (t : Tmp) : iev T (.tmp t) = T.at t := id rfl
@[simp] theorem iev_const (v : Value) : iev T (.const v) = v := id rfl
@[simp] theorem iev_global (g : Nat) : iev T (.global g) = .pointer (some ⟨g, 0, none⟩) := id rfl
@[simp] theorem iev_func (f : FuncId) : iev T (.func f) = .func (.func f) #[] #[] := id rfl
def guardB (v : Value) (want : Bool) : Bool :=
  match v with
  | .bool b => b == want
  | _ => false
@[simp] theorem guardB_bool (b want : Bool) : guardB (.bool b) want = (b == want) := rfl
@[simp] theorem wanted_none (ops : Array Oper) (dst : Option Tmp) (op : Op) (type : TypeId) (pos : String) (after : Array Edge) : wantedR ops T ⟨dst, op, type, pos, after, none⟩ = true := rfl
@[simp] theorem wanted_some (ops : List Oper) (dst : Option Tmp) (op : Op) (type : TypeId) (pos : String) (after : Array Edge) (j : Nat) (want : Bool) :
    wantedR ops.toArray T ⟨dst, op, type, pos, after, some (j, want)⟩ = (match (ops[j]?).bind (·.dst) with | some d => guardB (T.at d) want | none => false) := by
  simp only [wantedR, List.getElem?_toArray]
  rfl

/-! ### Operations -/
section
variable (dst : Option Tmp) (type : TypeId) (pos : String) (after : Array Edge) (guard : Option (Nat × Bool))
@[simp] theorem iop_move (x : Operand) : iop J ⟨dst, .move x, type, pos, after, guard⟩ T H = some (.val (iev T x) H) := rfl
@[simp] theorem iop_assign (x : Operand) : iop J ⟨dst, .assign x, type, pos, after, guard⟩ T H = some (.val (iev T x) H) := rfl
def pickR (c a b : Value) (H : IH) : Option OR :=
  match c with
  | .bool true => some (.val a H)
  | .bool false => some (.val b H)
  | _ => none
@[simp] theorem iop_pick (c a b : Operand) : iop J ⟨dst, .pick c a b, type, pos, after, guard⟩ T H = pickR (iev T c) (iev T a) (iev T b) H := rfl
@[simp] theorem pick_t (a b : Value) : pickR (.bool true) a b H = some (.val a H) := rfl
@[simp] theorem pick_f (a b : Value) : pickR (.bool false) a b H = some (.val b H) := rfl
/-- A pick between two bools is a test. -/
theorem pick_bb (c a b : Bool) : pickR (.bool c) (.bool a) (.bool b) H = some (.val (.bool (if c then a else b)) H) := by cases c <;> rfl
@[simp] theorem iop_alloc (e : TypeId) : iop J ⟨dst, .alloc e, type, pos, after, guard⟩ T H = (J.zero e).map fun z => .val (inew H e z.cells.toList).1 (inew H e z.cells.toList).2 := rfl
@[simp] theorem iop_box (e : TypeId) (x : Operand) : iop J ⟨dst, .box e x, type, pos, after, guard⟩ T H = (J.size e).map fun _ => .val (inew H e (iev T x).cells.toList).1 (inew H e (iev T x).cells.toList).2 := rfl
@[simp] theorem iop_build (t : TypeId) (ps : Array (Nat × Operand)) : iop J ⟨dst, .build t ps, type, pos, after, guard⟩ T H = OR.ofVal H (ibuild J t (iparts T ps)) := rfl
@[simp] theorem iop_buildSlice (t : TypeId) (n : Nat) (ps : Array (Nat × Operand)) : iop J ⟨dst, .buildSlice t n ps, type, pos, after, guard⟩ T H = OR.ofPair (ibuildSlice J t n (iparts T ps) H) := rfl
def loadR (J : Env) (t : TypeId) (a : Value) (H : IH) : Option OR :=
  match a with
  | .pointer (some ad) => OR.ofVal H (iload J t ad H)
  | _ => none
@[simp] theorem iop_load (t : TypeId) (a : Operand) : iop J ⟨dst, .load t a, type, pos, after, guard⟩ T H = loadR J t (iev T a) H := rfl
@[simp] theorem load_ptr (t : TypeId) (a : Addr) : loadR J t (.pointer (some a)) H = OR.ofVal H (iload J t a H) := rfl
def storeR (J : Env) (t : TypeId) (a v : Value) (H : IH) : Option OR :=
  match a with
  | .pointer (some ad) => OR.ofHeap (istore J t ad v H)
  | _ => none
@[simp] theorem iop_store (t : TypeId) (a x : Operand) : iop J ⟨dst, .store t a x, type, pos, after, guard⟩ T H = storeR J t (iev T a) (iev T x) H := rfl
@[simp] theorem store_ptr (t : TypeId) (a : Addr) (v : Value) : storeR J t (.pointer (some a)) v H = OR.ofHeap (istore J t a v H) := rfl
def nilCheckR (v : Value) (H : IH) : Option OR :=
  match v with
  | .pointer (some a) => some (.val (.pointer (some a)) H)
  | .func (.func g) first captured => some (.val (.func (.func g) first captured) H)
  | _ => none
@[simp] theorem iop_nilCheck (x : Operand) : iop J ⟨dst, .nilCheck x, type, pos, after, guard⟩ T H = nilCheckR (iev T x) H := rfl
@[simp] theorem nilCheck_ptr (a : Addr) : nilCheckR (.pointer (some a)) H = some (.val (.pointer (some a)) H) := rfl
@[simp] theorem nilCheck_func (g : FuncId) (xs ys : Array Value) : nilCheckR (.func (.func g) xs ys) H = some (.val (.func (.func g) xs ys) H) := rfl
@[simp] theorem ofVal_some (v : Value) : OR.ofVal H (some v) = some (.val v H) := rfl
@[simp] theorem ofPair_some (v : Value) : OR.ofPair (some (v, H)) = some (.val v H) := rfl
@[simp] theorem ofHeap_some : OR.ofHeap (some H) = some (.val undef H) := rfl
@[simp] theorem iop_makeFunc (g : FuncId) (first captured : Array Operand) : iop J ⟨dst, .makeFunc (.func g) first captured, type, pos, after, guard⟩ T H = some (.val (.func (.func g) (first.map (iev T)) (captured.map (iev T))) H) := rfl
@[simp] theorem iop_makeMap (t : TypeId) : iop J ⟨dst, .makeMap t none, type, pos, after, guard⟩ T H = some (.val (.map (some H.next)) (H.push (.map [] false))) := rfl
@[simp] theorem iop_makeSlice (t : TypeId) (l c : Operand) : iop J ⟨dst, .makeSlice t l c, type, pos, after, guard⟩ T H = OR.ofPair (imakeSlice J t (iev T l) (iev T c) H) := rfl
@[simp] theorem iop_slice (t : TypeId) (x : Operand) (lo hi mx : Option Operand) : iop J ⟨dst, .slice t x lo hi mx, type, pos, after, guard⟩ T H = OR.ofVal H (islice J t (iev T x) (lo.map (iev T)) (hi.map (iev T)) (mx.map (iev T)) H) := rfl
@[simp] theorem iop_fieldAddr (s : TypeId) (x : Operand) (f : Nat) : iop J ⟨dst, .fieldAddr s x f, type, pos, after, guard⟩ T H = OR.ofVal H (ifieldAddr J s (iev T x) f) := rfl
@[simp] theorem iop_field (s : TypeId) (x : Operand) (f : Nat) : iop J ⟨dst, .field s x f, type, pos, after, guard⟩ T H = OR.ofVal H (ifield J s (iev T x) f) := rfl
@[simp] theorem iop_indexAddr (t : TypeId) (x i : Operand) : iop J ⟨dst, .indexAddr t x i, type, pos, after, guard⟩ T H = OR.ofVal H (iindexAddr J t (iev T x) (iev T i)) := rfl
@[simp] theorem iop_index (t : TypeId) (x i : Operand) : iop J ⟨dst, .index t x i, type, pos, after, guard⟩ T H = OR.ofVal H (iindex J t (iev T x) (iev T i)) := rfl
@[simp] theorem iop_lookup (t : TypeId) (x i : Operand) (ok : Bool) : iop J ⟨dst, .lookup t x i ok, type, pos, after, guard⟩ T H = OR.ofVal H (ilookup J t (iev T x) (iev T i) ok H) := rfl
@[simp] theorem iop_mapUpdate (t : TypeId) (m k v : Operand) : iop J ⟨dst, .mapUpdate t m k v, type, pos, after, guard⟩ T H = OR.ofHeap (imapUpdate J t (iev T m) (iev T k) (iev T v) H) := rfl
@[simp] theorem iop_insert (t : TypeId) (m k v : Operand) : iop J ⟨dst, .insert t m k v, type, pos, after, guard⟩ T H = OR.ofHeap (imapUpdate J t (iev T m) (iev T k) (iev T v) H) := rfl
def extractR (v : Value) (i : Nat) (H : IH) : Option OR :=
  match v with
  | .tuple vs => OR.ofVal H (vs[i]?)
  | _ => none
@[simp] theorem iop_extract (x : Operand) (i : Nat) : iop J ⟨dst, .extract x i, type, pos, after, guard⟩ T H = extractR (iev T x) i H := rfl
@[simp] theorem extract_tuple (vs : List Value) (i : Nat) : extractR (.tuple vs.toArray) i H = OR.ofVal H (vs[i]?) := by simp [extractR]
def funcR (J : Env) (f : Value) (args : Array Value) (o : Oper) (T : Regs) (H : IH) : Option OR :=
  match f with
  | .func (.func g) first captured => if hasBody J g then some (.enter g (first ++ args ++ captured) H) else if J.ident g then identR (first ++ args ++ captured).toList H else ipure J o T H
  | _ => none
@[simp] theorem iop_callf (f : Operand) (args : Array Operand) (at_ : Array TypeId) : iop J ⟨dst, .call ⟨.value f, args, at_⟩, type, pos, after, guard⟩ T H = funcR J (iev T f) (args.map (iev T)) ⟨dst, .call ⟨.value f, args, at_⟩, type, pos, after, guard⟩ T H := rfl
@[simp] theorem func_ident (g : FuncId) (v : Value) (o : Oper) (h : hasBody J g = false) (hi : J.ident g = true) : funcR J (.func (.func g) #[] #[]) #[v] o T H = some (.val v H) := by simp [funcR, h, hi, identR]
@[simp] theorem func_body (g : FuncId) (first captured args : Array Value) (o : Oper) (h : hasBody J g = true) : funcR J (.func (.func g) first captured) args o T H = some (.enter g (first ++ args ++ captured) H) := by simp [funcR, h]
def lenR (J : Env) (t : TypeId) (x : Value) (H : IH) : Option OR :=
  match J.und t, x with
  | some (.slice _), .slice _ n _ => some (.val (.int .i64 n) H)
  | some (.map _ _), .map (some r) => match H.get r with
    | some (.map es _) => some (.val (.int .i64 es.length) H)
    | _ => none
  | some .string, .string s => some (.val (.int .i64 s.size) H)
  | _, _ => none
theorem iop_len' (x : Operand) (t : TypeId) (r : OR) (h : lenR J t (iev T x) H = some r) : iop J ⟨dst, .call ⟨.builtin .len, #[x], #[t]⟩, type, pos, after, guard⟩ T H = some r := by
  unfold lenR at h
  simp only [iop, icall0]
  simp only [List.getElem?_toArray, List.getElem?_cons_zero]
  split at h
  · rename_i e a n c hu hx
    rw [hu, hx]; exact h
  · rename_i e kk r' hu hx
    rw [hu, hx]; exact h
  · rename_i s hu hx
    cases h
    rw [hu, hx]
    have e1 : execOp (iev T) ⟨dst, .call ⟨.builtin .len, #[x], #[t]⟩, type, pos, after, guard⟩ = (do pure (.value (← Builtin.len_ #[t] type #[.string s])) : Sem Next) := by
      simp only [execOp, resolve]
      simp [hx]
      rfl
    have e2 : pureRun J.P (execOp (iev T) ⟨dst, .call ⟨.builtin .len, #[x], #[t]⟩, type, pos, after, guard⟩) = some (.value (.int .i64 s.size)) := by
      rw [e1]
      show pureRun J.P (Sem.bind _ _) = _
      have hu' := J.und_ok hu
      simp [Builtin.len_, underlying, program, bind, Sem.bind, pureRun, hu', pure, goInt]
    simp only [ipure, e2]
    simp [Op.operands, Call.operands, hx, flat, flatN]
  · simp at h
end
end
end Go.Proofs.YtjbcjcibnjbpcaaDoor.Idl
namespace Go.Proofs.YtjbcjcibnjbpcaaDoor.Idl
open Go Go.RowKit

section
variable (J : Env) (T : Regs) (H : IH) (dst : Option Tmp) (type : TypeId) (pos : String) (after : Array Edge) (guard : Option (Nat × Bool))
def pureR (r : Option Value) (H : IH) : Option OR :=
  match r with
  | some v => if flat v then some (.val v H) else none
  | none => none
def binR (J : Env) (op : BinOp) (t : TypeId) (x y : Operand) (a b : Value) (H : IH) : Option OR :=
  match op, nilEq a b with
  | .eql, some r => if fitsNil J t a && fitsNil J t b then some (.val (.bool r) H) else none
  | .neq, some r => if fitsNil J t a && fitsNil J t b then some (.val (.bool (!r)) H) else none
  | _, _ => if flat a && flat b then pureR (pureRun J.P (do eqGuard op t x y a b; binOp op t a b)) H else none
theorem pureRun_bind {α β : Type} (P : Program) (s : Sem α) (f : α → Sem β) : pureRun P (s >>= f) = (pureRun P s).bind fun a => pureRun P (f a) := by
  show pureRun P (Sem.bind s f) = _
  induction s with
  | pure a => rfl
  | program k ih => exact ih P
  | mark m k ih => exact ih
  | _ => rfl
@[simp] theorem iop_binOp (op : BinOp) (t yt : TypeId) (x y : Operand) : iop J ⟨dst, .binOp op t x y yt, type, pos, after, guard⟩ T H = binR J op t x y (iev T x) (iev T y) H := by
  have hp : ipure J ⟨dst, .binOp op t x y yt, type, pos, after, guard⟩ T H = if flat (iev T x) && flat (iev T y) then pureR (pureRun J.P (do eqGuard op t x y (iev T x) (iev T y); binOp op t (iev T x) (iev T y))) H else none := by
    unfold ipure
    have h1 : ((⟨dst, .binOp op t x y yt, type, pos, after, guard⟩ : Oper).op.operands.all fun z => flat (iev T z)) = (flat (iev T x) && flat (iev T y)) := by simp [Op.operands]
    rw [h1]
    split
    · have h2 : execOp (iev T) ⟨dst, .binOp op t x y yt, type, pos, after, guard⟩ = (do pure (Next.value (← (do eqGuard op t x y (iev T x) (iev T y); binOp op t (iev T x) (iev T y)))) : Sem Next) := rfl
      rw [h2, pureRun_bind]
      unfold pureR
      cases pureRun J.P (do eqGuard op t x y (iev T x) (iev T y); binOp op t (iev T x) (iev T y)) <;> rfl
    · rfl
  unfold binR
  simp only [iop, hp]
  rfl
theorem binR_pure {op : BinOp} {t : TypeId} {x y : Operand} {a b : Value} {v : Value} (hn : nilEq a b = none) (hf : (flat a && flat b) = true) (hg : eqGuard op t x y a b = pure ()) (hb : pureRun J.P (binOp op t a b) = some v) (hv : flat v = true) :
    binR J op t x y a b H = some (.val v H) := by
  unfold binR
  rw [hn]
  have : pureR (pureRun J.P (do eqGuard op t x y a b; binOp op t a b)) H = some (.val v H) := by
    rw [hg]
    show pureR (pureRun J.P (binOp op t a b)) H = _
    rw [hb]; simp [pureR, hv]
  cases op <;> simp [hf, this]
section
variable (t : TypeId) (x y : Operand) (k : IntKind) (a b : Int)
@[simp] theorem bin_add : binR J .add t x y (.int k a) (.int k b) H = some (.val (.int k (k.wrap (a + b))) H) := binR_pure J H rfl rfl rfl (by simp [binOp, Op.intArith, pure, pureRun]) rfl
@[simp] theorem bin_sub : binR J .sub t x y (.int k a) (.int k b) H = some (.val (.int k (k.wrap (a - b))) H) := binR_pure J H rfl rfl rfl (by simp [binOp, Op.intArith, pure, pureRun]) rfl
@[simp] theorem bin_mul : binR J .mul t x y (.int k a) (.int k b) H = some (.val (.int k (k.wrap (a * b))) H) := binR_pure J H rfl rfl rfl (by simp [binOp, Op.intArith, pure, pureRun]) rfl
@[simp] theorem bin_quo (h : (b = 0) = False) : binR J .quo t x y (.int k a) (.int k b) H = some (.val (.int k (k.wrap (a.tdiv b))) H) := binR_pure J H rfl rfl rfl (by simp [binOp, Op.intDiv, pure, pureRun, h]) rfl
@[simp] theorem bin_rem (h : (b = 0) = False) : binR J .rem t x y (.int k a) (.int k b) H = some (.val (.int k (a.tmod b)) H) := binR_pure J H rfl rfl rfl (by simp [binOp, Op.intDiv, pure, pureRun, h]) rfl
@[simp] theorem bin_lss : binR J .lss t x y (.int k a) (.int k b) H = some (.val (.bool (decide (a < b))) H) := binR_pure J H rfl rfl rfl (by simp [binOp, Op.intCmp, pure, pureRun]) rfl
@[simp] theorem bin_leq : binR J .leq t x y (.int k a) (.int k b) H = some (.val (.bool (decide (a ≤ b))) H) := binR_pure J H rfl rfl rfl (by simp [binOp, Op.intCmp, pure, pureRun]) rfl
@[simp] theorem bin_gtr : binR J .gtr t x y (.int k a) (.int k b) H = some (.val (.bool (decide (b < a))) H) := binR_pure J H rfl rfl rfl (by simp [binOp, Op.intCmp, pure, pureRun]) rfl
@[simp] theorem bin_geq : binR J .geq t x y (.int k a) (.int k b) H = some (.val (.bool (decide (b ≤ a))) H) := binR_pure J H rfl rfl rfl (by simp [binOp, Op.intCmp, pure, pureRun]) rfl
@[simp] theorem bin_eql : binR J .eql t x y (.int k a) (.int k b) H = some (.val (.bool (decide (a = b))) H) := binR_pure J H rfl rfl rfl (by simp [binOp, Op.intCmp, pure, pureRun]; rfl) rfl
@[simp] theorem bin_neq : binR J .neq t x y (.int k a) (.int k b) H = some (.val (.bool (!decide (a = b))) H) := binR_pure J H rfl rfl rfl (by simp [binOp, Op.intCmp, pure, pureRun, bne]; rfl) rfl
@[simp] theorem bin_shl (k2 : IntKind) (h : (b < 0) = False) : binR J .shl t x y (.int k a) (.int k2 b) H = some (.val (.int k (k.wrap (a * 2 ^ min b.toNat k.bits))) H) := binR_pure J H rfl rfl rfl (by simp [binOp, Op.shift, pure, pureRun, h]) rfl
@[simp] theorem bin_shr (k2 : IntKind) (h : (b < 0) = False) : binR J .shr t x y (.int k a) (.int k2 b) H = some (.val (.int k (a.fdiv (2 ^ min b.toNat k.bits))) H) := binR_pure J H rfl rfl rfl (by simp [binOp, Op.shift, pure, pureRun, h]) rfl
end
section
variable (t : TypeId) (x y : Operand) (s u : ByteArray)
theorem toList_eq (s u : ByteArray) : (s.toList == u.toList) = decide (s = u) := by
  rw [← beq_toListBytes, Bool.eq_iff_iff, decide_eq_true_eq]
  exact ⟨ba_eq, fun h => by rw [h]; exact ba_self _⟩
@[simp] theorem bin_seql : binR J .eql t x y (.string s) (.string u) H = some (.val (.bool (decide (s = u))) H) := binR_pure J H rfl rfl rfl (by simp [binOp, Op.stringOp, pure, pureRun, toList_eq]) rfl
@[simp] theorem bin_sneq : binR J .neq t x y (.string s) (.string u) H = some (.val (.bool (!decide (s = u))) H) := binR_pure J H rfl rfl rfl (by simp [binOp, Op.stringOp, pure, pureRun, toList_eq]) rfl
@[simp] theorem bin_sadd (h : (((s.size + u.size : Nat) : Int) > 9223372036854775807) = False) : binR J .add t x y (.string s) (.string u) H = some (.val (.string (s ++ u)) H) :=
  binR_pure J H rfl rfl rfl (by
    have h' : ¬ (((s.size + u.size : Nat) : Int) > IntKind.i64.max) := by
      rw [show IntKind.i64.max = 9223372036854775807 from rfl]; simpa using h
    simp only [binOp, Op.stringOp]
    rw [if_neg h']
    rfl) rfl
end
@[simp] theorem bin_beql (t : TypeId) (x y : Operand) (a b : Bool) (h : J.und t = some .bool) : binR J .eql t x y (.bool a) (.bool b) H = some (.val (.bool (a == b)) H) := binR_pure J H rfl rfl rfl (by
    simp only [binOp, Op.equal, Op.maxDepth]
    rw [pureRun_bind]
    have : pureRun J.P (Op.equalIn 10000 t (.bool a) (.bool b)) = some (a == b) := by
      show pureRun J.P (Op.equalIn (9999 + 1) t (.bool a) (.bool b)) = _
      unfold Op.equalIn
      rw [pureRun_bind]
      have : pureRun J.P (underlying t) = some .bool := by
        unfold underlying
        rw [pureRun_bind]
        simp [program, pureRun, J.und_ok h, pure]
      rw [this]; rfl
    rw [this]; rfl) rfl
@[simp] theorem bin_nil_eql (t : TypeId) (x y : Operand) (a b : Value) (r : Bool) (h : nilEq a b = some r) (hf : (fitsNil J t a && fitsNil J t b) = true) : binR J .eql t x y a b H = some (.val (.bool r) H) := by
  unfold binR
  rw [h]; simp only [hf, if_true]
@[simp] theorem bin_nil_neq (t : TypeId) (x y : Operand) (a b : Value) (r : Bool) (h : nilEq a b = some r) (hf : (fitsNil J t a && fitsNil J t b) = true) : binR J .neq t x y a b H = some (.val (.bool (!r)) H) := by
  unfold binR
  rw [h]; simp only [hf, if_true]
theorem iop_len_string (x : Operand) (t : TypeId) (s : ByteArray) (hx : iev T x = .string s) (hu : J.und t = some .string) : iop J ⟨dst, .call ⟨.builtin .len, #[x], #[t]⟩, type, pos, after, guard⟩ T H = some (.val (.int .i64 s.size) H) :=
  iop_len' J T H dst type pos after guard x t _ (by simp [lenR, hx, hu])
theorem iop_len_slice (x : Operand) (t e : TypeId) (a : Option Addr) (n c : Nat) (hx : iev T x = .slice a n c) (hu : J.und t = some (.slice e)) : iop J ⟨dst, .call ⟨.builtin .len, #[x], #[t]⟩, type, pos, after, guard⟩ T H = some (.val (.int .i64 n) H) :=
  iop_len' J T H dst type pos after guard x t _ (by simp [lenR, hx, hu])
/-- A length, of whatever is known of the operand. -/
def lenV (J : Env) (t : TypeId) (v : Value) : Option Value :=
  match v with
  | .string s => if (J.und t matches some .string) then some (.int .i64 s.size) else none
  | .slice _ n _ => if (J.und t matches some (.slice _)) then some (.int .i64 n) else none
  | _ => none
theorem iop_len (x : Operand) (t : TypeId) (v : Value) (h : lenV J t (iev T x) = some v) : iop J ⟨dst, .call ⟨.builtin .len, #[x], #[t]⟩, type, pos, after, guard⟩ T H = some (.val v H) := by
  unfold lenV at h
  split at h
  · rename_i s hx
    split at h
    · rename_i hu
      cases h
      exact iop_len_string J T H dst type pos after guard x t s hx hu
    · simp at h
  · rename_i a n c hx
    split at h
    · rename_i hu
      cases h
      exact iop_len_slice J T H dst type pos after guard x t _ a n c hx hu
    · simp at h
  · simp at h
@[simp] theorem iop_append (x y : Operand) (at_ : Array TypeId) : iop J ⟨dst, .call ⟨.builtin .append, #[x, y], at_⟩, type, pos, after, guard⟩ T H = OR.ofPair (iappend J at_ (iev T x) (iev T y) H) := by
  simp [iop, icall0]
@[simp] theorem iop_unsafeString (x y : Operand) (pt : TypeId) (at_ : Array TypeId) (h : at_[0]? = some pt) : iop J ⟨dst, .call ⟨.builtin .unsafeString, #[x, y], at_⟩, type, pos, after, guard⟩ T H = OR.ofPair (iunsafeString J pt (iev T x) (iev T y) H) := by
  simp [iop, icall0, h]
@[simp] theorem iop_sliceData (x : Operand) (at_ : Array TypeId) : iop J ⟨dst, .call ⟨.builtin .unsafeSliceData, #[x], at_⟩, type, pos, after, guard⟩ T H = OR.ofVal H (isliceData (iev T x)) := by
  simp [iop, icall0]
@[simp] theorem iop_copy (x y : Operand) (at_ : Array TypeId) : iop J ⟨dst, .call ⟨.builtin .copy, #[x, y], at_⟩, type, pos, after, guard⟩ T H = OR.ofPair (icopy J at_ (iev T x) (iev T y) H) := by
  simp [iop, icall0]
end
end Go.Proofs.YtjbcjcibnjbpcaaDoor.Idl
namespace Go.Proofs.YtjbcjcibnjbpcaaDoor.Idl
open Go Go.RowKit

section
variable {α : Type}
open Classical in
noncomputable def lim (f : Nat → Option α) : Option α := if h : ∃ k v, f k = some v then f (Classical.choose h) else none
def MonoS (f : Nat → Option α) : Prop := ∀ k k', k ≤ k' → ∀ v, f k = some v → f k' = some v
theorem lim_of {f : Nat → Option α} (hm : MonoS f) {k : Nat} {v : α} (h : f k = some v) : lim f = some v := by
  have he : ∃ k v, f k = some v := ⟨k, v, h⟩
  unfold lim
  rw [dif_pos he]
  obtain ⟨u, hu⟩ := Classical.choose_spec he
  rw [hu]
  rcases Nat.le_total k (Classical.choose he) with h1 | h1
  · rw [hm _ _ h1 v h] at hu; exact hu.symm
  · rw [hm _ _ h1 u hu] at h; exact h
theorem of_lim {f : Nat → Option α} (hm : MonoS f) {v : α} (h : lim f = some v) : ∃ k, ∀ j, k ≤ j → f j = some v := by
  unfold lim at h
  split at h
  · exact ⟨_, fun j hj => hm _ _ hj v h⟩
  · simp at h
theorem opt_ext {a b : Option α} (h1 : ∀ v, a = some v → b = some v) (h2 : ∀ v, b = some v → a = some v) : a = b := by
  cases a with
  | some v => exact (h1 v rfl).symm
  | none => cases b with
    | some v => exact h2 v rfl
    | none => rfl
end

noncomputable def cal (J : Env) (okf : FuncId → Bool) (f : FuncId) (args : Array Value) (H : IH) : Option (IE × IH) := lim fun k => icall J okf k f args H
noncomputable def run (J : Env) (okf : FuncId → Bool) (c : Code) (T : Regs) (H : IH) : Option (IX × Regs × IH) := lim fun k => icode J (icall J okf k) k c T H
section
variable {J : Env} {okf : FuncId → Bool}
theorem cal_mono (f : FuncId) (args : Array Value) (H : IH) : MonoS fun k => icall J okf k f args H := fun k k' hk v h => icall_mono k k' hk f args H v h
theorem run_mono (c : Code) (T : Regs) (H : IH) : MonoS fun k => icode J (icall J okf k) k c T H := fun k k' hk v h => icode_mono (icall_mono k k' hk) k c T H v k' hk h
theorem cal_of {k : Nat} {f : FuncId} {args : Array Value} {H : IH} {r : IE × IH} (h : icall J okf k f args H = some r) : cal J okf f args H = some r := lim_of (cal_mono f args H) h
theorem cal_hook {f : FuncId} {args : Array Value} {H : IH} {v : Value} (h : J.hook f args.toList = some v) : cal J okf f args H = some (.ret v, H) := cal_of (k := 1) (icall_hook J 0 H okf f args v h)
theorem of_cal {f : FuncId} {args : Array Value} {H : IH} {r : IE × IH} (h : cal J okf f args H = some r) : ∃ k, ∀ j, k ≤ j → icall J okf j f args H = some r := of_lim (cal_mono f args H) h
theorem run_of {k1 k2 : Nat} {c : Code} {T : Regs} {H : IH} {r : IX × Regs × IH} (h : icode J (icall J okf k1) k2 c T H = some r) : run J okf c T H = some r :=
  lim_of (run_mono c T H) (k := max k1 k2) (icode_mono (icall_mono k1 _ (Nat.le_max_left _ _)) k2 c T H r _ (Nat.le_max_right _ _) h)
theorem of_run {c : Code} {T : Regs} {H : IH} {r : IX × Regs × IH} (h : run J okf c T H = some r) : ∃ k, ∀ k1 k2, k ≤ k1 → k ≤ k2 → icode J (icall J okf k1) k2 c T H = some r := by
  obtain ⟨k, hk⟩ := of_lim (run_mono c T H) h
  exact ⟨k, fun k1 k2 h1 h2 => icode_mono (icall_mono k k1 h1) k c T H r k2 h2 (hk k (Nat.le_refl _))⟩
theorem mono_cal (k : Nat) : Mono (icall J okf k) (cal J okf) := fun _ _ _ _ h => cal_of h
theorem of_iexec {o : Oper} {T : Regs} {H : IH} {r : IE × IH} (h : iexec J (cal J okf) o T H = some r) : ∃ k, ∀ j, k ≤ j → iexec J (icall J okf j) o T H = some r := by
  rw [iexec_eq] at h
  cases hi : iop J o T H with
  | none => simp [hi, orStep] at h
  | some y =>
    cases y with
    | enter f args H' =>
      rw [hi] at h
      obtain ⟨k, hk⟩ := of_cal (r := r) h
      exact ⟨k, fun j hj => by rw [iexec_eq, hi]; exact hk j hj⟩
    | _ => exact ⟨0, fun j _ => by rw [iexec_eq, hi]; rw [hi] at h; exact h⟩
theorem of_iops (ops : Array Oper) : ∀ (l : List Oper) (T : Regs) (H : IH) (r : IX × Regs × IH), iops J (cal J okf) ops l T H = some r → ∃ k, ∀ j, k ≤ j → iops J (icall J okf j) ops l T H = some r := by
  intro l
  induction l with
  | nil => intro T H r h; exact ⟨0, fun _ _ => h⟩
  | cons o l ih =>
    intro T H r h
    rw [iops_cons] at h
    by_cases hw : wantedR ops T o = true
    · rw [if_pos hw] at h
      cases he : iexec J (cal J okf) o T H with
      | none => simp [he, opStep] at h
      | some y =>
        obtain ⟨k1, hk1⟩ := of_iexec he
        rw [he] at h
        obtain ⟨e, H'⟩ := y
        cases e with
        | ret v =>
          obtain ⟨k2, hk2⟩ := ih _ _ _ h
          refine ⟨max k1 k2, fun j hj => ?_⟩
          rw [iops_cons, if_pos hw, hk1 j (by omega)]
          exact hk2 j (by omega)
        | pan v =>
          refine ⟨k1, fun j hj => ?_⟩
          rw [iops_cons, if_pos hw, hk1 j hj]
          exact h
    · rw [if_neg hw] at h
      obtain ⟨k2, hk2⟩ := ih _ _ _ h
      refine ⟨k2, fun j hj => ?_⟩
      rw [iops_cons, if_neg hw]
      exact hk2 j hj
theorem of_drun (ops : Array Oper) : ∀ (l : List Oper) (s : DSt) (r : DSt × Option Value), drun J (cal J okf) ops l s = some r → ∃ k, ∀ j, k ≤ j → drun J (icall J okf j) ops l s = some r := by
  intro l
  induction l with
  | nil => intro s r h; exact ⟨0, fun _ _ => h⟩
  | cons o l ih =>
    intro s r h
    simp only [drun] at h
    by_cases hw : wantedR ops s.T o = true
    · rw [if_pos hw] at h
      cases he : iexec J (cal J okf) o s.T s.H with
      | none => simp [he] at h
      | some y =>
        obtain ⟨k1, hk1⟩ := of_iexec he
        rw [he] at h
        obtain ⟨e, H'⟩ := y
        cases e with
        | ret v =>
          obtain ⟨k2, hk2⟩ := ih _ _ h
          refine ⟨max k1 k2, fun j hj => ?_⟩
          simp only [drun]
          rw [if_pos hw, hk1 j (by omega)]
          exact hk2 j (by omega)
        | pan v =>
          refine ⟨k1, fun j hj => ?_⟩
          simp only [drun]
          rw [if_pos hw, hk1 j hj]
          exact h
    · rw [if_neg hw] at h
      obtain ⟨k2, hk2⟩ := ih _ _ h
      refine ⟨k2, fun j hj => ?_⟩
      simp only [drun]
      rw [if_neg hw]
      exact hk2 j hj
theorem of_idraw {ops : Array Oper} {T : Regs} {H : IH} {r : IX × Regs × IH} (h : idraw J (cal J okf) ops T H = some r) : ∃ k, ∀ j, k ≤ j → idraw J (icall J okf j) ops T H = some r := by
  unfold idraw at h
  cases he : drun J (cal J okf) ops ops.toList ⟨T, H, [], [H]⟩ with
  | none => simp [he] at h
  | some y =>
    obtain ⟨k, hk⟩ := of_drun ops _ _ _ he
    refine ⟨k, fun j hj => ?_⟩
    unfold idraw
    rw [hk j hj]
    rw [he] at h; exact h
end

/-! ### Code, as equations -/
section
variable (J : Env) (okf : FuncId → Bool) (T : Regs) (H : IH)
theorem run_of1 (c : Code) (x : Option (IX × Regs × IH)) (h : ∀ k, icode J (icall J okf k) (k + 1) c T H = x) : run J okf c T H = x := by
  refine opt_ext (fun v hv => ?_) (fun v hv => ?_)
  · obtain ⟨k, hk⟩ := of_run hv
    rw [← h k]; exact hk k (k + 1) (Nat.le_refl _) (by omega)
  · exact run_of (k1 := 0) (k2 := 1) ((h 0).trans hv)
@[simp] theorem r_skip : run J okf .skip T H = some (.normal, T, H) := run_of1 _ _ _ _ _ _ fun _ => rfl
@[simp] theorem r_label (l : Nat) : run J okf (.label l) T H = some (.normal, T, H) := run_of1 _ _ _ _ _ _ fun _ => rfl
@[simp] theorem r_exit (i : Nat) : run J okf (.exit i) T H = some (.exit i, T, H) := run_of1 _ _ _ _ _ _ fun _ => rfl
@[simp] theorem r_ret : run J okf .ret T H = some (.ret, T, H) := run_of1 _ _ _ _ _ _ fun _ => rfl
theorem r_region' (i : Nat) (ops : Array Oper) : run J okf (.region i ops false) T H = iops J (cal J okf) ops ops.toList T H := by
  refine opt_ext (fun v hv => ?_) (fun v hv => ?_)
  · obtain ⟨k, hk⟩ := of_run hv
    exact iops_mono (mono_cal k) _ _ _ _ _ (hk k (k + 1) (Nat.le_refl _) (by omega))
  · obtain ⟨k, hk⟩ := of_iops _ _ _ _ _ hv
    exact run_of (k1 := k) (k2 := 1) (hk k (Nat.le_refl _))
@[simp] theorem r_region (i : Nat) (ops : List Oper) : run J okf (.region i ops.toArray false) T H = iops J (cal J okf) ops.toArray ops T H := by rw [r_region']
theorem r_draw (i : Nat) (ops : Array Oper) : run J okf (.region i ops true) T H = idraw J (cal J okf) ops T H := by
  refine opt_ext (fun v hv => ?_) (fun v hv => ?_)
  · obtain ⟨k, hk⟩ := of_run hv
    exact idraw_mono (mono_cal k) _ _ _ _ (hk k (k + 1) (Nat.le_refl _) (by omega))
  · obtain ⟨k, hk⟩ := of_idraw hv
    exact run_of (k1 := k) (k2 := 1) (hk k (Nat.le_refl _))
noncomputable def rseq (J : Env) (okf : FuncId → Bool) (b : Code) (r : Option (IX × Regs × IH)) : Option (IX × Regs × IH) :=
  match r with
  | some (.normal, T', H') => run J okf b T' H'
  | r => r
@[simp] theorem rs_normal (b : Code) : rseq J okf b (some (.normal, T, H)) = run J okf b T H := rfl
@[simp] theorem rs_exit (b : Code) (i : Nat) : rseq J okf b (some (.exit i, T, H)) = some (.exit i, T, H) := rfl
@[simp] theorem rs_ret (b : Code) : rseq J okf b (some (.ret, T, H)) = some (.ret, T, H) := rfl
@[simp] theorem rs_pan (b : Code) (v : Value) : rseq J okf b (some (.pan v, T, H)) = some (.pan v, T, H) := rfl
theorem r_two (c a b : Code) (h : ∀ k call, icode J call (k + 1) c T H = andThen (icode J call k a T H) fun T' H' => icode J call k b T' H') : run J okf c T H = rseq J okf b (run J okf a T H) := by
  refine opt_ext (fun v hv => ?_) (fun v hv => ?_)
  · obtain ⟨k, hk⟩ := of_run hv
    have h1 := hk k (k + 1) (Nat.le_refl _) (by omega)
    rw [h] at h1
    cases he : icode J (icall J okf k) k a T H with
    | none => simp [he, andThen] at h1
    | some y =>
      rw [run_of he]
      rw [he] at h1
      obtain ⟨e, T', H'⟩ := y
      cases e <;> first | exact run_of h1 | exact h1
  · cases ha : run J okf a T H with
    | none => simp [ha, rseq] at hv
    | some y =>
      rw [ha] at hv
      obtain ⟨k1, hk1⟩ := of_run ha
      obtain ⟨e, T', H'⟩ := y
      cases e with
      | normal =>
        obtain ⟨k2, hk2⟩ := of_run hv
        refine run_of (k1 := max k1 k2) (k2 := max k1 k2 + 1) ?_
        rw [h, hk1 _ _ (by omega) (by omega)]
        exact hk2 _ _ (by omega) (by omega)
      | _ =>
        refine run_of (k1 := k1) (k2 := k1 + 1) ?_
        rw [h, hk1 _ _ (by omega) (by omega)]
        exact hv
@[simp] theorem r_seq (a b : Code) : run J okf (.seq a b) T H = rseq J okf b (run J okf a T H) := r_two J okf T H _ a b fun k call => icode_seq J call k T H a b
theorem r_loop (c : Code) : run J okf (.loop c) T H = rseq J okf (.loop c) (run J okf c T H) := r_two J okf T H _ c (.loop c) fun k call => icode_loop J call k T H c
noncomputable def rcond (J : Env) (okf : FuncId → Bool) (x y : Code) (T : Regs) (H : IH) (v : Value) : Option (IX × Regs × IH) :=
  match v with
  | .bool true => run J okf x T H
  | .bool false => run J okf y T H
  | _ => none
@[simp] theorem rc_t (x y : Code) : rcond J okf x y T H (.bool true) = run J okf x T H := rfl
@[simp] theorem rc_f (x y : Code) : rcond J okf x y T H (.bool false) = run J okf y T H := rfl
@[simp] theorem r_cond (c : Operand) (x y : Code) : run J okf (.cond c x y) T H = rcond J okf x y T H (iev T c) := by
  refine opt_ext (fun v hv => ?_) (fun v hv => ?_)
  · obtain ⟨k, hk⟩ := of_run hv
    have h1 := hk k (k + 1) (Nat.le_refl _) (by omega)
    rw [icode_cond] at h1
    cases hc : iev T c with
    | bool b =>
      rw [hc] at h1
      cases b <;> exact run_of h1
    | _ => rw [hc] at h1; simp [branch] at h1
  · cases hc : iev T c with
    | bool b =>
      rw [hc] at hv
      cases b <;>
      · obtain ⟨k, hk⟩ := of_run hv
        refine run_of (k1 := k) (k2 := k + 1) ?_
        rw [icode_cond, hc]
        exact hk _ _ (Nat.le_refl _) (Nat.le_refl _)
    | _ => rw [hc] at hv; simp [rcond] at hv
@[simp] theorem r_block (id : Nat) (c : Code) : run J okf (.block id c) T H = blockOut id (run J okf c T H) := by
  refine opt_ext (fun v hv => ?_) (fun v hv => ?_)
  · obtain ⟨k, hk⟩ := of_run hv
    have h1 := hk k (k + 1) (Nat.le_refl _) (by omega)
    rw [icode_block] at h1
    cases he : icode J (icall J okf k) k c T H with
    | none => simp [he, blockOut] at h1
    | some y => rw [run_of he, ← he]; exact h1
  · cases ha : run J okf c T H with
    | none => simp [ha, blockOut] at hv
    | some y =>
      rw [ha] at hv
      obtain ⟨k, hk⟩ := of_run ha
      refine run_of (k1 := k) (k2 := k + 1) ?_
      rw [icode_block, hk _ _ (Nat.le_refl _) (Nat.le_refl _)]
      exact hv
theorem cal_body (f : FuncId) (args : Array Value) (rs : List ResultVar) (c : Code) (h : ∀ k, icall J okf (k + 1) f args H = finish J rs (icode J (icall J okf k) k c (regsOf args.toList 0 .leaf) H)) :
    cal J okf f args H = finish J rs (run J okf c (regsOf args.toList 0 .leaf) H) := by
  refine opt_ext (fun v hv => ?_) (fun v hv => ?_)
  · obtain ⟨k, hk⟩ := of_cal hv
    have h1 := hk (k + 1) (by omega)
    rw [h] at h1
    cases he : icode J (icall J okf k) k c (regsOf args.toList 0 .leaf) H with
    | none => simp [he, finish] at h1
    | some y => rw [run_of he, ← he]; exact h1
  · cases ha : run J okf c (regsOf args.toList 0 .leaf) H with
    | none => simp [ha, finish] at hv
    | some y =>
      rw [ha] at hv
      obtain ⟨k, hk⟩ := of_run ha
      refine cal_of (k := k + 1) ?_
      rw [h, hk _ _ (Nat.le_refl _) (Nat.le_refl _)]
      exact hv
end

/-! ### Drawn regions -/
section
variable (J : Env) (call : CallR) (T : Regs) (H : IH)
/-- A region that may not be gone through in the order of the text by these rules. -/
noncomputable def idrawP := @idraw
noncomputable def dOut (J : Env) (call : CallR) (ops : List Oper) (T : Regs) (H : IH) (r : Option (IX × Regs × IH)) : Option (IX × Regs × IH) :=
  match r with
  | some (.pan _, _, _) => idrawP J call ops.toArray T H
  | r => r
@[simp] theorem dOut_normal (ops : List Oper) (T' : Regs) (H' : IH) : dOut J call ops T H (some (.normal, T', H')) = some (.normal, T', H') := rfl
theorem drun_iops (ops : Array Oper) : ∀ (l : List Oper) (s : DSt),
    match iops J call ops l s.T s.H with
    | some (.normal, T', H') => ∃ vs hs, drun J call ops l s = some (⟨T', H', vs, hs⟩, none)
    | some (.pan _, _, _) => True
    | some _ => False
    | none => drun J call ops l s = none := by
  intro l
  induction l with
  | nil => intro s; exact ⟨s.vs, s.hs, rfl⟩
  | cons o l ih =>
    intro s
    rw [iops_cons]
    simp only [drun]
    by_cases hw : wantedR ops s.T o = true
    · rw [if_pos hw, if_pos hw]
      cases he : iexec J call o s.T s.H with
      | none => simp [opStep]
      | some y =>
        obtain ⟨e, H'⟩ := y
        cases e with
        | ret v => exact ih ⟨putR s.T o.dst v, H', s.vs ++ [(s.T, v)], if isEff J o then s.hs ++ [H'] else s.hs⟩
        | pan v => simp [opStep]
    · rw [if_neg hw, if_neg hw]
      exact ih ⟨putR s.T o.dst undef, s.H, s.vs ++ [(s.T, undef)], if isEff J o then s.hs ++ [s.H] else s.hs⟩
theorem dcheck_nil {ops : Array Oper} (h : pairs J ops = []) (vs : List (Regs × Value)) (hs : List IH) : dcheck J ops vs hs = true := by
  unfold dcheck
  split
  · rfl
  · rw [h]; rfl
theorem draw_static {ops : List Oper} (h : pairs J ops.toArray = []) : idraw J call ops.toArray T H = dOut J call ops T H (iops J call ops.toArray ops T H) := by
  have key := drun_iops J call ops.toArray ops ⟨T, H, [], [H]⟩
  dsimp only at key
  cases hi : iops J call ops.toArray ops T H with
  | none =>
    rw [hi] at key
    unfold idraw
    rw [show ops.toArray.toList = ops from rfl, key]; rfl
  | some y =>
    obtain ⟨x, T', H'⟩ := y
    rw [hi] at key
    cases x with
    | normal =>
      obtain ⟨vs, hs, hd⟩ := key
      unfold idraw
      rw [show ops.toArray.toList = ops from rfl, hd]
      simp [dcheck_nil J h, dOut]
    | pan v => rfl
    | _ => exact absurd key (by simp)
/-! and with memory looked at -/
def dFin (J : Env) (ops : List Oper) (r : Option (DSt × Option Value)) : Option (IX × Regs × IH) :=
  match r with
  | some (s, none) => if dcheck J ops.toArray s.vs s.hs then some (.normal, s.T, s.H) else none
  | some (s, some v) =>
    if dcheck J ops.toArray s.vs s.hs && effAt J ops.toArray s.vs.length && (List.range ops.toArray.size).all (fun j => decide (j ≤ s.vs.length) || waitsFor (waits ops.toArray) j s.vs.length) then some (.pan v, s.T, s.H) else none
  | none => none
theorem draw_look (ops : List Oper) : idraw J call ops.toArray T H = dFin J ops (drun J call ops.toArray ops ⟨T, H, [], [H]⟩) := by
  unfold idraw dFin
  rfl
@[simp] theorem dFin_normal {ops : List Oper} {ps : List (Nat × Nat)} (h : pairs J ops.toArray = ps) (T' : Regs) (H' : IH) (vs : List (Regs × Value)) (hs : List IH) (ho : ps.all (oblig J ops.toArray vs hs) = true) :
    dFin J ops (some (⟨T', H', vs, hs⟩, none)) = some (.normal, T', H') := by
  have : dcheck J ops.toArray vs hs = true := by
    unfold dcheck
    split
    · rfl
    · rw [h]; exact ho
  simp [dFin, this]
def dGo (J : Env) (call : CallR) (ops : Array Oper) (r : List Oper) (o : Oper) (T : Regs) (H : IH) (vs : List (Regs × Value)) (hs : List IH) (b : Bool) : Option (DSt × Option Value) :=
  match b with
  | true => match orStep call (iop J o T H) with
    | some (.ret v, H') => drun J call ops r ⟨putR T o.dst v, H', vs ++ [(T, v)], if isEff J o then hs ++ [H'] else hs⟩
    | some (.pan v, H') => some (⟨T, H', vs, hs⟩, some v)
    | none => none
  | false => drun J call ops r ⟨putR T o.dst undef, H, vs ++ [(T, undef)], if isEff J o then hs ++ [H] else hs⟩
def dRes (J : Env) (call : CallR) (ops : Array Oper) (r : List Oper) (o : Oper) (T : Regs) (vs : List (Regs × Value)) (hs : List IH) (x : Option (IE × IH)) : Option (DSt × Option Value) :=
  match x with
  | some (.ret v, H') => drun J call ops r ⟨putR T o.dst v, H', vs ++ [(T, v)], if isEff J o then hs ++ [H'] else hs⟩
  | some (.pan v, H') => some (⟨T, H', vs, hs⟩, some v)
  | none => none
@[simp] theorem drun_nil (ops : Array Oper) (s : DSt) : drun J call ops [] s = some (s, none) := rfl
@[simp] theorem drun_cons (ops : Array Oper) (o : Oper) (r : List Oper) (vs : List (Regs × Value)) (hs : List IH) : drun J call ops (o :: r) ⟨T, H, vs, hs⟩ = dGo J call ops r o T H vs hs (wantedR ops T o) := by
  simp only [drun]
  unfold dGo
  cases wantedR ops T o
  · rfl
  · simp only [if_true, iexec_eq]
    rfl
@[simp] theorem dGo_true (ops : Array Oper) (o : Oper) (r : List Oper) (vs : List (Regs × Value)) (hs : List IH) : dGo J call ops r o T H vs hs true = dRes J call ops r o T vs hs (orStep call (iop J o T H)) := rfl
@[simp] theorem dGo_false (ops : Array Oper) (o : Oper) (r : List Oper) (vs : List (Regs × Value)) (hs : List IH) : dGo J call ops r o T H vs hs false = drun J call ops r ⟨putR T o.dst undef, H, vs ++ [(T, undef)], if isEff J o then hs ++ [H] else hs⟩ := rfl
@[simp] theorem dRes_ret (ops : Array Oper) (o : Oper) (r : List Oper) (vs : List (Regs × Value)) (hs : List IH) (v : Value) : dRes J call ops r o T vs hs (some (.ret v, H)) = drun J call ops r ⟨putR T o.dst v, H, vs ++ [(T, v)], if isEff J o then hs ++ [H] else hs⟩ := rfl
end
end Go.Proofs.YtjbcjcibnjbpcaaDoor.Idl
namespace Go.Proofs.YtjbcjcibnjbpcaaDoor.Idl
open Go Go.RowKit

theorem Tr.setF_setF {α : Type} (x y : α) : ∀ (k : Nat) (t : Tr α) (n : Nat), n < k → Tr.setF y k (Tr.setF x k t n) n = Tr.setF y k t n := by
  intro k
  induction k with
  | zero => intro t n h; omega
  | succ k ih =>
    intro t n h
    cases t with
    | leaf =>
      simp only [Tr.setF]
      by_cases h0 : n = 0
      · simp [h0, Tr.setF]
      · by_cases h1 : n % 2 = 1
        · simp only [h0, h1, if_true, if_false, Tr.setF]
          rw [ih _ _ (by omega)]
        · simp only [h0, h1, if_false, Tr.setF]
          rw [ih _ _ (by omega)]
    | node v l r =>
      simp only [Tr.setF]
      by_cases h0 : n = 0
      · simp [h0, Tr.setF]
      · by_cases h1 : n % 2 = 1
        · simp only [h0, h1, if_true, if_false, Tr.setF]
          rw [ih _ _ (by omega)]
        · simp only [h0, h1, if_false, Tr.setF]
          rw [ih _ _ (by omega)]
theorem Tr.setF_get {α : Type} (x : α) : ∀ (k : Nat) (t : Tr α) (n : Nat), n < k → t.get n = some x → Tr.setF x k t n = t := by
  intro k
  induction k with
  | zero => intro t n h; omega
  | succ k ih =>
    intro t n h hg
    cases t with
    | leaf => simp [Tr.get] at hg
    | node v l r =>
      simp only [Tr.get] at hg
      simp only [Tr.setF]
      by_cases h0 : n = 0
      · rw [if_pos h0] at hg ⊢; rw [hg]
      · rw [if_neg h0] at hg ⊢
        by_cases h1 : n % 2 = 1
        · rw [if_pos h1] at hg ⊢
          rw [ih l _ (by omega) hg]
        · rw [if_neg h1] at hg ⊢
          rw [ih r _ (by omega) hg]
namespace IH
theorem set_same (H : IH) (b : Nat) (x : Blk) (h : H.get b = some x) : H.set b x = H := by
  unfold IH.set Tr.set
  rw [Tr.setF_get x (b + 1) H.t b (by omega) h]
@[simp] theorem set_set (H : IH) (b : Nat) (x y : Blk) : (H.set b x).set b y = H.set b y := by
  unfold IH.set Tr.set
  simp only [Tr.setF_setF x y (b + 1) H.t b (by omega)]
@[simp] theorem get_set_same (H : IH) (b : Nat) (x : Blk) : (H.set b x).get b = some x := by rw [get_set, if_pos rfl]
theorem get_set_other (H : IH) (b c : Nat) (x : Blk) (h : c ≠ b) : (H.set b x).get c = H.get c := by rw [get_set, if_neg h]
@[simp] theorem get_push_same (H : IH) (x : Blk) : (H.push x).get H.next = some x := by rw [get_push, if_pos rfl]
theorem get_push_other (H : IH) (c : Nat) (x : Blk) (h : c < H.next) : (H.push x).get c = H.get c := by rw [get_push, if_neg (by omega)]
end IH

section
variable (J : Env) (H : IH)
@[simp] theorem add_addr (b off n : Nat) : Addr.add ⟨b, off, none⟩ n = ⟨b, off + n, none⟩ := add_plain b off n
def cellOf (x : Option Blk) (off : Nat) : Option Value :=
  match x with
  | some (.cells cs _ _) => cs[off]?
  | _ => none
@[simp] theorem cellOf_cells (cs : List Value) (e : TypeId) (pr : Bool) (off : Nat) : cellOf (some (.cells cs e pr)) off = cs[off]? := rfl
@[simp] theorem icell_eq (b off : Nat) : icell H ⟨b, off, none⟩ = cellOf (H.get b) off := by
  simp only [icell, cellOf]
  split <;> simp_all
def cellsOf (x : Option Blk) (off n : Nat) : Option (List Value) :=
  match x with
  | some (.cells cs _ _) => if off + n ≤ cs.length then some ((cs.drop off).take n) else none
  | _ => none
@[simp] theorem cellsOf_cells (cs : List Value) (e : TypeId) (pr : Bool) (off n : Nat) : cellsOf (some (.cells cs e pr)) off n = if off + n ≤ cs.length then some ((cs.drop off).take n) else none := rfl
@[simp] theorem icells_eq (b off n : Nat) : icells H ⟨b, off, none⟩ n = cellsOf (H.get b) off n := by
  simp only [icells, cellsOf]
  split <;> simp_all
def putOf (H : IH) (b off : Nat) (vs : List Value) (x : Option Blk) : Option IH :=
  match x with
  | some (.cells cs e false) => if off + vs.length ≤ cs.length ∧ vs ≠ [] ∧ vs.all plain1 then some (H.set b (.cells (overlay cs off vs) e false)) else none
  | _ => none
@[simp] theorem putOf_cells (b off : Nat) (vs cs : List Value) (e : TypeId) : putOf H b off vs (some (.cells cs e false)) = if off + vs.length ≤ cs.length ∧ vs ≠ [] ∧ vs.all plain1 then some (H.set b (.cells (overlay cs off vs) e false)) else none := rfl
@[simp] theorem iput_eq (b off : Nat) (vs : List Value) : iput H ⟨b, off, none⟩ vs = putOf H b off vs (H.get b) := by
  simp only [iput, putOf]
  split <;> simp_all
def loadT (J : Env) (t : TypeId) (H : IH) (a : Addr) (x : Option Bool) : Option Value :=
  match x with
  | some true => match J.size t with
    | some n => (icells H a n).map fun cs => .agg cs.toArray
    | none => none
  | some false => icell H a
  | none => none
@[simp] theorem iload_eq (t : TypeId) (a : Addr) : iload J t a H = loadT J t H a (isAggT J t) := rfl
@[simp] theorem loadT_plain (t : TypeId) (a : Addr) : loadT J t H a (some false) = icell H a := rfl
theorem loadT_agg (t n : Nat) (a : Addr) (h : J.size t = some n) : loadT J t H a (some true) = (icells H a n).map fun cs => .agg cs.toArray := by simp [loadT, h]
def idxS (s : ByteArray) (i : Int) : Option Value := if 0 ≤ i then (s[i.toNat]?).map fun b => .int .u8 b.toNat else none
@[simp] theorem index_string (t : TypeId) (s : ByteArray) (k : IntKind) (i : Int) (h : J.und t = some .string) : iindex J t (.string s) (.int k i) = idxS s i := by
  simp [iindex, h, idxS]
theorem idxS_nat (s : ByteArray) (i : Nat) (h : i < s.size) : idxS s i = some (.int .u8 (s[i]).toNat) := by
  simp [idxS, h]
def sliceS (s : ByteArray) (l h : Option Nat) : Option Value :=
  match l, h with
  | some l, some h => if l ≤ h ∧ h ≤ s.size then some (.string (s.extract l h)) else none
  | _, _ => none
@[simp] theorem slice_string (t : TypeId) (s : ByteArray) (lo hi : Option Value) (h : J.und t = some .string) : islice J t (.string s) lo hi none H = sliceS s (ibound lo 0) (ibound hi s.size) := by
  simp only [islice, h, sliceS]
  split <;> rename_i h1 <;> split <;> simp_all
@[simp] theorem bound_none (d : Nat) : ibound none d = some d := rfl
@[simp] theorem bound_nat (k : IntKind) (n d : Nat) : ibound (some (.int k (n : Int))) d = some n := by simp [ibound]
theorem bound_int (k : IntKind) (i : Int) (d : Nat) : ibound (some (.int k i)) d = if 0 ≤ i then some i.toNat else none := rfl
theorem sliceS_some (s : ByteArray) (l h : Nat) (h1 : l ≤ h) (h2 : h ≤ s.size) : sliceS s (some l) (some h) = some (.string (s.extract l h)) := by simp [sliceS, h1, h2]
/-! A 64-bit reckoning that does not wrap. -/
theorem wrap64 (n : Int) (h1 : -9223372036854775808 ≤ n) (h2 : n ≤ 9223372036854775807) : IntKind.i64.wrap n = n := by
  simp [IntKind.wrap, IntKind.bits, IntKind.signed]
  omega
theorem wrap64_nat (n : Nat) (h2 : n ≤ 9223372036854775807) : IntKind.i64.wrap (n : Int) = n := wrap64 _ (by omega) (by omega)
end

noncomputable def iopP := @iop
def lenQ (x : Option Value) (H : IH) (f : Option OR) : Option OR :=
  match x with
  | some v => some (.val v H)
  | none => f
@[simp] theorem lenQ_some (v : Value) (H : IH) (f : Option OR) : lenQ (some v) H f = some (.val v H) := rfl
section
variable (J : Env) (T : Regs) (H : IH) (dst : Option Tmp) (type : TypeId) (pos : String) (after : Array Edge) (guard : Option (Nat × Bool))
@[simp] theorem iop_len_q (x : Operand) (t : TypeId) : iop J ⟨dst, .call ⟨.builtin .len, #[x], #[t]⟩, type, pos, after, guard⟩ T H =
    lenQ (lenV J t (iev T x)) H (iopP J ⟨dst, .call ⟨.builtin .len, #[x], #[t]⟩, type, pos, after, guard⟩ T H) := by
  cases h : lenV J t (iev T x) with
  | some v => exact iop_len J T H dst type pos after guard x t v h
  | none => rfl
@[simp] theorem lenV_string (t : TypeId) (s : ByteArray) (h : J.und t = some .string) : lenV J t (.string s) = some (.int .i64 s.size) := by simp [lenV, h]
def lenS (d : Option TypeDesc) (n : Nat) : Option Value :=
  match d with
  | some (.slice _) => some (.int .i64 n)
  | _ => none
@[simp] theorem lenS_slice (e : TypeId) (n : Nat) : lenS (some (.slice e)) n = some (.int .i64 n) := rfl
@[simp] theorem lenV_slice (t : TypeId) (a : Option Addr) (n c : Nat) : lenV J t (.slice a n c) = lenS (J.und t) n := by
  unfold lenV lenS
  dsimp only
  split <;> split <;> simp_all
end
end Go.Proofs.YtjbcjcibnjbpcaaDoor.Idl
namespace Go.Proofs.YtjbcjcibnjbpcaaDoor.Idl
open Go Go.RowKit

section
variable (J : Env) (T : Regs) (H : IH) (dst : Option Tmp) (type : TypeId) (pos : String) (after : Array Edge) (guard : Option (Nat × Bool))
theorem ipure_of {o : Oper} {v : Value} (hf : (o.op.operands.all fun x => flat (iev T x)) = true) (h : pureRun J.P (execOp (iev T) o) = some (.value v)) (hv : flat v = true) : ipure J o T H = some (.val v H) := by
  unfold ipure
  rw [if_pos hf, h]
  simp [hv]
def notR (v : Value) (H : IH) : Option OR :=
  match v with
  | .bool b => some (.val (.bool (!b)) H)
  | _ => none
@[simp] theorem notR_bool (b : Bool) : notR (.bool b) H = some (.val (.bool (!b)) H) := rfl
theorem iop_not (t : TypeId) (x : Operand) (b : Bool) (h : iev T x = .bool b) : iop J ⟨dst, .unOp .not t x, type, pos, after, guard⟩ T H = some (.val (.bool (!b)) H) := by
  show ipure J _ T H = _
  refine ipure_of J T H (by simp [Op.operands, h, flat, flatN]) ?_ rfl
  simp only [execOp, h]
  rfl
def isB (v : Value) : Option Bool :=
  match v with
  | .bool b => some b
  | _ => none
def notQ (x : Option Bool) (H : IH) (f : Option OR) : Option OR :=
  match x with
  | some b => some (.val (.bool (!b)) H)
  | none => f
@[simp] theorem notQ_some (b : Bool) (f : Option OR) : notQ (some b) H f = some (.val (.bool (!b)) H) := rfl
@[simp] theorem isB_bool (b : Bool) : isB (.bool b) = some b := rfl
@[simp] theorem iop_not_q (t : TypeId) (x : Operand) : iop J ⟨dst, .unOp .not t x, type, pos, after, guard⟩ T H = notQ (isB (iev T x)) H (iopP J ⟨dst, .unOp .not t x, type, pos, after, guard⟩ T H) := by
  cases h : iev T x with
  | bool b => exact iop_not J T H dst type pos after guard t x b h
  | _ => rfl
/-- A conversion of a number to a number. -/
theorem iop_conv (src d : TypeId) (x : Operand) (k0 k k2 : IntKind) (n : Int) (hx : iev T x = .int k n) (hs : J.und src = some (.int k0)) (hd : J.und d = some (.int k2)) :
    iop J ⟨dst, .convert src d x, type, pos, after, guard⟩ T H = some (.val (.int k2 (k2.wrap n)) H) := by
  have hi : iconvert J src d (iev T x) H = none := by simp only [iconvert, hs, hd, hx]
  have hp : ipure J ⟨dst, .convert src d x, type, pos, after, guard⟩ T H = some (.val (.int k2 (k2.wrap n)) H) := by
    refine ipure_of J T H (by simp [Op.operands, hx, flat, flatN]) ?_ rfl
    simp only [execOp, hx]
    have e : pureRun J.P (convert src d (.int k n)) = some (.int k2 (k2.wrap n)) := by
      unfold convert
      rw [pureRun_bind]
      have h1 : ∀ t u, J.und t = some u → pureRun J.P (underlying t) = some u := fun t u h => by
        unfold underlying
        rw [pureRun_bind]
        simp [program, pureRun, J.und_ok h, pure]
      rw [h1 _ _ hs]
      simp only [Option.bind_some]
      rw [pureRun_bind, h1 _ _ hd]
      simp only [Option.bind_some]
      rfl
    rw [pureRun_bind, e]; rfl
  simp only [iop, hi, hp]
def convQ (_J : Env) (s d : Option TypeDesc) (v : Value) : Option Value :=
  match s, d, v with
  | some (.int _), some (.int k2), .int _ n => some (.int k2 (k2.wrap n))
  | _, _, _ => none
@[simp] theorem convQ_int (k1 k2 k : IntKind) (n : Int) : convQ J (some (.int k1)) (some (.int k2)) (.int k n) = some (.int k2 (k2.wrap n)) := rfl
def convR (x : Option (Value × IH)) (f : Option OR) : Option OR :=
  match x with
  | some (v, H') => some (.val v H')
  | none => f
@[simp] theorem convR_some (v : Value) (H' : IH) (f : Option OR) : convR (some (v, H')) f = some (.val v H') := rfl
@[simp] theorem convR_none (f : Option OR) : convR none f = f := rfl
@[simp] theorem iconvert_int (s d : TypeId) (k : IntKind) (n : Int) : iconvert J s d (.int k n) H = none := by
  unfold iconvert
  split <;> simp_all
@[simp] theorem iop_convR (src d : TypeId) (x : Operand) : iop J ⟨dst, .convert src d x, type, pos, after, guard⟩ T H = convR (iconvert J src d (iev T x) H) (lenQ (convQ J (J.und src) (J.und d) (iev T x)) H (iopP J ⟨dst, .convert src d x, type, pos, after, guard⟩ T H)) := by
  cases hi : iconvert J src d (iev T x) H with
  | some p => simp only [iop, hi]; rfl
  | none =>
    simp only [convR_none]
    cases h : convQ J (J.und src) (J.und d) (iev T x) with
    | none => rfl
    | some v =>
      unfold convQ at h
      split at h
      · rename_i k1 k2 k n h1 h2 h3
        cases h
        exact iop_conv J T H dst type pos after guard src d x k1 k k2 n h3 h1 h2
      · simp at h
theorem iop_conv_q (src d : TypeId) (x : Operand) : iop J ⟨dst, .convert src d x, type, pos, after, guard⟩ T H = lenQ (convQ J (J.und src) (J.und d) (iev T x)) H (iopP J ⟨dst, .convert src d x, type, pos, after, guard⟩ T H) := by
  cases h : convQ J (J.und src) (J.und d) (iev T x) with
  | none => rfl
  | some v =>
    unfold convQ at h
    split at h
    · rename_i k1 k2 k n h1 h2 h3
      cases h
      exact iop_conv J T H dst type pos after guard src d x k1 k k2 n h3 h1 h2
    · simp at h
/-- bytealg.IndexByteString. -/
def idxB (s : ByteArray) (c : Int) : Int :=
  match (List.range s.size).find? fun i => s[i]! == c.toNat.toUInt8 with
  | some i => i
  | none => -1
theorem ext_run {P : Program} {f : Operand} {g : FuncId} {fn : Func} {args : Array Operand} {at_ : Array TypeId} {e : Array Value → Sem Value} {v : Value} (hf : iev T f = .func (.func g) #[] #[]) (hfn : P.funcs[g]? = some fn)
    (hname : (fn.name == "runtime.NumGoroutine") = false) (hb : fn.body.isNone = true) (hn : Extern.findNext fn = none) (he : Extern.find fn = some e) (hv : pureRun P (e (args.map (iev T))) = some v) :
    pureRun P (execOp (iev T) ⟨dst, .call ⟨.value f, args, at_⟩, type, pos, after, guard⟩) = some (.value v) := by
  have h0 : pureRun P (callFunc g (args.map (iev T))) = some (.value v) := by
    unfold callFunc
    rw [pureRun_bind]
    show Option.bind (some P) _ = _
    simp only [Option.bind_some, hfn, hname, hb, if_true, if_false, Bool.false_eq_true, hn, he]
    rw [pureRun_bind]
    show Option.bind (some ()) _ = _
    simp only [Option.bind_some]
    rw [pureRun_bind, hv]; rfl
  unfold execOp
  dsimp only
  unfold resolve
  dsimp only
  rw [hf]
  unfold Deferred.ofValue
  rw [pureRun_bind]
  show Option.bind (some _) _ = _
  simp only [Option.bind_some]
  unfold invoke
  dsimp only
  simpa using h0
theorem indexByte_pure (P : Program) (s : ByteArray) (c : Int) : pureRun P (Extern.BytealgIndexByte.indexByte #[.string s, .int .u8 c]) = some (.int .i64 (idxB s c)) := by
  have e : Extern.BytealgIndexByte.indexByte #[.string s, .int .u8 c] = (do
      let b ← (pure s : Sem ByteArray)
      let c ← (pure c.toNat.toUInt8 : Sem UInt8)
      match (List.range b.size).find? fun i => b[i]! == c with
      | some i => pure (.int .i64 i)
      | none => pure (.int .i64 (-1))) := rfl
  rw [e, pureRun_bind]
  show Option.bind (some s) _ = _
  simp only [Option.bind_some]
  rw [pureRun_bind]
  show Option.bind (some _) _ = _
  simp only [Option.bind_some]
  unfold idxB
  cases (List.range s.size).find? (fun i => s[i]! == c.toNat.toUInt8) <;> rfl
theorem indexByte_ext (f x y : Operand) (g : FuncId) (fn : Func) (at_ : Array TypeId) (s : ByteArray) (c : Int) (hf : iev T f = .func (.func g) #[] #[]) (hx : iev T x = .string s) (hy : iev T y = .int .u8 c)
    (hfn : J.P.funcs[g]? = some fn) (hb0 : hasBody J g = false) (hid : J.ident g = false) (hname : (fn.name == "runtime.NumGoroutine") = false) (hb : fn.body.isNone = true) (hn : Extern.findNext fn = none) (he : Extern.find fn = some Extern.BytealgIndexByte.indexByte) :
    funcR J (.func (.func g) #[] #[]) #[.string s, .int .u8 c] ⟨dst, .call ⟨.value f, #[x, y], at_⟩, type, pos, after, guard⟩ T H = some (.val (.int .i64 (idxB s c)) H) := by
  simp only [funcR, hb0, hid, Bool.false_eq_true, if_false]
  refine ipure_of J T H ?_ (ext_run T dst type pos after guard hf hfn hname hb hn he ?_) rfl
  · simp [Op.operands, Call.operands, hf, hx, hy, flat, flatN]
  · simp only [List.map_toArray, List.map_cons, List.map_nil, hx, hy]
    exact indexByte_pure J.P s c
end
end Go.Proofs.YtjbcjcibnjbpcaaDoor.Idl
namespace Go.Proofs.YtjbcjcibnjbpcaaDoor.Idl
open Go Go.RowKit

/-- A []byte that append made: its block is at or above lo. -/
def BsAt (_J : Env) (e : TypeId) (H : IH) (v : Value) (l : List Int) (lo : Nat) : Prop :=
  (v = .slice none 0 0 ∧ l = []) ∨ ∃ b, lo ≤ b ∧ b < H.next ∧ v = .slice (some ⟨b, 0, none⟩) l.length capU ∧ H.get b = some (.cells (l.map (Value.int .u8)) e false)
structure BT (J : Env) (st e : TypeId) : Prop where
  und : J.und st = some (.slice e)
  size : J.size e = some 1
  bytes : J.bytes e = some 1
  zero : J.zero e = some (.int .u8 0)
  byte : J.und e = some (.int .u8)
theorem take_map (l : List Int) : List.take l.length (l.map (Value.int IntKind.u8)) = l.map (Value.int IntKind.u8) := by
  have := List.take_length (l := l.map (Value.int IntKind.u8))
  rwa [List.length_map] at this
theorem bytesOf_ints (l : List Int) : bytesOfCells (l.map (Value.int .u8)) = some (l.map fun n => UInt8.ofNat n.toNat) := by
  induction l with
  | nil => rfl
  | cons n l ih => simp [bytesOfCells, ih]
section
variable {J : Env} {st e : TypeId} (hT : BT J st e)
include hT
theorem build1 (H : IH) (c : Int) : ibuildSlice J st 1 [(0, .int .u8 c)] H = some (.slice (some ⟨H.next, 0, none⟩) 1 1, H.push (.cells [.int .u8 c] e false)) := by
  have : Instr.fill (fun i => some (i, 1)) (Array.map (fun x => (Value.int IntKind.u8 0).cells[x % (Value.int IntKind.u8 0).cells.size]!) (Array.range 1)) [(0, Value.int IntKind.u8 c)] = some #[.int .u8 c] := by
    have hr : Array.range 1 = #[0] := by decide
    simp [Instr.fill, Value.cells, hr]
  simp [ibuildSlice, hT.und, hT.size, hT.zero, this]
theorem app1 {H : IH} {v : Value} {l : List Int} {lo : Nat} (hv : BsAt J e H v l lo) (hlo : lo ≤ H.next) (hl : l.length < 2 ^ 40) (c : Int) :
    ∃ v' H', iappend J #[st, st] v (.slice (some ⟨H.next, 0, none⟩) 1 1) (H.push (.cells [.int .u8 c] e false)) = some (v', H') ∧ BsAt J e H' v' (l ++ [c]) lo ∧ H.next ≤ H'.next ∧ ∀ x, x < lo → H'.get x = H.get x := by
  have hz : (Value.int IntKind.u8 0).cells.size = 1 := rfl
  rcases hv with ⟨rfl, rfl⟩ | ⟨b, h1, h2, rfl, h4⟩
  · refine ⟨.slice (some ⟨H.next + 1, 0, none⟩) 1 capU, (H.push (.cells [.int .u8 c] e false)).push (.cells [.int .u8 c] e false), ?_, .inr ⟨H.next + 1, by omega, by simp, by simp, ?_⟩, by simp; omega, fun x hx => ?_⟩
    · simp [iappend, hT.und, hT.size, hT.bytes, hT.zero, ilenOf, ifirst, Value.cells]
    · have : H.next + 1 = (H.push (.cells [.int .u8 c] e false)).next := rfl
      rw [this, IH.get_push_same]; rfl
    · rw [IH.get_push_other _ _ _ (by simp; omega), IH.get_push_other _ _ _ (by omega)]
  · have hb : (H.push (.cells [.int .u8 c] e false)).get b = some (.cells (l.map (Value.int .u8)) e false) := by rw [IH.get_push_other _ _ _ h2]; exact h4
    have hall : ((l.map (Value.int IntKind.u8))).all plain1 = true := by simp [plain1]
    refine ⟨.slice (some ⟨H.next + 1, 0, none⟩) (l.length + 1) capU, ((H.push (.cells [.int .u8 c] e false)).set b .dead).push (.cells (l.map (Value.int .u8) ++ [.int .u8 c]) e false), ?_, .inr ⟨H.next + 1, by omega, by simp, by simp, ?_⟩, by simp; omega, fun x hx => ?_⟩
    · have hcap : ((l.length + 1) * 3 ≤ 2 ^ 47) := by omega
      simp [iappend, hT.und, hT.size, hT.bytes, hT.zero, ilenOf, ifirst, Value.cells, hb, plain1, hcap, capU, take_map]
    · have : H.next + 1 = ((H.push (.cells [.int .u8 c] e false)).set b .dead).next := rfl
      rw [this, IH.get_push_same]; simp
    · rw [IH.get_push_other _ _ _ (by simp; omega), IH.get_set_other _ _ _ _ (by omega), IH.get_push_other _ _ _ (by omega)]
def strOf (l : List Int) : ByteArray := ⟨(l.map fun n => UInt8.ofNat n.toNat).toArray⟩
theorem conv_bytes {H : IH} {v : Value} {l : List Int} {lo : Nat} {d : TypeId} (hv : BsAt J e H v l lo) (hd : J.und d = some .string) : iconvert J st d v H = some (.string (strOf l), H) := by
  rcases hv with ⟨rfl, rfl⟩ | ⟨b, h1, h2, rfl, h4⟩
  · simp [iconvert, hT.und, hd, hT.byte]; rfl
  · have hm := bytesOf_ints l
    simp [iconvert, hT.und, hd, hT.byte, h4, hm, strOf, take_map]
end
end Go.Proofs.YtjbcjcibnjbpcaaDoor.Idl
namespace Go.Proofs.YtjbcjcibnjbpcaaDoor.Idl
open Go Go.RowKit

section
variable (J : Env) (T : Regs) (H : IH) (dst : Option Tmp) (type : TypeId) (pos : String) (after : Array Edge) (guard : Option (Nat × Bool))
def orI (k : IntKind) (a b : Int) : Int := k.wrap ((BitVec.ofInt k.bits a ||| BitVec.ofInt k.bits b).toNat : Int)
def andI (k : IntKind) (a b : Int) : Int := k.wrap ((BitVec.ofInt k.bits a &&& BitVec.ofInt k.bits b).toNat : Int)
def xorI (k : IntKind) (a b : Int) : Int := k.wrap ((BitVec.ofInt k.bits a ^^^ BitVec.ofInt k.bits b).toNat : Int)
section
variable (t : TypeId) (x y : Operand) (k : IntKind) (a b : Int)
@[simp] theorem bin_or : binR J .or t x y (.int k a) (.int k b) H = some (.val (.int k (orI k a b)) H) := binR_pure J H rfl rfl rfl (by simp [binOp, Op.intBits, pure, pureRun]; rfl) rfl
@[simp] theorem bin_and : binR J .and t x y (.int k a) (.int k b) H = some (.val (.int k (andI k a b)) H) := binR_pure J H rfl rfl rfl (by simp [binOp, Op.intBits, pure, pureRun]; rfl) rfl
@[simp] theorem bin_xor : binR J .xor t x y (.int k a) (.int k b) H = some (.val (.int k (xorI k a b)) H) := binR_pure J H rfl rfl rfl (by simp [binOp, Op.intBits, pure, pureRun]; rfl) rfl
end
def notI (k : IntKind) (n : Int) : Int := xorI k (if k.signed then -1 else k.max) n
def isI (v : Value) : Option Value :=
  match v with
  | .int k n => some (.int k (notI k n))
  | _ => none
@[simp] theorem isI_int (k : IntKind) (n : Int) : isI (.int k n) = some (.int k (notI k n)) := rfl
theorem iop_xor (t : TypeId) (x : Operand) (k : IntKind) (n : Int) (h : iev T x = .int k n) : iop J ⟨dst, .unOp .xor t x, type, pos, after, guard⟩ T H = some (.val (.int k (notI k n)) H) := by
  show ipure J _ T H = _
  refine ipure_of J T H (by simp [Op.operands, h, flat, flatN]) ?_ rfl
  simp only [execOp, h]
  rfl
@[simp] theorem iop_xor_q (t : TypeId) (x : Operand) : iop J ⟨dst, .unOp .xor t x, type, pos, after, guard⟩ T H = lenQ (isI (iev T x)) H (iopP J ⟨dst, .unOp .xor t x, type, pos, after, guard⟩ T H) := by
  cases h : iev T x with
  | int k n => exact iop_xor J T H dst type pos after guard t x k n h
  | _ => rfl
end
end Go.Proofs.YtjbcjcibnjbpcaaDoor.Idl
namespace Go.Proofs.YtjbcjcibnjbpcaaDoor
open Go Go.Shelf Go.RowKit
set_option maxRecDepth 100000
def lays173_ren : Shelf.Ren := { f := fun x => match x with | 173 => 27 | 246 => 54 | 283 => 63 | 284 => 64 | 285 => 65 | 286 => 66 | 129 => 76 | 317 => 75 | 318 => 77 | 319 => 78 | 320 => 79 | 337 => 87 | 338 => 88 | n => n, t := fun x => match x with | 2 => 2 | 3 => 3 | 9 => 9 | 4 => 4 | 171 => 86 | 0 => 0 | 53 => 87 | 37 => 40 | 5 => 5 | 173 => 90 | 212 => 107 | 51 => 95 | 20 => 20 | 213 => 108 | 46 => 101 | 232 => 132 | 233 => 133 | n => n, g := fun x => match x with | 17 => 2 | 18 => 6 | 19 => 7 | n => n }
theorem lays173 : LaysM.n173 Tryd.prog lays173_ren where
  mixed := by kernel_rfl
  f129 := Tryd.func76.trans (congrArg some (by kernel_rfl))
  f173 := Tryd.func27.trans (congrArg some (by kernel_rfl))
  f246 := Tryd.func54.trans (congrArg some (by kernel_rfl))
  f283 := Tryd.func63.trans (congrArg some (by kernel_rfl))
  f284 := Tryd.func64.trans (congrArg some (by kernel_rfl))
  f285 := Tryd.func65.trans (congrArg some (by kernel_rfl))
  f286 := Tryd.func66.trans (congrArg some (by kernel_rfl))
  f317 := Tryd.func75.trans (congrArg some (by kernel_rfl))
  f318 := Tryd.func77.trans (congrArg some (by kernel_rfl))
  f319 := Tryd.func78.trans (congrArg some (by kernel_rfl))
  f320 := Tryd.func79.trans (congrArg some (by kernel_rfl))
  f337 := Tryd.func87.trans (congrArg some (by kernel_rfl))
  f338 := Tryd.func88.trans (congrArg some (by kernel_rfl))
  t0 := Tryd.underlying0
  a0 := Tryd.isAgg0
  z0 := Tryd.sizeOf0
  v0 := Tryd.zeroValue0
  t2 := Tryd.underlying2
  a2 := Tryd.isAgg2
  z2 := Tryd.sizeOf2
  v2 := Tryd.zeroValue2
  t3 := Tryd.underlying3
  a3 := Tryd.isAgg3
  z3 := Tryd.sizeOf3
  v3 := Tryd.zeroValue3
  t4 := Tryd.underlying4
  a4 := Tryd.isAgg4
  z4 := Tryd.sizeOf4
  v4 := Tryd.zeroValue4
  t5 := Tryd.underlying5
  a5 := Tryd.isAgg5
  z5 := Tryd.sizeOf5
  v5 := Tryd.zeroValue5
  t9 := Tryd.underlying9
  a9 := Tryd.isAgg9
  z9 := Tryd.sizeOf9
  v9 := Tryd.zeroValue9
  t20 := Tryd.underlying20
  a20 := Tryd.isAgg20
  z20 := Tryd.sizeOf20
  v20 := Tryd.zeroValue20
  t37 := Tryd.underlying40
  a37 := Tryd.isAgg40
  z37 := Tryd.sizeOf40
  v37 := Tryd.zeroValue40
  t46 := Tryd.underlying101
  a46 := Tryd.isAgg101
  z46 := Tryd.sizeOf101
  v46 := Tryd.zeroValue101
  t51 := Tryd.underlying95
  a51 := Tryd.isAgg95
  z51 := Tryd.sizeOf95
  v51 := Tryd.zeroValue95
  t53 := Tryd.underlying87
  a53 := Tryd.isAgg87
  z53 := Tryd.sizeOf87
  v53 := Tryd.zeroValue87
  t171 := Tryd.underlying86
  a171 := Tryd.isAgg86
  z171 := Tryd.sizeOf86
  v171 := Tryd.zeroValue86
  t173 := Tryd.underlying90
  a173 := Tryd.isAgg90
  z173 := Tryd.sizeOf90
  v173 := Tryd.zeroValue90
  t212 := Tryd.underlying107
  a212 := Tryd.isAgg107
  z212 := Tryd.sizeOf107
  v212 := Tryd.zeroValue107
  t213 := Tryd.underlying108
  a213 := Tryd.isAgg108
  z213 := Tryd.sizeOf108
  t232 := Tryd.underlying132
  a232 := Tryd.isAgg132
  z232 := Tryd.sizeOf132
  v232 := Tryd.zeroValue132
  t233 := Tryd.underlying133
  a233 := Tryd.isAgg133
  z233 := Tryd.sizeOf133
  v233 := Tryd.zeroValue133
  g17 := by kernel_rfl
  g18 := by kernel_rfl
  g19 := by kernel_rfl
  i0 := by kernel_rfl
  i2 := by kernel_rfl
  i3 := by kernel_rfl
  i4 := by kernel_rfl
  i5 := by kernel_rfl
  i9 := by kernel_rfl
  i20 := by kernel_rfl
  i37 := by kernel_rfl
  i46 := by kernel_rfl
  i51 := by kernel_rfl
  i53 := by kernel_rfl
  i171 := by kernel_rfl
  i173 := by kernel_rfl
  i212 := by kernel_rfl
  i232 := by kernel_rfl
  i233 := by kernel_rfl
  m17 := by kernel_rfl
  m18 := by kernel_rfl
  m19 := by kernel_rfl
theorem below_grow (w : World) (os : Array Obj) : Below w.heap.size w (Sort.grow w os) := ⟨rfl, rfl, rfl, by simp [Sort.grow], fun k hk => by simp only [Sort.grow]; rw [Array.getElem?_append_left hk]⟩
theorem fmt27 (n : Int) (h0 : -9223372036854775808 ≤ n) (h1 : n ≤ 9223372036854775807) (w : World) (htab : Lib.TabIs Tryd.prog w "internal/strconv.uint64pow10" .u64 Lib.pow10Tab) :
    Calls Tryd.prog 27 #[.int .i64 n, .int .i64 10] w fun e w' => e = .returned (.string ⟨(Lib.itoa n).toArray⟩) ∧ Below w.heap.size w w' :=
  (Any.strconv_FormatInt_10 lays173 n h0 h1 w htab).mono fun e w' ⟨he, k, os, hw⟩ => ⟨he, by
    subst hw
    exact Below.trans (b := w.drewN k) ⟨rfl, rfl, rfl, Nat.le_refl _, fun _ _ => rfl⟩ (below_grow (w.drewN k) os)⟩
end Go.Proofs.YtjbcjcibnjbpcaaDoor
namespace Go.Proofs.YtjbcjcibnjbpcaaDoor.Idl
open Go
/-- What the hooks lean on: strconv's table of powers of ten. -/
def invT (w : World) : Prop := Lib.TabIs Tryd.prog w "internal/strconv.uint64pow10" .u64 Lib.pow10Tab
def hookT (f : FuncId) (vs : List Value) : Option Value :=
  if f = 27 then match vs with
    | [.int .i64 n, .int .i64 b] => if b = 10 ∧ -9223372036854775808 ≤ n ∧ n ≤ 9223372036854775807 then some (.string ⟨(Lib.itoa n).toArray⟩) else none
    | _ => none
  else none
theorem hookT_ok : ∀ f vs v, hookT f vs = some v → flat v = true ∧ vs.all flat = true ∧ ∀ w, invT w → Calls Tryd.prog f vs.toArray w fun e w' => e = .returned v ∧ RowKit.Below w.heap.size w w' := by
  intro f vs v h
  unfold hookT at h
  split at h
  · rename_i hf
    subst hf
    split at h
    · split at h
      · rename_i n b hc
        obtain ⟨rfl, h0, h1⟩ := hc
        cases h
        exact ⟨rfl, rfl, fun w hw => fmt27 n h0 h1 w hw⟩
      · cases h
    · cases h
  · cases h
end Go.Proofs.YtjbcjcibnjbpcaaDoor.Idl
namespace Go.Proofs.YtjbcjcibnjbpcaaDoor.Idl
open Go
set_option maxRecDepth 100000
def tyI0 : TyI := ⟨(TypeDesc.tuple #[]), 1, 0, some ((Value.tuple #[]))⟩
theorem tyI0_ok : TyOk Tryd.prog 0 tyI0 := tyOk_mk (by kernel_rfl) (by kernel_rfl) (by kernel_rfl)
def tyI1 : TyI := ⟨(TypeDesc.func #[] #[] false), 1, 8, some Value.nilFunc⟩
theorem tyI1_ok : TyOk Tryd.prog 1 tyI1 := tyOk_mk (by kernel_rfl) (by kernel_rfl) (by kernel_rfl)
def tyI2 : TyI := ⟨(TypeDesc.int IntKind.i64), 1, 8, some ((Value.int IntKind.i64 0))⟩
theorem tyI2_ok : TyOk Tryd.prog 2 tyI2 := tyOk_mk (by kernel_rfl) (by kernel_rfl) (by kernel_rfl)
def tyI3 : TyI := ⟨(TypeDesc.int IntKind.i64), 1, 8, some ((Value.int IntKind.i64 0))⟩
theorem tyI3_ok : TyOk Tryd.prog 3 tyI3 := tyOk_mk (by kernel_rfl) (by kernel_rfl) (by kernel_rfl)
def tyI4 : TyI := ⟨TypeDesc.bool, 1, 1, some ((Value.bool false))⟩
theorem tyI4_ok : TyOk Tryd.prog 4 tyI4 := tyOk_mk (by kernel_rfl) (by kernel_rfl) (by kernel_rfl)
def tyI5 : TyI := ⟨(TypeDesc.int IntKind.u8), 1, 1, some ((Value.int IntKind.u8 0))⟩
theorem tyI5_ok : TyOk Tryd.prog 5 tyI5 := tyOk_mk (by kernel_rfl) (by kernel_rfl) (by kernel_rfl)
def tyI6 : TyI := ⟨(TypeDesc.int IntKind.u8), 1, 1, some ((Value.int IntKind.u8 0))⟩
theorem tyI6_ok : TyOk Tryd.prog 6 tyI6 := tyOk_mk (by kernel_rfl) (by kernel_rfl) (by kernel_rfl)
def tyI7 : TyI := ⟨(TypeDesc.struct #[{ name := "x", type := 2, offset := 0, embedded := false, tag := "", pkgPath := "runtime", byteOffset := 0 }, { name := "y", type := 3, offset := 1, embedded := false, tag := "", pkgPath := "runtime", byteOffset := 8 }, { name := "signed", type := 4, offset := 2, embedded := false, tag := "", pkgPath := "runtime", byteOffset := 16 }, { name := "code", type := 6, offset := 3, embedded := false, tag := "", pkgPath := "runtime", byteOffset := 17 }]), 4, 24, some ((Value.agg #[Value.int IntKind.i64 0, Value.int IntKind.i64 0, Value.bool false, Value.int IntKind.u8 0]))⟩
theorem tyI7_ok : TyOk Tryd.prog 7 tyI7 := tyOk_mk (by kernel_rfl) (by kernel_rfl) (by kernel_rfl)
def tyI8 : TyI := ⟨(TypeDesc.struct #[{ name := "x", type := 2, offset := 0, embedded := false, tag := "", pkgPath := "runtime", byteOffset := 0 }, { name := "y", type := 3, offset := 1, embedded := false, tag := "", pkgPath := "runtime", byteOffset := 8 }, { name := "signed", type := 4, offset := 2, embedded := false, tag := "", pkgPath := "runtime", byteOffset := 16 }, { name := "code", type := 6, offset := 3, embedded := false, tag := "", pkgPath := "runtime", byteOffset := 17 }]), 4, 24, some ((Value.agg #[Value.int IntKind.i64 0, Value.int IntKind.i64 0, Value.bool false, Value.int IntKind.u8 0]))⟩
theorem tyI8_ok : TyOk Tryd.prog 8 tyI8 := tyOk_mk (by kernel_rfl) (by kernel_rfl) (by kernel_rfl)
def tyI9 : TyI := ⟨TypeDesc.string, 1, 16, some ((Value.string { data := #[] }))⟩
theorem tyI9_ok : TyOk Tryd.prog 9 tyI9 := tyOk_mk (by kernel_rfl) (by kernel_rfl) (by kernel_rfl)
def tyI10 : TyI := ⟨TypeDesc.string, 1, 16, some ((Value.string { data := #[] }))⟩
theorem tyI10_ok : TyOk Tryd.prog 10 tyI10 := tyOk_mk (by kernel_rfl) (by kernel_rfl) (by kernel_rfl)
def tyI11 : TyI := ⟨TypeDesc.string, 1, 16, some ((Value.string { data := #[] }))⟩
theorem tyI11_ok : TyOk Tryd.prog 11 tyI11 := tyOk_mk (by kernel_rfl) (by kernel_rfl) (by kernel_rfl)
def tyI12 : TyI := ⟨(TypeDesc.int IntKind.u64), 1, 8, some ((Value.int IntKind.u64 0))⟩
theorem tyI12_ok : TyOk Tryd.prog 12 tyI12 := tyOk_mk (by kernel_rfl) (by kernel_rfl) (by kernel_rfl)
def tyI13 : TyI := ⟨(TypeDesc.struct #[{ name := "msg", type := 9, offset := 0, embedded := false, tag := "", pkgPath := "runtime", byteOffset := 0 }, { name := "addr", type := 12, offset := 1, embedded := false, tag := "", pkgPath := "runtime", byteOffset := 16 }]), 2, 24, some ((Value.agg #[Value.string { data := #[] }, Value.int IntKind.u64 0]))⟩
theorem tyI13_ok : TyOk Tryd.prog 13 tyI13 := tyOk_mk (by kernel_rfl) (by kernel_rfl) (by kernel_rfl)
def tyI14 : TyI := ⟨(TypeDesc.struct #[{ name := "msg", type := 9, offset := 0, embedded := false, tag := "", pkgPath := "runtime", byteOffset := 0 }, { name := "addr", type := 12, offset := 1, embedded := false, tag := "", pkgPath := "runtime", byteOffset := 16 }]), 2, 24, some ((Value.agg #[Value.string { data := #[] }, Value.int IntKind.u64 0]))⟩
theorem tyI14_ok : TyOk Tryd.prog 14 tyI14 := tyOk_mk (by kernel_rfl) (by kernel_rfl) (by kernel_rfl)
def tyI15 : TyI := ⟨(TypeDesc.pointer 135), 1, 8, some ((Value.pointer none))⟩
theorem tyI15_ok : TyOk Tryd.prog 15 tyI15 := tyOk_mk (by kernel_rfl) (by kernel_rfl) (by kernel_rfl)
def tyI16 : TyI := ⟨(TypeDesc.pointer 138), 1, 8, some ((Value.pointer none))⟩
theorem tyI16_ok : TyOk Tryd.prog 16 tyI16 := tyOk_mk (by kernel_rfl) (by kernel_rfl) (by kernel_rfl)
def tyI17 : TyI := ⟨(TypeDesc.pointer 145), 1, 8, some ((Value.pointer none))⟩
theorem tyI17_ok : TyOk Tryd.prog 17 tyI17 := tyOk_mk (by kernel_rfl) (by kernel_rfl) (by kernel_rfl)
def tyI18 : TyI := ⟨(TypeDesc.struct #[{ name := "typ", type := 17, offset := 0, embedded := false, tag := "", pkgPath := "internal/runtime/maps", byteOffset := 0 }]), 1, 8, some ((Value.agg #[Value.pointer none]))⟩
theorem tyI18_ok : TyOk Tryd.prog 18 tyI18 := tyOk_mk (by kernel_rfl) (by kernel_rfl) (by kernel_rfl)
def tyI19 : TyI := ⟨(TypeDesc.struct #[{ name := "typ", type := 17, offset := 0, embedded := false, tag := "", pkgPath := "internal/runtime/maps", byteOffset := 0 }]), 1, 8, some ((Value.agg #[Value.pointer none]))⟩
theorem tyI19_ok : TyOk Tryd.prog 19 tyI19 := tyOk_mk (by kernel_rfl) (by kernel_rfl) (by kernel_rfl)
def tyI20 : TyI := ⟨(TypeDesc.interface #[]), 1, 16, some Value.nilIface⟩
theorem tyI20_ok : TyOk Tryd.prog 20 tyI20 := tyOk_mk (by kernel_rfl) (by kernel_rfl) (by kernel_rfl)
def tyI21 : TyI := ⟨(TypeDesc.int IntKind.i32), 1, 4, some ((Value.int IntKind.i32 0))⟩
theorem tyI21_ok : TyOk Tryd.prog 21 tyI21 := tyOk_mk (by kernel_rfl) (by kernel_rfl) (by kernel_rfl)
def tyI22 : TyI := ⟨(TypeDesc.func #[9] #[9] false), 1, 8, some Value.nilFunc⟩
theorem tyI22_ok : TyOk Tryd.prog 22 tyI22 := tyOk_mk (by kernel_rfl) (by kernel_rfl) (by kernel_rfl)
def tyI23 : TyI := ⟨(TypeDesc.slice 31), 1, 24, some ((Value.slice none 0 0))⟩
theorem tyI23_ok : TyOk Tryd.prog 23 tyI23 := tyOk_mk (by kernel_rfl) (by kernel_rfl) (by kernel_rfl)
def tyI24 : TyI := ⟨(TypeDesc.int IntKind.i64), 1, 8, some ((Value.int IntKind.i64 0))⟩
theorem tyI24_ok : TyOk Tryd.prog 24 tyI24 := tyOk_mk (by kernel_rfl) (by kernel_rfl) (by kernel_rfl)
def tyI25 : TyI := ⟨(TypeDesc.tuple #[23, 24, 3]), 1, 0, some ((Value.tuple #[Value.slice none 0 0, Value.int IntKind.i64 0, Value.int IntKind.i64 0]))⟩
theorem tyI25_ok : TyOk Tryd.prog 25 tyI25 := tyOk_mk (by kernel_rfl) (by kernel_rfl) (by kernel_rfl)
def tyI26 : TyI := ⟨(TypeDesc.func #[9] #[23, 24, 3] false), 1, 8, some Value.nilFunc⟩
theorem tyI26_ok : TyOk Tryd.prog 26 tyI26 := tyOk_mk (by kernel_rfl) (by kernel_rfl) (by kernel_rfl)
def tyI27 : TyI := ⟨(TypeDesc.func #[23, 23] #[4] false), 1, 8, some Value.nilFunc⟩
theorem tyI27_ok : TyOk Tryd.prog 27 tyI27 := tyOk_mk (by kernel_rfl) (by kernel_rfl) (by kernel_rfl)
def tyI28 : TyI := ⟨(TypeDesc.func #[] #[4] false), 1, 8, some Value.nilFunc⟩
theorem tyI28_ok : TyOk Tryd.prog 28 tyI28 := tyOk_mk (by kernel_rfl) (by kernel_rfl) (by kernel_rfl)
def tyI29 : TyI := ⟨(TypeDesc.func #[9] #[4] false), 1, 8, some Value.nilFunc⟩
theorem tyI29_ok : TyOk Tryd.prog 29 tyI29 := tyOk_mk (by kernel_rfl) (by kernel_rfl) (by kernel_rfl)
def tyI30 : TyI := ⟨(TypeDesc.struct #[{ name := "Kind", type := 3, offset := 0, embedded := false, tag := "", pkgPath := "", byteOffset := 0 }, { name := "At", type := 3, offset := 1, embedded := false, tag := "", pkgPath := "", byteOffset := 8 }, { name := "Text", type := 9, offset := 2, embedded := false, tag := "", pkgPath := "", byteOffset := 16 }, { name := "N", type := 2, offset := 3, embedded := false, tag := "", pkgPath := "", byteOffset := 32 }]), 4, 40, some ((Value.agg #[Value.int IntKind.i64 0, Value.int IntKind.i64 0, Value.string { data := #[] }, Value.int IntKind.i64 0]))⟩
theorem tyI30_ok : TyOk Tryd.prog 30 tyI30 := tyOk_mk (by kernel_rfl) (by kernel_rfl) (by kernel_rfl)
def tyI31 : TyI := ⟨(TypeDesc.struct #[{ name := "Kind", type := 3, offset := 0, embedded := false, tag := "", pkgPath := "", byteOffset := 0 }, { name := "At", type := 3, offset := 1, embedded := false, tag := "", pkgPath := "", byteOffset := 8 }, { name := "Text", type := 9, offset := 2, embedded := false, tag := "", pkgPath := "", byteOffset := 16 }, { name := "N", type := 2, offset := 3, embedded := false, tag := "", pkgPath := "", byteOffset := 32 }]), 4, 40, some ((Value.agg #[Value.int IntKind.i64 0, Value.int IntKind.i64 0, Value.string { data := #[] }, Value.int IntKind.i64 0]))⟩
theorem tyI31_ok : TyOk Tryd.prog 31 tyI31 := tyOk_mk (by kernel_rfl) (by kernel_rfl) (by kernel_rfl)
def tyI32 : TyI := ⟨(TypeDesc.func #[23] #[9] false), 1, 8, some Value.nilFunc⟩
theorem tyI32_ok : TyOk Tryd.prog 32 tyI32 := tyOk_mk (by kernel_rfl) (by kernel_rfl) (by kernel_rfl)
def tyI33 : TyI := ⟨(TypeDesc.func #[23] #[4] false), 1, 8, some Value.nilFunc⟩
theorem tyI33_ok : TyOk Tryd.prog 33 tyI33 := tyOk_mk (by kernel_rfl) (by kernel_rfl) (by kernel_rfl)
def tyI34 : TyI := ⟨(TypeDesc.func #[23] #[23] false), 1, 8, some Value.nilFunc⟩
theorem tyI34_ok : TyOk Tryd.prog 34 tyI34 := tyOk_mk (by kernel_rfl) (by kernel_rfl) (by kernel_rfl)
def tyI35 : TyI := ⟨(TypeDesc.tuple #[31, 3]), 1, 0, some ((Value.tuple #[Value.agg #[Value.int IntKind.i64 0, Value.int IntKind.i64 0, Value.string { data := #[] }, Value.int IntKind.i64 0], Value.int IntKind.i64 0]))⟩
theorem tyI35_ok : TyOk Tryd.prog 35 tyI35 := tyOk_mk (by kernel_rfl) (by kernel_rfl) (by kernel_rfl)
def tyI36 : TyI := ⟨(TypeDesc.func #[9] #[31, 3] false), 1, 8, some Value.nilFunc⟩
theorem tyI36_ok : TyOk Tryd.prog 36 tyI36 := tyOk_mk (by kernel_rfl) (by kernel_rfl) (by kernel_rfl)
def tyI37 : TyI := ⟨(TypeDesc.func #[9, 9] #[4] false), 1, 8, some Value.nilFunc⟩
theorem tyI37_ok : TyOk Tryd.prog 37 tyI37 := tyOk_mk (by kernel_rfl) (by kernel_rfl) (by kernel_rfl)
def tyI38 : TyI := ⟨(TypeDesc.func #[2, 3] #[4] false), 1, 8, some Value.nilFunc⟩
theorem tyI38_ok : TyOk Tryd.prog 38 tyI38 := tyOk_mk (by kernel_rfl) (by kernel_rfl) (by kernel_rfl)
def tyI39 : TyI := ⟨(TypeDesc.func #[3, 3] #[4] false), 1, 8, some Value.nilFunc⟩
theorem tyI39_ok : TyOk Tryd.prog 39 tyI39 := tyOk_mk (by kernel_rfl) (by kernel_rfl) (by kernel_rfl)
def tyI40 : TyI := ⟨(TypeDesc.slice 5), 1, 24, some ((Value.slice none 0 0))⟩
theorem tyI40_ok : TyOk Tryd.prog 40 tyI40 := tyOk_mk (by kernel_rfl) (by kernel_rfl) (by kernel_rfl)
def tyI41 : TyI := ⟨(TypeDesc.func #[3, 4] #[4] false), 1, 8, some Value.nilFunc⟩
theorem tyI41_ok : TyOk Tryd.prog 41 tyI41 := tyOk_mk (by kernel_rfl) (by kernel_rfl) (by kernel_rfl)
def tyI42 : TyI := ⟨(TypeDesc.pointer 46), 1, 8, some ((Value.pointer none))⟩
theorem tyI42_ok : TyOk Tryd.prog 42 tyI42 := tyOk_mk (by kernel_rfl) (by kernel_rfl) (by kernel_rfl)
def tyI43 : TyI := ⟨(TypeDesc.map 9 3), 1, 8, some ((Value.map none))⟩
theorem tyI43_ok : TyOk Tryd.prog 43 tyI43 := tyOk_mk (by kernel_rfl) (by kernel_rfl) (by kernel_rfl)
def tyI44 : TyI := ⟨(TypeDesc.func #[] #[43] false), 1, 8, some Value.nilFunc⟩
theorem tyI44_ok : TyOk Tryd.prog 44 tyI44 := tyOk_mk (by kernel_rfl) (by kernel_rfl) (by kernel_rfl)
def tyI45 : TyI := ⟨(TypeDesc.struct #[{ name := "s", type := 9, offset := 0, embedded := false, tag := "", pkgPath := "bellows/lex", byteOffset := 0 }, { name := "at", type := 3, offset := 1, embedded := false, tag := "", pkgPath := "bellows/lex", byteOffset := 16 }, { name := "words", type := 43, offset := 2, embedded := false, tag := "", pkgPath := "bellows/lex", byteOffset := 24 }]), 3, 32, some ((Value.agg #[Value.string { data := #[] }, Value.int IntKind.i64 0, Value.map none]))⟩
theorem tyI45_ok : TyOk Tryd.prog 45 tyI45 := tyOk_mk (by kernel_rfl) (by kernel_rfl) (by kernel_rfl)
def tyI46 : TyI := ⟨(TypeDesc.struct #[{ name := "s", type := 9, offset := 0, embedded := false, tag := "", pkgPath := "bellows/lex", byteOffset := 0 }, { name := "at", type := 3, offset := 1, embedded := false, tag := "", pkgPath := "bellows/lex", byteOffset := 16 }, { name := "words", type := 43, offset := 2, embedded := false, tag := "", pkgPath := "bellows/lex", byteOffset := 24 }]), 3, 32, some ((Value.agg #[Value.string { data := #[] }, Value.int IntKind.i64 0, Value.map none]))⟩
theorem tyI46_ok : TyOk Tryd.prog 46 tyI46 := tyOk_mk (by kernel_rfl) (by kernel_rfl) (by kernel_rfl)
def tyI47 : TyI := ⟨(TypeDesc.func #[] #[31, 3, 4] false), 1, 8, some Value.nilFunc⟩
theorem tyI47_ok : TyOk Tryd.prog 47 tyI47 := tyOk_mk (by kernel_rfl) (by kernel_rfl) (by kernel_rfl)
def tyI48 : TyI := ⟨(TypeDesc.func #[] #[3] false), 1, 8, some Value.nilFunc⟩
theorem tyI48_ok : TyOk Tryd.prog 48 tyI48 := tyOk_mk (by kernel_rfl) (by kernel_rfl) (by kernel_rfl)
def tyI49 : TyI := ⟨(TypeDesc.tuple #[31, 3, 4]), 1, 0, some ((Value.tuple #[Value.agg #[Value.int IntKind.i64 0, Value.int IntKind.i64 0, Value.string { data := #[] }, Value.int IntKind.i64 0], Value.int IntKind.i64 0, Value.bool false]))⟩
theorem tyI49_ok : TyOk Tryd.prog 49 tyI49 := tyOk_mk (by kernel_rfl) (by kernel_rfl) (by kernel_rfl)
def tyI50 : TyI := ⟨(TypeDesc.func #[9] #[3] false), 1, 8, some Value.nilFunc⟩
theorem tyI50_ok : TyOk Tryd.prog 50 tyI50 := tyOk_mk (by kernel_rfl) (by kernel_rfl) (by kernel_rfl)
def tyI51 : TyI := ⟨(TypeDesc.pointer 53), 1, 8, some ((Value.pointer none))⟩
theorem tyI51_ok : TyOk Tryd.prog 51 tyI51 := tyOk_mk (by kernel_rfl) (by kernel_rfl) (by kernel_rfl)
def tyI52 : TyI := ⟨(TypeDesc.struct #[{ name := "addr", type := 51, offset := 0, embedded := false, tag := "", pkgPath := "strings", byteOffset := 0 }, { name := "buf", type := 40, offset := 1, embedded := false, tag := "", pkgPath := "strings", byteOffset := 8 }]), 2, 32, some ((Value.agg #[Value.pointer none, Value.slice none 0 0]))⟩
theorem tyI52_ok : TyOk Tryd.prog 52 tyI52 := tyOk_mk (by kernel_rfl) (by kernel_rfl) (by kernel_rfl)
def tyI53 : TyI := ⟨(TypeDesc.struct #[{ name := "addr", type := 51, offset := 0, embedded := false, tag := "", pkgPath := "strings", byteOffset := 0 }, { name := "buf", type := 40, offset := 1, embedded := false, tag := "", pkgPath := "strings", byteOffset := 8 }]), 2, 32, some ((Value.agg #[Value.pointer none, Value.slice none 0 0]))⟩
theorem tyI53_ok : TyOk Tryd.prog 53 tyI53 := tyOk_mk (by kernel_rfl) (by kernel_rfl) (by kernel_rfl)
def tyI54 : TyI := ⟨(TypeDesc.interface #[("Error", 60)]), 1, 16, some Value.nilIface⟩
theorem tyI54_ok : TyOk Tryd.prog 54 tyI54 := tyOk_mk (by kernel_rfl) (by kernel_rfl) (by kernel_rfl)
def tyI55 : TyI := ⟨(TypeDesc.interface #[("Error", 60)]), 1, 16, some Value.nilIface⟩
theorem tyI55_ok : TyOk Tryd.prog 55 tyI55 := tyOk_mk (by kernel_rfl) (by kernel_rfl) (by kernel_rfl)
def tyI56 : TyI := ⟨(TypeDesc.func #[5] #[55] false), 1, 8, some Value.nilFunc⟩
theorem tyI56_ok : TyOk Tryd.prog 56 tyI56 := tyOk_mk (by kernel_rfl) (by kernel_rfl) (by kernel_rfl)
def tyI57 : TyI := ⟨(TypeDesc.tuple #[3, 55]), 1, 0, some ((Value.tuple #[Value.int IntKind.i64 0, Value.nilIface]))⟩
theorem tyI57_ok : TyOk Tryd.prog 57 tyI57 := tyOk_mk (by kernel_rfl) (by kernel_rfl) (by kernel_rfl)
def tyI58 : TyI := ⟨(TypeDesc.func #[9] #[3, 55] false), 1, 8, some Value.nilFunc⟩
theorem tyI58_ok : TyOk Tryd.prog 58 tyI58 := tyOk_mk (by kernel_rfl) (by kernel_rfl) (by kernel_rfl)
def tyI59 : TyI := ⟨(TypeDesc.func #[2, 3] #[9] false), 1, 8, some Value.nilFunc⟩
theorem tyI59_ok : TyOk Tryd.prog 59 tyI59 := tyOk_mk (by kernel_rfl) (by kernel_rfl) (by kernel_rfl)
def tyI60 : TyI := ⟨(TypeDesc.func #[] #[9] false), 1, 8, some Value.nilFunc⟩
theorem tyI60_ok : TyOk Tryd.prog 60 tyI60 := tyOk_mk (by kernel_rfl) (by kernel_rfl) (by kernel_rfl)
def tyI61 : TyI := ⟨(TypeDesc.func #[2] #[9] false), 1, 8, some Value.nilFunc⟩
theorem tyI61_ok : TyOk Tryd.prog 61 tyI61 := tyOk_mk (by kernel_rfl) (by kernel_rfl) (by kernel_rfl)
def tyI62 : TyI := ⟨(TypeDesc.func #[5] #[4] false), 1, 8, some Value.nilFunc⟩
theorem tyI62_ok : TyOk Tryd.prog 62 tyI62 := tyOk_mk (by kernel_rfl) (by kernel_rfl) (by kernel_rfl)
def tyI63 : TyI := ⟨(TypeDesc.func #[9] #[2] false), 1, 8, some Value.nilFunc⟩
theorem tyI63_ok : TyOk Tryd.prog 63 tyI63 := tyOk_mk (by kernel_rfl) (by kernel_rfl) (by kernel_rfl)
def tyI64 : TyI := ⟨(TypeDesc.tuple #[9, 3, 4]), 1, 0, some ((Value.tuple #[Value.string { data := #[] }, Value.int IntKind.i64 0, Value.bool false]))⟩
theorem tyI64_ok : TyOk Tryd.prog 64 tyI64 := tyOk_mk (by kernel_rfl) (by kernel_rfl) (by kernel_rfl)
def tyI65 : TyI := ⟨(TypeDesc.func #[9] #[9, 3, 4] false), 1, 8, some Value.nilFunc⟩
theorem tyI65_ok : TyOk Tryd.prog 65 tyI65 := tyOk_mk (by kernel_rfl) (by kernel_rfl) (by kernel_rfl)
def tyI66 : TyI := ⟨(TypeDesc.func #[9, 67] #[4] false), 1, 8, some Value.nilFunc⟩
theorem tyI66_ok : TyOk Tryd.prog 66 tyI66 := tyOk_mk (by kernel_rfl) (by kernel_rfl) (by kernel_rfl)
def tyI67 : TyI := ⟨(TypeDesc.slice 9), 1, 24, some ((Value.slice none 0 0))⟩
theorem tyI67_ok : TyOk Tryd.prog 67 tyI67 := tyOk_mk (by kernel_rfl) (by kernel_rfl) (by kernel_rfl)
def tyI68 : TyI := ⟨(TypeDesc.func #[] #[67] false), 1, 8, some Value.nilFunc⟩
theorem tyI68_ok : TyOk Tryd.prog 68 tyI68 := tyOk_mk (by kernel_rfl) (by kernel_rfl) (by kernel_rfl)
def tyI69 : TyI := ⟨(TypeDesc.func #[9] #[67] false), 1, 8, some Value.nilFunc⟩
theorem tyI69_ok : TyOk Tryd.prog 69 tyI69 := tyOk_mk (by kernel_rfl) (by kernel_rfl) (by kernel_rfl)
def tyI70 : TyI := ⟨(TypeDesc.func #[3, 62] #[3] false), 1, 8, some Value.nilFunc⟩
theorem tyI70_ok : TyOk Tryd.prog 70 tyI70 := tyOk_mk (by kernel_rfl) (by kernel_rfl) (by kernel_rfl)
def tyI71 : TyI := ⟨(TypeDesc.tuple #[2, 55]), 1, 0, some ((Value.tuple #[Value.int IntKind.i64 0, Value.nilIface]))⟩
theorem tyI71_ok : TyOk Tryd.prog 71 tyI71 := tyOk_mk (by kernel_rfl) (by kernel_rfl) (by kernel_rfl)
def tyI72 : TyI := ⟨(TypeDesc.func #[9, 3, 3] #[2, 55] false), 1, 8, some Value.nilFunc⟩
theorem tyI72_ok : TyOk Tryd.prog 72 tyI72 := tyOk_mk (by kernel_rfl) (by kernel_rfl) (by kernel_rfl)
def tyI73 : TyI := ⟨(TypeDesc.func #[] #[9, 3, 4] false), 1, 8, some Value.nilFunc⟩
theorem tyI73_ok : TyOk Tryd.prog 73 tyI73 := tyOk_mk (by kernel_rfl) (by kernel_rfl) (by kernel_rfl)
def tyI74 : TyI := ⟨(TypeDesc.func #[3, 9] #[4] false), 1, 8, some Value.nilFunc⟩
theorem tyI74_ok : TyOk Tryd.prog 74 tyI74 := tyOk_mk (by kernel_rfl) (by kernel_rfl) (by kernel_rfl)
def tyI75 : TyI := ⟨(TypeDesc.func #[9, 5] #[3] false), 1, 8, some Value.nilFunc⟩
theorem tyI75_ok : TyOk Tryd.prog 75 tyI75 := tyOk_mk (by kernel_rfl) (by kernel_rfl) (by kernel_rfl)
def tyI76 : TyI := ⟨(TypeDesc.pointer 5), 1, 8, some ((Value.pointer none))⟩
theorem tyI76_ok : TyOk Tryd.prog 76 tyI76 := tyOk_mk (by kernel_rfl) (by kernel_rfl) (by kernel_rfl)
def tyI77 : TyI := ⟨(TypeDesc.array 256 5), 256, 256, none⟩
theorem tyI77_ok : TyOk Tryd.prog 77 tyI77 := tyOk_mk0 (by kernel_rfl) (by kernel_rfl)
def tyI78 : TyI := ⟨(TypeDesc.func #[9, 79] #[67] false), 1, 8, some Value.nilFunc⟩
theorem tyI78_ok : TyOk Tryd.prog 78 tyI78 := tyOk_mk (by kernel_rfl) (by kernel_rfl) (by kernel_rfl)
def tyI79 : TyI := ⟨(TypeDesc.func #[21] #[4] false), 1, 8, some Value.nilFunc⟩
theorem tyI79_ok : TyOk Tryd.prog 79 tyI79 := tyOk_mk (by kernel_rfl) (by kernel_rfl) (by kernel_rfl)
def tyI80 : TyI := ⟨(TypeDesc.func #[9, 9, 3, 3, 55] #[55] false), 1, 8, some Value.nilFunc⟩
theorem tyI80_ok : TyOk Tryd.prog 80 tyI80 := tyOk_mk (by kernel_rfl) (by kernel_rfl) (by kernel_rfl)
def tyI81 : TyI := ⟨(TypeDesc.tuple #[5, 3]), 1, 0, some ((Value.tuple #[Value.int IntKind.u8 0, Value.int IntKind.i64 0]))⟩
theorem tyI81_ok : TyOk Tryd.prog 81 tyI81 := tyOk_mk (by kernel_rfl) (by kernel_rfl) (by kernel_rfl)
def tyI82 : TyI := ⟨(TypeDesc.func #[9] #[5, 3] false), 1, 8, some Value.nilFunc⟩
theorem tyI82_ok : TyOk Tryd.prog 82 tyI82 := tyOk_mk (by kernel_rfl) (by kernel_rfl) (by kernel_rfl)
def tyI83 : TyI := ⟨TypeDesc.unsafePointer, 1, 8, some ((Value.pointer none))⟩
theorem tyI83_ok : TyOk Tryd.prog 83 tyI83 := tyOk_mk (by kernel_rfl) (by kernel_rfl) (by kernel_rfl)
def tyI84 : TyI := ⟨(TypeDesc.func #[83] #[83] false), 1, 8, some Value.nilFunc⟩
theorem tyI84_ok : TyOk Tryd.prog 84 tyI84 := tyOk_mk (by kernel_rfl) (by kernel_rfl) (by kernel_rfl)
def tyI85 : TyI := ⟨(TypeDesc.func #[3] #[9] false), 1, 8, some Value.nilFunc⟩
theorem tyI85_ok : TyOk Tryd.prog 85 tyI85 := tyOk_mk (by kernel_rfl) (by kernel_rfl) (by kernel_rfl)
def tyI86 : TyI := ⟨(TypeDesc.array 24 5), 24, 24, some ((Value.agg #[Value.int IntKind.u8 0, Value.int IntKind.u8 0, Value.int IntKind.u8 0, Value.int IntKind.u8 0, Value.int IntKind.u8 0, Value.int IntKind.u8 0, Value.int IntKind.u8 0, Value.int IntKind.u8 0, Value.int IntKind.u8 0, Value.int IntKind.u8 0, Value.int IntKind.u8 0, Value.int IntKind.u8 0, Value.int IntKind.u8 0, Value.int IntKind.u8 0, Value.int IntKind.u8 0, Value.int IntKind.u8 0, Value.int IntKind.u8 0, Value.int IntKind.u8 0, Value.int IntKind.u8 0, Value.int IntKind.u8 0, Value.int IntKind.u8 0, Value.int IntKind.u8 0, Value.int IntKind.u8 0, Value.int IntKind.u8 0]))⟩
theorem tyI86_ok : TyOk Tryd.prog 86 tyI86 := tyOk_mk (by kernel_rfl) (by kernel_rfl) (by kernel_rfl)
def tyI87 : TyI := ⟨(TypeDesc.int IntKind.u64), 1, 8, some ((Value.int IntKind.u64 0))⟩
theorem tyI87_ok : TyOk Tryd.prog 87 tyI87 := tyOk_mk (by kernel_rfl) (by kernel_rfl) (by kernel_rfl)
def tyI88 : TyI := ⟨(TypeDesc.func #[87] #[3] false), 1, 8, some Value.nilFunc⟩
theorem tyI88_ok : TyOk Tryd.prog 88 tyI88 := tyOk_mk (by kernel_rfl) (by kernel_rfl) (by kernel_rfl)
def tyI89 : TyI := ⟨(TypeDesc.func #[40, 87] #[] false), 1, 8, some Value.nilFunc⟩
theorem tyI89_ok : TyOk Tryd.prog 89 tyI89 := tyOk_mk (by kernel_rfl) (by kernel_rfl) (by kernel_rfl)
def tyI90 : TyI := ⟨(TypeDesc.tuple #[40, 9]), 1, 0, some ((Value.tuple #[Value.slice none 0 0, Value.string { data := #[] }]))⟩
theorem tyI90_ok : TyOk Tryd.prog 90 tyI90 := tyOk_mk (by kernel_rfl) (by kernel_rfl) (by kernel_rfl)
def tyI91 : TyI := ⟨(TypeDesc.func #[40, 87, 3, 4, 4] #[40, 9] false), 1, 8, some Value.nilFunc⟩
theorem tyI91_ok : TyOk Tryd.prog 91 tyI91 := tyOk_mk (by kernel_rfl) (by kernel_rfl) (by kernel_rfl)
def tyI92 : TyI := ⟨(TypeDesc.slice 94), 1, 24, some ((Value.slice none 0 0))⟩
theorem tyI92_ok : TyOk Tryd.prog 92 tyI92 := tyOk_mk (by kernel_rfl) (by kernel_rfl) (by kernel_rfl)
def tyI93 : TyI := ⟨(TypeDesc.struct #[{ name := "start", type := 3, offset := 0, embedded := false, tag := "", pkgPath := "strings", byteOffset := 0 }, { name := "end", type := 3, offset := 1, embedded := false, tag := "", pkgPath := "strings", byteOffset := 8 }]), 2, 16, some ((Value.agg #[Value.int IntKind.i64 0, Value.int IntKind.i64 0]))⟩
theorem tyI93_ok : TyOk Tryd.prog 93 tyI93 := tyOk_mk (by kernel_rfl) (by kernel_rfl) (by kernel_rfl)
def tyI94 : TyI := ⟨(TypeDesc.struct #[{ name := "start", type := 3, offset := 0, embedded := false, tag := "", pkgPath := "strings", byteOffset := 0 }, { name := "end", type := 3, offset := 1, embedded := false, tag := "", pkgPath := "strings", byteOffset := 8 }]), 2, 16, some ((Value.agg #[Value.int IntKind.i64 0, Value.int IntKind.i64 0]))⟩
theorem tyI94_ok : TyOk Tryd.prog 94 tyI94 := tyOk_mk (by kernel_rfl) (by kernel_rfl) (by kernel_rfl)
def tyI95 : TyI := ⟨(TypeDesc.int IntKind.u32), 1, 4, some ((Value.int IntKind.u32 0))⟩
theorem tyI95_ok : TyOk Tryd.prog 95 tyI95 := tyOk_mk (by kernel_rfl) (by kernel_rfl) (by kernel_rfl)
def tyI96 : TyI := ⟨(TypeDesc.func #[97, 21] #[4] false), 1, 8, some Value.nilFunc⟩
theorem tyI96_ok : TyOk Tryd.prog 96 tyI96 := tyOk_mk (by kernel_rfl) (by kernel_rfl) (by kernel_rfl)
def tyI97 : TyI := ⟨(TypeDesc.pointer 114), 1, 8, some ((Value.pointer none))⟩
theorem tyI97_ok : TyOk Tryd.prog 97 tyI97 := tyOk_mk (by kernel_rfl) (by kernel_rfl) (by kernel_rfl)
def tyI98 : TyI := ⟨(TypeDesc.int IntKind.i64), 1, 8, some ((Value.int IntKind.i64 0))⟩
theorem tyI98_ok : TyOk Tryd.prog 98 tyI98 := tyOk_mk (by kernel_rfl) (by kernel_rfl) (by kernel_rfl)
def tyI99 : TyI := ⟨(TypeDesc.tuple #[87, 55]), 1, 0, some ((Value.tuple #[Value.int IntKind.u64 0, Value.nilIface]))⟩
theorem tyI99_ok : TyOk Tryd.prog 99 tyI99 := tyOk_mk (by kernel_rfl) (by kernel_rfl) (by kernel_rfl)
def tyI100 : TyI := ⟨(TypeDesc.func #[9, 3, 3] #[87, 55] false), 1, 8, some Value.nilFunc⟩
theorem tyI100_ok : TyOk Tryd.prog 100 tyI100 := tyOk_mk (by kernel_rfl) (by kernel_rfl) (by kernel_rfl)
def tyI101 : TyI := ⟨(TypeDesc.int IntKind.u64), 1, 8, some ((Value.int IntKind.u64 0))⟩
theorem tyI101_ok : TyOk Tryd.prog 101 tyI101 := tyOk_mk (by kernel_rfl) (by kernel_rfl) (by kernel_rfl)
def tyI102 : TyI := ⟨(TypeDesc.pointer 124), 1, 8, some ((Value.pointer none))⟩
theorem tyI102_ok : TyOk Tryd.prog 102 tyI102 := tyOk_mk (by kernel_rfl) (by kernel_rfl) (by kernel_rfl)
def tyI103 : TyI := ⟨(TypeDesc.func #[9, 9] #[102] false), 1, 8, some Value.nilFunc⟩
theorem tyI103_ok : TyOk Tryd.prog 103 tyI103 := tyOk_mk (by kernel_rfl) (by kernel_rfl) (by kernel_rfl)
def tyI104 : TyI := ⟨(TypeDesc.func #[9, 9, 3] #[102] false), 1, 8, some Value.nilFunc⟩
theorem tyI104_ok : TyOk Tryd.prog 104 tyI104 := tyOk_mk (by kernel_rfl) (by kernel_rfl) (by kernel_rfl)
def tyI105 : TyI := ⟨(TypeDesc.func #[3] #[3] false), 1, 8, some Value.nilFunc⟩
theorem tyI105_ok : TyOk Tryd.prog 105 tyI105 := tyOk_mk (by kernel_rfl) (by kernel_rfl) (by kernel_rfl)
def tyI106 : TyI := ⟨(TypeDesc.func #[4] #[3] false), 1, 8, some Value.nilFunc⟩
theorem tyI106_ok : TyOk Tryd.prog 106 tyI106 := tyOk_mk (by kernel_rfl) (by kernel_rfl) (by kernel_rfl)
def tyI107 : TyI := ⟨(TypeDesc.array 20 87), 20, 160, some ((Value.agg #[Value.int IntKind.u64 0, Value.int IntKind.u64 0, Value.int IntKind.u64 0, Value.int IntKind.u64 0, Value.int IntKind.u64 0, Value.int IntKind.u64 0, Value.int IntKind.u64 0, Value.int IntKind.u64 0, Value.int IntKind.u64 0, Value.int IntKind.u64 0, Value.int IntKind.u64 0, Value.int IntKind.u64 0, Value.int IntKind.u64 0, Value.int IntKind.u64 0, Value.int IntKind.u64 0, Value.int IntKind.u64 0, Value.int IntKind.u64 0, Value.int IntKind.u64 0, Value.int IntKind.u64 0, Value.int IntKind.u64 0]))⟩
theorem tyI107_ok : TyOk Tryd.prog 107 tyI107 := tyOk_mk (by kernel_rfl) (by kernel_rfl) (by kernel_rfl)
def tyI108 : TyI := ⟨(TypeDesc.array 65 5), 65, 65, some ((Value.agg ([Value.int IntKind.u8 0, Value.int IntKind.u8 0, Value.int IntKind.u8 0, Value.int IntKind.u8 0, Value.int IntKind.u8 0, Value.int IntKind.u8 0, Value.int IntKind.u8 0, Value.int IntKind.u8 0, Value.int IntKind.u8 0, Value.int IntKind.u8 0, Value.int IntKind.u8 0, Value.int IntKind.u8 0, Value.int IntKind.u8 0, Value.int IntKind.u8 0, Value.int IntKind.u8 0, Value.int IntKind.u8 0, Value.int IntKind.u8 0, Value.int IntKind.u8 0, Value.int IntKind.u8 0, Value.int IntKind.u8 0, Value.int IntKind.u8 0, Value.int IntKind.u8 0, Value.int IntKind.u8 0, Value.int IntKind.u8 0, Value.int IntKind.u8 0, Value.int IntKind.u8 0, Value.int IntKind.u8 0, Value.int IntKind.u8 0, Value.int IntKind.u8 0, Value.int IntKind.u8 0, Value.int IntKind.u8 0, Value.int IntKind.u8 0].append [Value.int IntKind.u8 0, Value.int IntKind.u8 0, Value.int IntKind.u8 0, Value.int IntKind.u8 0, Value.int IntKind.u8 0, Value.int IntKind.u8 0, Value.int IntKind.u8 0, Value.int IntKind.u8 0, Value.int IntKind.u8 0, Value.int IntKind.u8 0, Value.int IntKind.u8 0, Value.int IntKind.u8 0, Value.int IntKind.u8 0, Value.int IntKind.u8 0, Value.int IntKind.u8 0, Value.int IntKind.u8 0, Value.int IntKind.u8 0, Value.int IntKind.u8 0, Value.int IntKind.u8 0, Value.int IntKind.u8 0, Value.int IntKind.u8 0, Value.int IntKind.u8 0, Value.int IntKind.u8 0, Value.int IntKind.u8 0, Value.int IntKind.u8 0, Value.int IntKind.u8 0, Value.int IntKind.u8 0, Value.int IntKind.u8 0, Value.int IntKind.u8 0, Value.int IntKind.u8 0, Value.int IntKind.u8 0, Value.int IntKind.u8 0, Value.int IntKind.u8 0]).toArray))⟩
theorem tyI108_ok : TyOk Tryd.prog 108 tyI108 := tyOk_mk (by kernel_rfl) (by kernel_rfl) (by kernel_rfl)
def tyI109 : TyI := ⟨(TypeDesc.func #[3] #[4] false), 1, 8, some Value.nilFunc⟩
theorem tyI109_ok : TyOk Tryd.prog 109 tyI109 := tyOk_mk (by kernel_rfl) (by kernel_rfl) (by kernel_rfl)
def tyI110 : TyI := ⟨(TypeDesc.func #[101] #[3] false), 1, 8, some Value.nilFunc⟩
theorem tyI110_ok : TyOk Tryd.prog 110 tyI110 := tyOk_mk (by kernel_rfl) (by kernel_rfl) (by kernel_rfl)
def tyI111 : TyI := ⟨(TypeDesc.slice 117), 1, 24, some ((Value.slice none 0 0))⟩
theorem tyI111_ok : TyOk Tryd.prog 111 tyI111 := tyOk_mk (by kernel_rfl) (by kernel_rfl) (by kernel_rfl)
def tyI112 : TyI := ⟨(TypeDesc.slice 120), 1, 24, some ((Value.slice none 0 0))⟩
theorem tyI112_ok : TyOk Tryd.prog 112 tyI112 := tyOk_mk (by kernel_rfl) (by kernel_rfl) (by kernel_rfl)
def tyI113 : TyI := ⟨(TypeDesc.struct #[{ name := "R16", type := 111, offset := 0, embedded := false, tag := "", pkgPath := "", byteOffset := 0 }, { name := "R32", type := 112, offset := 1, embedded := false, tag := "", pkgPath := "", byteOffset := 24 }, { name := "LatinOffset", type := 3, offset := 2, embedded := false, tag := "", pkgPath := "", byteOffset := 48 }]), 3, 56, some ((Value.agg #[Value.slice none 0 0, Value.slice none 0 0, Value.int IntKind.i64 0]))⟩
theorem tyI113_ok : TyOk Tryd.prog 113 tyI113 := tyOk_mk (by kernel_rfl) (by kernel_rfl) (by kernel_rfl)
def tyI114 : TyI := ⟨(TypeDesc.struct #[{ name := "R16", type := 111, offset := 0, embedded := false, tag := "", pkgPath := "", byteOffset := 0 }, { name := "R32", type := 112, offset := 1, embedded := false, tag := "", pkgPath := "", byteOffset := 24 }, { name := "LatinOffset", type := 3, offset := 2, embedded := false, tag := "", pkgPath := "", byteOffset := 48 }]), 3, 56, some ((Value.agg #[Value.slice none 0 0, Value.slice none 0 0, Value.int IntKind.i64 0]))⟩
theorem tyI114_ok : TyOk Tryd.prog 114 tyI114 := tyOk_mk (by kernel_rfl) (by kernel_rfl) (by kernel_rfl)
def tyI115 : TyI := ⟨(TypeDesc.int IntKind.u16), 1, 2, some ((Value.int IntKind.u16 0))⟩
theorem tyI115_ok : TyOk Tryd.prog 115 tyI115 := tyOk_mk (by kernel_rfl) (by kernel_rfl) (by kernel_rfl)
def tyI116 : TyI := ⟨(TypeDesc.struct #[{ name := "Lo", type := 115, offset := 0, embedded := false, tag := "", pkgPath := "", byteOffset := 0 }, { name := "Hi", type := 115, offset := 1, embedded := false, tag := "", pkgPath := "", byteOffset := 2 }, { name := "Stride", type := 115, offset := 2, embedded := false, tag := "", pkgPath := "", byteOffset := 4 }]), 3, 6, some ((Value.agg #[Value.int IntKind.u16 0, Value.int IntKind.u16 0, Value.int IntKind.u16 0]))⟩
theorem tyI116_ok : TyOk Tryd.prog 116 tyI116 := tyOk_mk (by kernel_rfl) (by kernel_rfl) (by kernel_rfl)
def tyI117 : TyI := ⟨(TypeDesc.struct #[{ name := "Lo", type := 115, offset := 0, embedded := false, tag := "", pkgPath := "", byteOffset := 0 }, { name := "Hi", type := 115, offset := 1, embedded := false, tag := "", pkgPath := "", byteOffset := 2 }, { name := "Stride", type := 115, offset := 2, embedded := false, tag := "", pkgPath := "", byteOffset := 4 }]), 3, 6, some ((Value.agg #[Value.int IntKind.u16 0, Value.int IntKind.u16 0, Value.int IntKind.u16 0]))⟩
theorem tyI117_ok : TyOk Tryd.prog 117 tyI117 := tyOk_mk (by kernel_rfl) (by kernel_rfl) (by kernel_rfl)
def tyI118 : TyI := ⟨(TypeDesc.func #[111, 115] #[4] false), 1, 8, some Value.nilFunc⟩
theorem tyI118_ok : TyOk Tryd.prog 118 tyI118 := tyOk_mk (by kernel_rfl) (by kernel_rfl) (by kernel_rfl)
def tyI119 : TyI := ⟨(TypeDesc.struct #[{ name := "Lo", type := 95, offset := 0, embedded := false, tag := "", pkgPath := "", byteOffset := 0 }, { name := "Hi", type := 95, offset := 1, embedded := false, tag := "", pkgPath := "", byteOffset := 4 }, { name := "Stride", type := 95, offset := 2, embedded := false, tag := "", pkgPath := "", byteOffset := 8 }]), 3, 12, some ((Value.agg #[Value.int IntKind.u32 0, Value.int IntKind.u32 0, Value.int IntKind.u32 0]))⟩
theorem tyI119_ok : TyOk Tryd.prog 119 tyI119 := tyOk_mk (by kernel_rfl) (by kernel_rfl) (by kernel_rfl)
def tyI120 : TyI := ⟨(TypeDesc.struct #[{ name := "Lo", type := 95, offset := 0, embedded := false, tag := "", pkgPath := "", byteOffset := 0 }, { name := "Hi", type := 95, offset := 1, embedded := false, tag := "", pkgPath := "", byteOffset := 4 }, { name := "Stride", type := 95, offset := 2, embedded := false, tag := "", pkgPath := "", byteOffset := 8 }]), 3, 12, some ((Value.agg #[Value.int IntKind.u32 0, Value.int IntKind.u32 0, Value.int IntKind.u32 0]))⟩
theorem tyI120_ok : TyOk Tryd.prog 120 tyI120 := tyOk_mk (by kernel_rfl) (by kernel_rfl) (by kernel_rfl)
def tyI121 : TyI := ⟨(TypeDesc.func #[112, 95] #[4] false), 1, 8, some Value.nilFunc⟩
theorem tyI121_ok : TyOk Tryd.prog 121 tyI121 := tyOk_mk (by kernel_rfl) (by kernel_rfl) (by kernel_rfl)
def tyI122 : TyI := ⟨(TypeDesc.func #[5] #[5] false), 1, 8, some Value.nilFunc⟩
theorem tyI122_ok : TyOk Tryd.prog 122 tyI122 := tyOk_mk (by kernel_rfl) (by kernel_rfl) (by kernel_rfl)
def tyI123 : TyI := ⟨(TypeDesc.struct #[{ name := "Func", type := 9, offset := 0, embedded := false, tag := "", pkgPath := "", byteOffset := 0 }, { name := "Num", type := 9, offset := 1, embedded := false, tag := "", pkgPath := "", byteOffset := 16 }, { name := "Err", type := 55, offset := 2, embedded := false, tag := "", pkgPath := "", byteOffset := 32 }]), 3, 48, some ((Value.agg #[Value.string { data := #[] }, Value.string { data := #[] }, Value.nilIface]))⟩
theorem tyI123_ok : TyOk Tryd.prog 123 tyI123 := tyOk_mk (by kernel_rfl) (by kernel_rfl) (by kernel_rfl)
def tyI124 : TyI := ⟨(TypeDesc.struct #[{ name := "Func", type := 9, offset := 0, embedded := false, tag := "", pkgPath := "", byteOffset := 0 }, { name := "Num", type := 9, offset := 1, embedded := false, tag := "", pkgPath := "", byteOffset := 16 }, { name := "Err", type := 55, offset := 2, embedded := false, tag := "", pkgPath := "", byteOffset := 32 }]), 3, 48, some ((Value.agg #[Value.string { data := #[] }, Value.string { data := #[] }, Value.nilIface]))⟩
theorem tyI124_ok : TyOk Tryd.prog 124 tyI124 := tyOk_mk (by kernel_rfl) (by kernel_rfl) (by kernel_rfl)
def tyI125 : TyI := ⟨(TypeDesc.func #[9] #[55] false), 1, 8, some Value.nilFunc⟩
theorem tyI125_ok : TyOk Tryd.prog 125 tyI125 := tyOk_mk (by kernel_rfl) (by kernel_rfl) (by kernel_rfl)
def tyI126 : TyI := ⟨(TypeDesc.func #[95] #[3] false), 1, 8, some Value.nilFunc⟩
theorem tyI126_ok : TyOk Tryd.prog 126 tyI126 := tyOk_mk (by kernel_rfl) (by kernel_rfl) (by kernel_rfl)
def tyI127 : TyI := ⟨(TypeDesc.pointer 117), 1, 8, some ((Value.pointer none))⟩
theorem tyI127_ok : TyOk Tryd.prog 127 tyI127 := tyOk_mk (by kernel_rfl) (by kernel_rfl) (by kernel_rfl)
def tyI128 : TyI := ⟨(TypeDesc.pointer 120), 1, 8, some ((Value.pointer none))⟩
theorem tyI128_ok : TyOk Tryd.prog 128 tyI128 := tyOk_mk (by kernel_rfl) (by kernel_rfl) (by kernel_rfl)
def tyI129 : TyI := ⟨(TypeDesc.pointer 131), 1, 8, some ((Value.pointer none))⟩
theorem tyI129_ok : TyOk Tryd.prog 129 tyI129 := tyOk_mk (by kernel_rfl) (by kernel_rfl) (by kernel_rfl)
def tyI130 : TyI := ⟨(TypeDesc.struct #[{ name := "s", type := 9, offset := 0, embedded := false, tag := "", pkgPath := "errors", byteOffset := 0 }]), 1, 16, some ((Value.agg #[Value.string { data := #[] }]))⟩
theorem tyI130_ok : TyOk Tryd.prog 130 tyI130 := tyOk_mk (by kernel_rfl) (by kernel_rfl) (by kernel_rfl)
def tyI131 : TyI := ⟨(TypeDesc.struct #[{ name := "s", type := 9, offset := 0, embedded := false, tag := "", pkgPath := "errors", byteOffset := 0 }]), 1, 16, some ((Value.agg #[Value.string { data := #[] }]))⟩
theorem tyI131_ok : TyOk Tryd.prog 131 tyI131 := tyOk_mk (by kernel_rfl) (by kernel_rfl) (by kernel_rfl)
def tyI132 : TyI := ⟨(TypeDesc.array 32 5), 32, 32, some ((Value.agg #[Value.int IntKind.u8 0, Value.int IntKind.u8 0, Value.int IntKind.u8 0, Value.int IntKind.u8 0, Value.int IntKind.u8 0, Value.int IntKind.u8 0, Value.int IntKind.u8 0, Value.int IntKind.u8 0, Value.int IntKind.u8 0, Value.int IntKind.u8 0, Value.int IntKind.u8 0, Value.int IntKind.u8 0, Value.int IntKind.u8 0, Value.int IntKind.u8 0, Value.int IntKind.u8 0, Value.int IntKind.u8 0, Value.int IntKind.u8 0, Value.int IntKind.u8 0, Value.int IntKind.u8 0, Value.int IntKind.u8 0, Value.int IntKind.u8 0, Value.int IntKind.u8 0, Value.int IntKind.u8 0, Value.int IntKind.u8 0, Value.int IntKind.u8 0, Value.int IntKind.u8 0, Value.int IntKind.u8 0, Value.int IntKind.u8 0, Value.int IntKind.u8 0, Value.int IntKind.u8 0, Value.int IntKind.u8 0, Value.int IntKind.u8 0]))⟩
theorem tyI132_ok : TyOk Tryd.prog 132 tyI132 := tyOk_mk (by kernel_rfl) (by kernel_rfl) (by kernel_rfl)
def tyI133 : TyI := ⟨(TypeDesc.array 64 5), 64, 64, some ((Value.agg #[Value.int IntKind.u8 0, Value.int IntKind.u8 0, Value.int IntKind.u8 0, Value.int IntKind.u8 0, Value.int IntKind.u8 0, Value.int IntKind.u8 0, Value.int IntKind.u8 0, Value.int IntKind.u8 0, Value.int IntKind.u8 0, Value.int IntKind.u8 0, Value.int IntKind.u8 0, Value.int IntKind.u8 0, Value.int IntKind.u8 0, Value.int IntKind.u8 0, Value.int IntKind.u8 0, Value.int IntKind.u8 0, Value.int IntKind.u8 0, Value.int IntKind.u8 0, Value.int IntKind.u8 0, Value.int IntKind.u8 0, Value.int IntKind.u8 0, Value.int IntKind.u8 0, Value.int IntKind.u8 0, Value.int IntKind.u8 0, Value.int IntKind.u8 0, Value.int IntKind.u8 0, Value.int IntKind.u8 0, Value.int IntKind.u8 0, Value.int IntKind.u8 0, Value.int IntKind.u8 0, Value.int IntKind.u8 0, Value.int IntKind.u8 0, Value.int IntKind.u8 0, Value.int IntKind.u8 0, Value.int IntKind.u8 0, Value.int IntKind.u8 0, Value.int IntKind.u8 0, Value.int IntKind.u8 0, Value.int IntKind.u8 0, Value.int IntKind.u8 0, Value.int IntKind.u8 0, Value.int IntKind.u8 0, Value.int IntKind.u8 0, Value.int IntKind.u8 0, Value.int IntKind.u8 0, Value.int IntKind.u8 0, Value.int IntKind.u8 0, Value.int IntKind.u8 0, Value.int IntKind.u8 0, Value.int IntKind.u8 0, Value.int IntKind.u8 0, Value.int IntKind.u8 0, Value.int IntKind.u8 0, Value.int IntKind.u8 0, Value.int IntKind.u8 0, Value.int IntKind.u8 0, Value.int IntKind.u8 0, Value.int IntKind.u8 0, Value.int IntKind.u8 0, Value.int IntKind.u8 0, Value.int IntKind.u8 0, Value.int IntKind.u8 0, Value.int IntKind.u8 0, Value.int IntKind.u8 0]))⟩
theorem tyI133_ok : TyOk Tryd.prog 133 tyI133 := tyOk_mk (by kernel_rfl) (by kernel_rfl) (by kernel_rfl)
def tyI134 : TyI := ⟨(TypeDesc.struct #[{ name := "_interface", type := 17, offset := 0, embedded := false, tag := "", pkgPath := "runtime", byteOffset := 0 }, { name := "concrete", type := 17, offset := 1, embedded := false, tag := "", pkgPath := "runtime", byteOffset := 8 }, { name := "asserted", type := 17, offset := 2, embedded := false, tag := "", pkgPath := "runtime", byteOffset := 16 }, { name := "missingMethod", type := 9, offset := 3, embedded := false, tag := "", pkgPath := "runtime", byteOffset := 24 }]), 4, 40, some ((Value.agg #[Value.pointer none, Value.pointer none, Value.pointer none, Value.string { data := #[] }]))⟩
theorem tyI134_ok : TyOk Tryd.prog 134 tyI134 := tyOk_mk (by kernel_rfl) (by kernel_rfl) (by kernel_rfl)
def tyI135 : TyI := ⟨(TypeDesc.struct #[{ name := "_interface", type := 17, offset := 0, embedded := false, tag := "", pkgPath := "runtime", byteOffset := 0 }, { name := "concrete", type := 17, offset := 1, embedded := false, tag := "", pkgPath := "runtime", byteOffset := 8 }, { name := "asserted", type := 17, offset := 2, embedded := false, tag := "", pkgPath := "runtime", byteOffset := 16 }, { name := "missingMethod", type := 9, offset := 3, embedded := false, tag := "", pkgPath := "runtime", byteOffset := 24 }]), 4, 40, some ((Value.agg #[Value.pointer none, Value.pointer none, Value.pointer none, Value.string { data := #[] }]))⟩
theorem tyI135_ok : TyOk Tryd.prog 135 tyI135 := tyOk_mk (by kernel_rfl) (by kernel_rfl) (by kernel_rfl)
def tyI136 : TyI := ⟨(TypeDesc.array 0 16), 0, 0, some ((Value.agg #[]))⟩
theorem tyI136_ok : TyOk Tryd.prog 136 tyI136 := tyOk_mk (by kernel_rfl) (by kernel_rfl) (by kernel_rfl)
def tyI137 : TyI := ⟨(TypeDesc.struct #[{ name := "_", type := 136, offset := 0, embedded := false, tag := "", pkgPath := "runtime", byteOffset := 0 }]), 0, 0, some ((Value.agg #[]))⟩
theorem tyI137_ok : TyOk Tryd.prog 137 tyI137 := tyOk_mk (by kernel_rfl) (by kernel_rfl) (by kernel_rfl)
def tyI138 : TyI := ⟨(TypeDesc.struct #[{ name := "_", type := 136, offset := 0, embedded := false, tag := "", pkgPath := "runtime", byteOffset := 0 }]), 0, 0, some ((Value.agg #[]))⟩
theorem tyI138_ok : TyOk Tryd.prog 138 tyI138 := tyOk_mk (by kernel_rfl) (by kernel_rfl) (by kernel_rfl)
def tyI139 : TyI := ⟨(TypeDesc.int IntKind.u8), 1, 1, some ((Value.int IntKind.u8 0))⟩
theorem tyI139_ok : TyOk Tryd.prog 139 tyI139 := tyOk_mk (by kernel_rfl) (by kernel_rfl) (by kernel_rfl)
def tyI140 : TyI := ⟨(TypeDesc.int IntKind.u8), 1, 1, some ((Value.int IntKind.u8 0))⟩
theorem tyI140_ok : TyOk Tryd.prog 140 tyI140 := tyOk_mk (by kernel_rfl) (by kernel_rfl) (by kernel_rfl)
def tyT : Tr TyI := (.node (some tyI0) (.node (some tyI1) (.node (some tyI3) (.node (some tyI7) (.node (some tyI15) (.node (some tyI31) (.node (some tyI63) (.node (some tyI127) .leaf .leaf) .leaf) (.node (some tyI95) .leaf .leaf)) (.node (some tyI47) (.node (some tyI79) .leaf .leaf) (.node (some tyI111) .leaf .leaf))) (.node (some tyI23) (.node (some tyI39) (.node (some tyI71) (.node (some tyI135) .leaf .leaf) .leaf) (.node (some tyI103) .leaf .leaf)) (.node (some tyI55) (.node (some tyI87) .leaf .leaf) (.node (some tyI119) .leaf .leaf)))) (.node (some tyI11) (.node (some tyI19) (.node (some tyI35) (.node (some tyI67) (.node (some tyI131) .leaf .leaf) .leaf) (.node (some tyI99) .leaf .leaf)) (.node (some tyI51) (.node (some tyI83) .leaf .leaf) (.node (some tyI115) .leaf .leaf))) (.node (some tyI27) (.node (some tyI43) (.node (some tyI75) (.node (some tyI139) .leaf .leaf) .leaf) (.node (some tyI107) .leaf .leaf)) (.node (some tyI59) (.node (some tyI91) .leaf .leaf) (.node (some tyI123) .leaf .leaf))))) (.node (some tyI5) (.node (some tyI9) (.node (some tyI17) (.node (some tyI33) (.node (some tyI65) (.node (some tyI129) .leaf .leaf) .leaf) (.node (some tyI97) .leaf .leaf)) (.node (some tyI49) (.node (some tyI81) .leaf .leaf) (.node (some tyI113) .leaf .leaf))) (.node (some tyI25) (.node (some tyI41) (.node (some tyI73) (.node (some tyI137) .leaf .leaf) .leaf) (.node (some tyI105) .leaf .leaf)) (.node (some tyI57) (.node (some tyI89) .leaf .leaf) (.node (some tyI121) .leaf .leaf)))) (.node (some tyI13) (.node (some tyI21) (.node (some tyI37) (.node (some tyI69) (.node (some tyI133) .leaf .leaf) .leaf) (.node (some tyI101) .leaf .leaf)) (.node (some tyI53) (.node (some tyI85) .leaf .leaf) (.node (some tyI117) .leaf .leaf))) (.node (some tyI29) (.node (some tyI45) (.node (some tyI77) .leaf .leaf) (.node (some tyI109) .leaf .leaf)) (.node (some tyI61) (.node (some tyI93) .leaf .leaf) (.node (some tyI125) .leaf .leaf)))))) (.node (some tyI2) (.node (some tyI4) (.node (some tyI8) (.node (some tyI16) (.node (some tyI32) (.node (some tyI64) (.node (some tyI128) .leaf .leaf) .leaf) (.node (some tyI96) .leaf .leaf)) (.node (some tyI48) (.node (some tyI80) .leaf .leaf) (.node (some tyI112) .leaf .leaf))) (.node (some tyI24) (.node (some tyI40) (.node (some tyI72) (.node (some tyI136) .leaf .leaf) .leaf) (.node (some tyI104) .leaf .leaf)) (.node (some tyI56) (.node (some tyI88) .leaf .leaf) (.node (some tyI120) .leaf .leaf)))) (.node (some tyI12) (.node (some tyI20) (.node (some tyI36) (.node (some tyI68) (.node (some tyI132) .leaf .leaf) .leaf) (.node (some tyI100) .leaf .leaf)) (.node (some tyI52) (.node (some tyI84) .leaf .leaf) (.node (some tyI116) .leaf .leaf))) (.node (some tyI28) (.node (some tyI44) (.node (some tyI76) (.node (some tyI140) .leaf .leaf) .leaf) (.node (some tyI108) .leaf .leaf)) (.node (some tyI60) (.node (some tyI92) .leaf .leaf) (.node (some tyI124) .leaf .leaf))))) (.node (some tyI6) (.node (some tyI10) (.node (some tyI18) (.node (some tyI34) (.node (some tyI66) (.node (some tyI130) .leaf .leaf) .leaf) (.node (some tyI98) .leaf .leaf)) (.node (some tyI50) (.node (some tyI82) .leaf .leaf) (.node (some tyI114) .leaf .leaf))) (.node (some tyI26) (.node (some tyI42) (.node (some tyI74) (.node (some tyI138) .leaf .leaf) .leaf) (.node (some tyI106) .leaf .leaf)) (.node (some tyI58) (.node (some tyI90) .leaf .leaf) (.node (some tyI122) .leaf .leaf)))) (.node (some tyI14) (.node (some tyI22) (.node (some tyI38) (.node (some tyI70) (.node (some tyI134) .leaf .leaf) .leaf) (.node (some tyI102) .leaf .leaf)) (.node (some tyI54) (.node (some tyI86) .leaf .leaf) (.node (some tyI118) .leaf .leaf))) (.node (some tyI30) (.node (some tyI46) (.node (some tyI78) .leaf .leaf) (.node (some tyI110) .leaf .leaf)) (.node (some tyI62) (.node (some tyI94) .leaf .leaf) (.node (some tyI126) .leaf .leaf)))))))
theorem tyT_ok : ∀ t i, tyT.get t = some i → TyOk Tryd.prog t i := Tr.allAt tyT id (show Tr.AllAt _ _ tyT from ⟨tyI0_ok, ⟨tyI1_ok, ⟨tyI3_ok, ⟨tyI7_ok, ⟨tyI15_ok, ⟨tyI31_ok, ⟨tyI63_ok, ⟨tyI127_ok, trivial, trivial⟩, trivial⟩, ⟨tyI95_ok, trivial, trivial⟩⟩, ⟨tyI47_ok, ⟨tyI79_ok, trivial, trivial⟩, ⟨tyI111_ok, trivial, trivial⟩⟩⟩, ⟨tyI23_ok, ⟨tyI39_ok, ⟨tyI71_ok, ⟨tyI135_ok, trivial, trivial⟩, trivial⟩, ⟨tyI103_ok, trivial, trivial⟩⟩, ⟨tyI55_ok, ⟨tyI87_ok, trivial, trivial⟩, ⟨tyI119_ok, trivial, trivial⟩⟩⟩⟩, ⟨tyI11_ok, ⟨tyI19_ok, ⟨tyI35_ok, ⟨tyI67_ok, ⟨tyI131_ok, trivial, trivial⟩, trivial⟩, ⟨tyI99_ok, trivial, trivial⟩⟩, ⟨tyI51_ok, ⟨tyI83_ok, trivial, trivial⟩, ⟨tyI115_ok, trivial, trivial⟩⟩⟩, ⟨tyI27_ok, ⟨tyI43_ok, ⟨tyI75_ok, ⟨tyI139_ok, trivial, trivial⟩, trivial⟩, ⟨tyI107_ok, trivial, trivial⟩⟩, ⟨tyI59_ok, ⟨tyI91_ok, trivial, trivial⟩, ⟨tyI123_ok, trivial, trivial⟩⟩⟩⟩⟩, ⟨tyI5_ok, ⟨tyI9_ok, ⟨tyI17_ok, ⟨tyI33_ok, ⟨tyI65_ok, ⟨tyI129_ok, trivial, trivial⟩, trivial⟩, ⟨tyI97_ok, trivial, trivial⟩⟩, ⟨tyI49_ok, ⟨tyI81_ok, trivial, trivial⟩, ⟨tyI113_ok, trivial, trivial⟩⟩⟩, ⟨tyI25_ok, ⟨tyI41_ok, ⟨tyI73_ok, ⟨tyI137_ok, trivial, trivial⟩, trivial⟩, ⟨tyI105_ok, trivial, trivial⟩⟩, ⟨tyI57_ok, ⟨tyI89_ok, trivial, trivial⟩, ⟨tyI121_ok, trivial, trivial⟩⟩⟩⟩, ⟨tyI13_ok, ⟨tyI21_ok, ⟨tyI37_ok, ⟨tyI69_ok, ⟨tyI133_ok, trivial, trivial⟩, trivial⟩, ⟨tyI101_ok, trivial, trivial⟩⟩, ⟨tyI53_ok, ⟨tyI85_ok, trivial, trivial⟩, ⟨tyI117_ok, trivial, trivial⟩⟩⟩, ⟨tyI29_ok, ⟨tyI45_ok, ⟨tyI77_ok, trivial, trivial⟩, ⟨tyI109_ok, trivial, trivial⟩⟩, ⟨tyI61_ok, ⟨tyI93_ok, trivial, trivial⟩, ⟨tyI125_ok, trivial, trivial⟩⟩⟩⟩⟩⟩, ⟨tyI2_ok, ⟨tyI4_ok, ⟨tyI8_ok, ⟨tyI16_ok, ⟨tyI32_ok, ⟨tyI64_ok, ⟨tyI128_ok, trivial, trivial⟩, trivial⟩, ⟨tyI96_ok, trivial, trivial⟩⟩, ⟨tyI48_ok, ⟨tyI80_ok, trivial, trivial⟩, ⟨tyI112_ok, trivial, trivial⟩⟩⟩, ⟨tyI24_ok, ⟨tyI40_ok, ⟨tyI72_ok, ⟨tyI136_ok, trivial, trivial⟩, trivial⟩, ⟨tyI104_ok, trivial, trivial⟩⟩, ⟨tyI56_ok, ⟨tyI88_ok, trivial, trivial⟩, ⟨tyI120_ok, trivial, trivial⟩⟩⟩⟩, ⟨tyI12_ok, ⟨tyI20_ok, ⟨tyI36_ok, ⟨tyI68_ok, ⟨tyI132_ok, trivial, trivial⟩, trivial⟩, ⟨tyI100_ok, trivial, trivial⟩⟩, ⟨tyI52_ok, ⟨tyI84_ok, trivial, trivial⟩, ⟨tyI116_ok, trivial, trivial⟩⟩⟩, ⟨tyI28_ok, ⟨tyI44_ok, ⟨tyI76_ok, ⟨tyI140_ok, trivial, trivial⟩, trivial⟩, ⟨tyI108_ok, trivial, trivial⟩⟩, ⟨tyI60_ok, ⟨tyI92_ok, trivial, trivial⟩, ⟨tyI124_ok, trivial, trivial⟩⟩⟩⟩⟩, ⟨tyI6_ok, ⟨tyI10_ok, ⟨tyI18_ok, ⟨tyI34_ok, ⟨tyI66_ok, ⟨tyI130_ok, trivial, trivial⟩, trivial⟩, ⟨tyI98_ok, trivial, trivial⟩⟩, ⟨tyI50_ok, ⟨tyI82_ok, trivial, trivial⟩, ⟨tyI114_ok, trivial, trivial⟩⟩⟩, ⟨tyI26_ok, ⟨tyI42_ok, ⟨tyI74_ok, ⟨tyI138_ok, trivial, trivial⟩, trivial⟩, ⟨tyI106_ok, trivial, trivial⟩⟩, ⟨tyI58_ok, ⟨tyI90_ok, trivial, trivial⟩, ⟨tyI122_ok, trivial, trivial⟩⟩⟩⟩, ⟨tyI14_ok, ⟨tyI22_ok, ⟨tyI38_ok, ⟨tyI70_ok, ⟨tyI134_ok, trivial, trivial⟩, trivial⟩, ⟨tyI102_ok, trivial, trivial⟩⟩, ⟨tyI54_ok, ⟨tyI86_ok, trivial, trivial⟩, ⟨tyI118_ok, trivial, trivial⟩⟩⟩, ⟨tyI30_ok, ⟨tyI46_ok, ⟨tyI78_ok, trivial, trivial⟩, ⟨tyI110_ok, trivial, trivial⟩⟩, ⟨tyI62_ok, ⟨tyI94_ok, trivial, trivial⟩, ⟨tyI126_ok, trivial, trivial⟩⟩⟩⟩⟩⟩⟩)
theorem fn3_ok : FnOk Tryd.prog 3 Tryd.f3 := ⟨Tryd.func3, by kernel_rfl⟩
theorem fn4_ok : FnOk Tryd.prog 4 Tryd.f4 := ⟨Tryd.func4, by kernel_rfl⟩
theorem fn5_ok : FnOk Tryd.prog 5 Tryd.f5 := ⟨Tryd.func5, by kernel_rfl⟩
theorem fn6_ok : FnOk Tryd.prog 6 Tryd.f6 := ⟨Tryd.func6, by kernel_rfl⟩
theorem fn7_ok : FnOk Tryd.prog 7 Tryd.f7 := ⟨Tryd.func7, by kernel_rfl⟩
theorem fn8_ok : FnOk Tryd.prog 8 Tryd.f8 := ⟨Tryd.func8, by kernel_rfl⟩
theorem fn9_ok : FnOk Tryd.prog 9 Tryd.f9 := ⟨Tryd.func9, by kernel_rfl⟩
theorem fn10_ok : FnOk Tryd.prog 10 Tryd.f10 := ⟨Tryd.func10, by kernel_rfl⟩
theorem fn11_ok : FnOk Tryd.prog 11 Tryd.f11 := ⟨Tryd.func11, by kernel_rfl⟩
theorem fn12_ok : FnOk Tryd.prog 12 Tryd.f12 := ⟨Tryd.func12, by kernel_rfl⟩
theorem fn13_ok : FnOk Tryd.prog 13 Tryd.f13 := ⟨Tryd.func13, by kernel_rfl⟩
theorem fn14_ok : FnOk Tryd.prog 14 Tryd.f14 := ⟨Tryd.func14, by kernel_rfl⟩
theorem fn15_ok : FnOk Tryd.prog 15 Tryd.f15 := ⟨Tryd.func15, by kernel_rfl⟩
theorem fn16_ok : FnOk Tryd.prog 16 Tryd.f16 := ⟨Tryd.func16, by kernel_rfl⟩
theorem fn17_ok : FnOk Tryd.prog 17 Tryd.f17 := ⟨Tryd.func17, by kernel_rfl⟩
theorem fn18_ok : FnOk Tryd.prog 18 Tryd.f18 := ⟨Tryd.func18, by kernel_rfl⟩
theorem fn19_ok : FnOk Tryd.prog 19 Tryd.f19 := ⟨Tryd.func19, by kernel_rfl⟩
theorem fn20_ok : FnOk Tryd.prog 20 Tryd.f20 := ⟨Tryd.func20, by kernel_rfl⟩
theorem fn21_ok : FnOk Tryd.prog 21 Tryd.f21 := ⟨Tryd.func21, by kernel_rfl⟩
theorem fn22_ok : FnOk Tryd.prog 22 Tryd.f22 := ⟨Tryd.func22, by kernel_rfl⟩
theorem fn23_ok : FnOk Tryd.prog 23 Tryd.f23 := ⟨Tryd.func23, by kernel_rfl⟩
theorem fn24_ok : FnOk Tryd.prog 24 Tryd.f24 := ⟨Tryd.func24, by kernel_rfl⟩
theorem fn25_ok : FnOk Tryd.prog 25 Tryd.f25 := ⟨Tryd.func25, by kernel_rfl⟩
theorem fn26_ok : FnOk Tryd.prog 26 Tryd.f26 := ⟨Tryd.func26, by kernel_rfl⟩
theorem fn27_ok : FnOk Tryd.prog 27 Tryd.f27 := ⟨Tryd.func27, by kernel_rfl⟩
theorem fn28_ok : FnOk Tryd.prog 28 Tryd.f28 := ⟨Tryd.func28, by kernel_rfl⟩
theorem fn29_ok : FnOk Tryd.prog 29 Tryd.f29 := ⟨Tryd.func29, by kernel_rfl⟩
theorem fn31_ok : FnOk Tryd.prog 31 Tryd.f31 := ⟨Tryd.func31, by kernel_rfl⟩
theorem fn32_ok : FnOk Tryd.prog 32 Tryd.f32 := ⟨Tryd.func32, by kernel_rfl⟩
theorem fn33_ok : FnOk Tryd.prog 33 Tryd.f33 := ⟨Tryd.func33, by kernel_rfl⟩
theorem fn34_ok : FnOk Tryd.prog 34 Tryd.f34 := ⟨Tryd.func34, by kernel_rfl⟩
theorem fn35_ok : FnOk Tryd.prog 35 Tryd.f35 := ⟨Tryd.func35, by kernel_rfl⟩
theorem fn36_ok : FnOk Tryd.prog 36 Tryd.f36 := ⟨Tryd.func36, by kernel_rfl⟩
theorem fn37_ok : FnOk Tryd.prog 37 Tryd.f37 := ⟨Tryd.func37, by kernel_rfl⟩
theorem fn38_ok : FnOk Tryd.prog 38 Tryd.f38 := ⟨Tryd.func38, by kernel_rfl⟩
theorem fn39_ok : FnOk Tryd.prog 39 Tryd.f39 := ⟨Tryd.func39, by kernel_rfl⟩
theorem fn40_ok : FnOk Tryd.prog 40 Tryd.f40 := ⟨Tryd.func40, by kernel_rfl⟩
theorem fn41_ok : FnOk Tryd.prog 41 Tryd.f41 := ⟨Tryd.func41, by kernel_rfl⟩
theorem fn42_ok : FnOk Tryd.prog 42 Tryd.f42 := ⟨Tryd.func42, by kernel_rfl⟩
theorem fn43_ok : FnOk Tryd.prog 43 Tryd.f43 := ⟨Tryd.func43, by kernel_rfl⟩
theorem fn44_ok : FnOk Tryd.prog 44 Tryd.f44 := ⟨Tryd.func44, by kernel_rfl⟩
theorem fn45_ok : FnOk Tryd.prog 45 Tryd.f45 := ⟨Tryd.func45, by kernel_rfl⟩
theorem fn46_ok : FnOk Tryd.prog 46 Tryd.f46 := ⟨Tryd.func46, by kernel_rfl⟩
theorem fn47_ok : FnOk Tryd.prog 47 Tryd.f47 := ⟨Tryd.func47, by kernel_rfl⟩
theorem fn48_ok : FnOk Tryd.prog 48 Tryd.f48 := ⟨Tryd.func48, by kernel_rfl⟩
theorem fn49_ok : FnOk Tryd.prog 49 Tryd.f49 := ⟨Tryd.func49, by kernel_rfl⟩
theorem fn50_ok : FnOk Tryd.prog 50 Tryd.f50 := ⟨Tryd.func50, by kernel_rfl⟩
theorem fn51_ok : FnOk Tryd.prog 51 Tryd.f51 := ⟨Tryd.func51, by kernel_rfl⟩
theorem fn52_ok : FnOk Tryd.prog 52 Tryd.f52 := ⟨Tryd.func52, by kernel_rfl⟩
theorem fn53_ok : FnOk Tryd.prog 53 Tryd.f53 := ⟨Tryd.func53, by kernel_rfl⟩
theorem fn54_ok : FnOk Tryd.prog 54 Tryd.f54 := ⟨Tryd.func54, by kernel_rfl⟩
theorem fn55_ok : FnOk Tryd.prog 55 Tryd.f55 := ⟨Tryd.func55, by kernel_rfl⟩
theorem fn56_ok : FnOk Tryd.prog 56 Tryd.f56 := ⟨Tryd.func56, by kernel_rfl⟩
theorem fn57_ok : FnOk Tryd.prog 57 Tryd.f57 := ⟨Tryd.func57, by kernel_rfl⟩
theorem fn58_ok : FnOk Tryd.prog 58 Tryd.f58 := ⟨Tryd.func58, by kernel_rfl⟩
theorem fn59_ok : FnOk Tryd.prog 59 Tryd.f59 := ⟨Tryd.func59, by kernel_rfl⟩
theorem fn60_ok : FnOk Tryd.prog 60 Tryd.f60 := ⟨Tryd.func60, by kernel_rfl⟩
theorem fn61_ok : FnOk Tryd.prog 61 Tryd.f61 := ⟨Tryd.func61, by kernel_rfl⟩
theorem fn63_ok : FnOk Tryd.prog 63 Tryd.f63 := ⟨Tryd.func63, by kernel_rfl⟩
theorem fn64_ok : FnOk Tryd.prog 64 Tryd.f64 := ⟨Tryd.func64, by kernel_rfl⟩
theorem fn65_ok : FnOk Tryd.prog 65 Tryd.f65 := ⟨Tryd.func65, by kernel_rfl⟩
theorem fn66_ok : FnOk Tryd.prog 66 Tryd.f66 := ⟨Tryd.func66, by kernel_rfl⟩
theorem fn67_ok : FnOk Tryd.prog 67 Tryd.f67 := ⟨Tryd.func67, by kernel_rfl⟩
theorem fn68_ok : FnOk Tryd.prog 68 Tryd.f68 := ⟨Tryd.func68, by kernel_rfl⟩
theorem fn69_ok : FnOk Tryd.prog 69 Tryd.f69 := ⟨Tryd.func69, by kernel_rfl⟩
theorem fn70_ok : FnOk Tryd.prog 70 Tryd.f70 := ⟨Tryd.func70, by kernel_rfl⟩
theorem fn71_ok : FnOk Tryd.prog 71 Tryd.f71 := ⟨Tryd.func71, by kernel_rfl⟩
theorem fn72_ok : FnOk Tryd.prog 72 Tryd.f72 := ⟨Tryd.func72, by kernel_rfl⟩
theorem fn73_ok : FnOk Tryd.prog 73 Tryd.f73 := ⟨Tryd.func73, by kernel_rfl⟩
theorem fn75_ok : FnOk Tryd.prog 75 Tryd.f75 := ⟨Tryd.func75, by kernel_rfl⟩
theorem fn76_ok : FnOk Tryd.prog 76 Tryd.f76 := ⟨Tryd.func76, by kernel_rfl⟩
theorem fn77_ok : FnOk Tryd.prog 77 Tryd.f77 := ⟨Tryd.func77, by kernel_rfl⟩
theorem fn78_ok : FnOk Tryd.prog 78 Tryd.f78 := ⟨Tryd.func78, by kernel_rfl⟩
theorem fn79_ok : FnOk Tryd.prog 79 Tryd.f79 := ⟨Tryd.func79, by kernel_rfl⟩
theorem fn80_ok : FnOk Tryd.prog 80 Tryd.f80 := ⟨Tryd.func80, by kernel_rfl⟩
theorem fn81_ok : FnOk Tryd.prog 81 Tryd.f81 := ⟨Tryd.func81, by kernel_rfl⟩
theorem fn82_ok : FnOk Tryd.prog 82 Tryd.f82 := ⟨Tryd.func82, by kernel_rfl⟩
theorem fn83_ok : FnOk Tryd.prog 83 Tryd.f83 := ⟨Tryd.func83, by kernel_rfl⟩
theorem fn84_ok : FnOk Tryd.prog 84 Tryd.f84 := ⟨Tryd.func84, by kernel_rfl⟩
theorem fn85_ok : FnOk Tryd.prog 85 Tryd.f85 := ⟨Tryd.func85, by kernel_rfl⟩
theorem fn86_ok : FnOk Tryd.prog 86 Tryd.f86 := ⟨Tryd.func86, by kernel_rfl⟩
theorem fn87_ok : FnOk Tryd.prog 87 Tryd.f87 := ⟨Tryd.func87, by kernel_rfl⟩
theorem fn88_ok : FnOk Tryd.prog 88 Tryd.f88 := ⟨Tryd.func88, by kernel_rfl⟩
theorem fn89_ok : FnOk Tryd.prog 89 Tryd.f89 := ⟨Tryd.func89, by kernel_rfl⟩
noncomputable def fnT : Tr Func := (.node none (.node none (.node (some Tryd.f3) (.node (some Tryd.f7) (.node (some Tryd.f15) (.node (some Tryd.f31) (.node (some Tryd.f63) .leaf .leaf) .leaf) (.node (some Tryd.f47) (.node (some Tryd.f79) .leaf .leaf) .leaf)) (.node (some Tryd.f23) (.node (some Tryd.f39) (.node (some Tryd.f71) .leaf .leaf) .leaf) (.node (some Tryd.f55) (.node (some Tryd.f87) .leaf .leaf) .leaf))) (.node (some Tryd.f11) (.node (some Tryd.f19) (.node (some Tryd.f35) (.node (some Tryd.f67) .leaf .leaf) .leaf) (.node (some Tryd.f51) (.node (some Tryd.f83) .leaf .leaf) .leaf)) (.node (some Tryd.f27) (.node (some Tryd.f43) (.node (some Tryd.f75) .leaf .leaf) .leaf) (.node (some Tryd.f59) .leaf .leaf)))) (.node (some Tryd.f5) (.node (some Tryd.f9) (.node (some Tryd.f17) (.node (some Tryd.f33) (.node (some Tryd.f65) .leaf .leaf) .leaf) (.node (some Tryd.f49) (.node (some Tryd.f81) .leaf .leaf) .leaf)) (.node (some Tryd.f25) (.node (some Tryd.f41) (.node (some Tryd.f73) .leaf .leaf) .leaf) (.node (some Tryd.f57) (.node (some Tryd.f89) .leaf .leaf) .leaf))) (.node (some Tryd.f13) (.node (some Tryd.f21) (.node (some Tryd.f37) (.node (some Tryd.f69) .leaf .leaf) .leaf) (.node (some Tryd.f53) (.node (some Tryd.f85) .leaf .leaf) .leaf)) (.node (some Tryd.f29) (.node (some Tryd.f45) (.node (some Tryd.f77) .leaf .leaf) .leaf) (.node (some Tryd.f61) .leaf .leaf))))) (.node none (.node (some Tryd.f4) (.node (some Tryd.f8) (.node (some Tryd.f16) (.node (some Tryd.f32) (.node (some Tryd.f64) .leaf .leaf) .leaf) (.node (some Tryd.f48) (.node (some Tryd.f80) .leaf .leaf) .leaf)) (.node (some Tryd.f24) (.node (some Tryd.f40) (.node (some Tryd.f72) .leaf .leaf) .leaf) (.node (some Tryd.f56) (.node (some Tryd.f88) .leaf .leaf) .leaf))) (.node (some Tryd.f12) (.node (some Tryd.f20) (.node (some Tryd.f36) (.node (some Tryd.f68) .leaf .leaf) .leaf) (.node (some Tryd.f52) (.node (some Tryd.f84) .leaf .leaf) .leaf)) (.node (some Tryd.f28) (.node (some Tryd.f44) (.node (some Tryd.f76) .leaf .leaf) .leaf) (.node (some Tryd.f60) .leaf .leaf)))) (.node (some Tryd.f6) (.node (some Tryd.f10) (.node (some Tryd.f18) (.node (some Tryd.f34) (.node (some Tryd.f66) .leaf .leaf) .leaf) (.node (some Tryd.f50) (.node (some Tryd.f82) .leaf .leaf) .leaf)) (.node (some Tryd.f26) (.node (some Tryd.f42) .leaf .leaf) (.node (some Tryd.f58) .leaf .leaf))) (.node (some Tryd.f14) (.node (some Tryd.f22) (.node (some Tryd.f38) (.node (some Tryd.f70) .leaf .leaf) .leaf) (.node (some Tryd.f54) (.node (some Tryd.f86) .leaf .leaf) .leaf)) (.node none (.node (some Tryd.f46) (.node (some Tryd.f78) .leaf .leaf) .leaf) .leaf)))))
theorem fnT_ok : ∀ f x, fnT.get f = some x → FnOk Tryd.prog f x := Tr.allAt fnT id (show Tr.AllAt _ _ fnT from ⟨trivial, ⟨trivial, ⟨fn3_ok, ⟨fn7_ok, ⟨fn15_ok, ⟨fn31_ok, ⟨fn63_ok, trivial, trivial⟩, trivial⟩, ⟨fn47_ok, ⟨fn79_ok, trivial, trivial⟩, trivial⟩⟩, ⟨fn23_ok, ⟨fn39_ok, ⟨fn71_ok, trivial, trivial⟩, trivial⟩, ⟨fn55_ok, ⟨fn87_ok, trivial, trivial⟩, trivial⟩⟩⟩, ⟨fn11_ok, ⟨fn19_ok, ⟨fn35_ok, ⟨fn67_ok, trivial, trivial⟩, trivial⟩, ⟨fn51_ok, ⟨fn83_ok, trivial, trivial⟩, trivial⟩⟩, ⟨fn27_ok, ⟨fn43_ok, ⟨fn75_ok, trivial, trivial⟩, trivial⟩, ⟨fn59_ok, trivial, trivial⟩⟩⟩⟩, ⟨fn5_ok, ⟨fn9_ok, ⟨fn17_ok, ⟨fn33_ok, ⟨fn65_ok, trivial, trivial⟩, trivial⟩, ⟨fn49_ok, ⟨fn81_ok, trivial, trivial⟩, trivial⟩⟩, ⟨fn25_ok, ⟨fn41_ok, ⟨fn73_ok, trivial, trivial⟩, trivial⟩, ⟨fn57_ok, ⟨fn89_ok, trivial, trivial⟩, trivial⟩⟩⟩, ⟨fn13_ok, ⟨fn21_ok, ⟨fn37_ok, ⟨fn69_ok, trivial, trivial⟩, trivial⟩, ⟨fn53_ok, ⟨fn85_ok, trivial, trivial⟩, trivial⟩⟩, ⟨fn29_ok, ⟨fn45_ok, ⟨fn77_ok, trivial, trivial⟩, trivial⟩, ⟨fn61_ok, trivial, trivial⟩⟩⟩⟩⟩, ⟨trivial, ⟨fn4_ok, ⟨fn8_ok, ⟨fn16_ok, ⟨fn32_ok, ⟨fn64_ok, trivial, trivial⟩, trivial⟩, ⟨fn48_ok, ⟨fn80_ok, trivial, trivial⟩, trivial⟩⟩, ⟨fn24_ok, ⟨fn40_ok, ⟨fn72_ok, trivial, trivial⟩, trivial⟩, ⟨fn56_ok, ⟨fn88_ok, trivial, trivial⟩, trivial⟩⟩⟩, ⟨fn12_ok, ⟨fn20_ok, ⟨fn36_ok, ⟨fn68_ok, trivial, trivial⟩, trivial⟩, ⟨fn52_ok, ⟨fn84_ok, trivial, trivial⟩, trivial⟩⟩, ⟨fn28_ok, ⟨fn44_ok, ⟨fn76_ok, trivial, trivial⟩, trivial⟩, ⟨fn60_ok, trivial, trivial⟩⟩⟩⟩, ⟨fn6_ok, ⟨fn10_ok, ⟨fn18_ok, ⟨fn34_ok, ⟨fn66_ok, trivial, trivial⟩, trivial⟩, ⟨fn50_ok, ⟨fn82_ok, trivial, trivial⟩, trivial⟩⟩, ⟨fn26_ok, ⟨fn42_ok, trivial, trivial⟩, ⟨fn58_ok, trivial, trivial⟩⟩⟩, ⟨fn14_ok, ⟨fn22_ok, ⟨fn38_ok, ⟨fn70_ok, trivial, trivial⟩, trivial⟩, ⟨fn54_ok, ⟨fn86_ok, trivial, trivial⟩, trivial⟩⟩, ⟨trivial, ⟨fn46_ok, ⟨fn78_ok, trivial, trivial⟩, trivial⟩, trivial⟩⟩⟩⟩⟩)
theorem identT_ok : ∀ f : FuncId, (decide (f = 62)) = true → ∃ fn, Tryd.prog.funcs[f]? = some fn ∧ (fn.name == "runtime.NumGoroutine") = false ∧ fn.body.isNone = true ∧ Extern.findNext fn = none ∧ Extern.find fn = some Extern.AbiNoEscape.same := by
  intro f h
  simp only [decide_eq_true_eq] at h
  subst h
  exact ⟨Tryd.f62, by kernel_rfl, by kernel_rfl, by kernel_rfl, by kernel_rfl, by kernel_rfl⟩
noncomputable def J : Env := { P := Tryd.prog, ty := tyT.get, ty_ok := tyT_ok, fn := fnT.get, fn_ok := fnT_ok, ident := fun f => decide (f = 62), ident_ok := identT_ok, inv := invT, hook := hookT, hook_ok := hookT_ok }
theorem code3_ok : bodyOk J Tryd.f3 = true := by kernel_rfl
theorem code4_ok : bodyOk J Tryd.f4 = true := by kernel_rfl
theorem code5_ok : bodyOk J Tryd.f5 = true := by kernel_rfl
theorem code6_ok : bodyOk J Tryd.f6 = true := by kernel_rfl
theorem code7_ok : bodyOk J Tryd.f7 = true := by kernel_rfl
theorem code8_ok : bodyOk J Tryd.f8 = true := by kernel_rfl
theorem code9_ok : bodyOk J Tryd.f9 = true := by kernel_rfl
theorem code10_ok : bodyOk J Tryd.f10 = true := by kernel_rfl
theorem code11_ok : bodyOk J Tryd.f11 = true := by kernel_rfl
theorem code12_ok : bodyOk J Tryd.f12 = true := by kernel_rfl
theorem code13_ok : bodyOk J Tryd.f13 = true := by kernel_rfl
theorem code14_ok : bodyOk J Tryd.f14 = true := by kernel_rfl
theorem code15_ok : bodyOk J Tryd.f15 = true := by kernel_rfl
theorem code16_ok : bodyOk J Tryd.f16 = true := by kernel_rfl
theorem code17_ok : bodyOk J Tryd.f17 = true := by kernel_rfl
theorem code18_ok : bodyOk J Tryd.f18 = true := by kernel_rfl
theorem code19_ok : bodyOk J Tryd.f19 = true := by kernel_rfl
theorem code20_ok : bodyOk J Tryd.f20 = true := by kernel_rfl
theorem code21_ok : bodyOk J Tryd.f21 = true := by kernel_rfl
theorem code22_ok : bodyOk J Tryd.f22 = true := by kernel_rfl
theorem code23_ok : bodyOk J Tryd.f23 = true := by kernel_rfl
theorem code24_ok : bodyOk J Tryd.f24 = true := by kernel_rfl
theorem code25_ok : bodyOk J Tryd.f25 = true := by kernel_rfl
theorem code26_ok : bodyOk J Tryd.f26 = true := by kernel_rfl
theorem code27_ok : bodyOk J Tryd.f27 = true := by kernel_rfl
theorem code28_ok : bodyOk J Tryd.f28 = true := by kernel_rfl
theorem code29_ok : bodyOk J Tryd.f29 = true := by kernel_rfl
theorem code31_ok : bodyOk J Tryd.f31 = true := by kernel_rfl
theorem code32_ok : bodyOk J Tryd.f32 = true := by kernel_rfl
theorem code33_ok : bodyOk J Tryd.f33 = true := by kernel_rfl
theorem code34_ok : bodyOk J Tryd.f34 = true := by kernel_rfl
theorem code35_ok : bodyOk J Tryd.f35 = true := by kernel_rfl
theorem code36_ok : bodyOk J Tryd.f36 = true := by kernel_rfl
theorem code37_ok : bodyOk J Tryd.f37 = true := by kernel_rfl
theorem code38_ok : bodyOk J Tryd.f38 = true := by kernel_rfl
theorem code39_ok : bodyOk J Tryd.f39 = true := by kernel_rfl
theorem code40_ok : bodyOk J Tryd.f40 = true := by kernel_rfl
theorem code41_ok : bodyOk J Tryd.f41 = true := by kernel_rfl
theorem code42_ok : bodyOk J Tryd.f42 = true := by kernel_rfl
theorem code43_ok : bodyOk J Tryd.f43 = true := by kernel_rfl
theorem code44_ok : bodyOk J Tryd.f44 = true := by kernel_rfl
theorem code45_ok : bodyOk J Tryd.f45 = true := by kernel_rfl
theorem code46_ok : bodyOk J Tryd.f46 = true := by kernel_rfl
theorem code47_ok : bodyOk J Tryd.f47 = true := by kernel_rfl
theorem code48_ok : bodyOk J Tryd.f48 = true := by kernel_rfl
theorem code49_ok : bodyOk J Tryd.f49 = true := by kernel_rfl
theorem code50_ok : bodyOk J Tryd.f50 = true := by kernel_rfl
theorem code51_ok : bodyOk J Tryd.f51 = true := by kernel_rfl
theorem code52_ok : bodyOk J Tryd.f52 = true := by kernel_rfl
theorem code53_ok : bodyOk J Tryd.f53 = true := by kernel_rfl
theorem code54_ok : bodyOk J Tryd.f54 = true := by kernel_rfl
theorem code55_ok : bodyOk J Tryd.f55 = true := by kernel_rfl
theorem code56_ok : bodyOk J Tryd.f56 = true := by kernel_rfl
theorem code57_ok : bodyOk J Tryd.f57 = true := by kernel_rfl
theorem code58_ok : bodyOk J Tryd.f58 = true := by kernel_rfl
theorem code59_ok : bodyOk J Tryd.f59 = true := by kernel_rfl
theorem code60_ok : bodyOk J Tryd.f60 = true := by kernel_rfl
theorem code61_ok : bodyOk J Tryd.f61 = true := by kernel_rfl
theorem code63_ok : bodyOk J Tryd.f63 = true := by kernel_rfl
theorem code64_ok : bodyOk J Tryd.f64 = true := by kernel_rfl
theorem code65_ok : bodyOk J Tryd.f65 = true := by kernel_rfl
theorem code66_ok : bodyOk J Tryd.f66 = true := by kernel_rfl
theorem code67_ok : bodyOk J Tryd.f67 = true := by kernel_rfl
theorem code68_ok : bodyOk J Tryd.f68 = true := by kernel_rfl
theorem code69_ok : bodyOk J Tryd.f69 = true := by kernel_rfl
theorem code70_ok : bodyOk J Tryd.f70 = true := by kernel_rfl
theorem code71_ok : bodyOk J Tryd.f71 = true := by kernel_rfl
theorem code72_ok : bodyOk J Tryd.f72 = true := by kernel_rfl
theorem code73_ok : bodyOk J Tryd.f73 = true := by kernel_rfl
theorem code75_ok : bodyOk J Tryd.f75 = true := by kernel_rfl
theorem code76_ok : bodyOk J Tryd.f76 = true := by kernel_rfl
theorem code77_ok : bodyOk J Tryd.f77 = true := by kernel_rfl
theorem code78_ok : bodyOk J Tryd.f78 = true := by kernel_rfl
theorem code79_ok : bodyOk J Tryd.f79 = true := by kernel_rfl
theorem code80_ok : bodyOk J Tryd.f80 = true := by kernel_rfl
theorem code81_ok : bodyOk J Tryd.f81 = true := by kernel_rfl
theorem code82_ok : bodyOk J Tryd.f82 = true := by kernel_rfl
theorem code83_ok : bodyOk J Tryd.f83 = true := by kernel_rfl
theorem code84_ok : bodyOk J Tryd.f84 = true := by kernel_rfl
theorem code85_ok : bodyOk J Tryd.f85 = true := by kernel_rfl
theorem code86_ok : bodyOk J Tryd.f86 = true := by kernel_rfl
theorem code87_ok : bodyOk J Tryd.f87 = true := by kernel_rfl
theorem code88_ok : bodyOk J Tryd.f88 = true := by kernel_rfl
theorem code89_ok : bodyOk J Tryd.f89 = true := by kernel_rfl
theorem codeT_ok : ∀ f x, fnT.get f = some x → bodyOk J x = true := Tr.allAt (p := fun _ x => bodyOk J x = true) fnT id (show Tr.AllAt _ _ fnT from ⟨trivial, ⟨trivial, ⟨code3_ok, ⟨code7_ok, ⟨code15_ok, ⟨code31_ok, ⟨code63_ok, trivial, trivial⟩, trivial⟩, ⟨code47_ok, ⟨code79_ok, trivial, trivial⟩, trivial⟩⟩, ⟨code23_ok, ⟨code39_ok, ⟨code71_ok, trivial, trivial⟩, trivial⟩, ⟨code55_ok, ⟨code87_ok, trivial, trivial⟩, trivial⟩⟩⟩, ⟨code11_ok, ⟨code19_ok, ⟨code35_ok, ⟨code67_ok, trivial, trivial⟩, trivial⟩, ⟨code51_ok, ⟨code83_ok, trivial, trivial⟩, trivial⟩⟩, ⟨code27_ok, ⟨code43_ok, ⟨code75_ok, trivial, trivial⟩, trivial⟩, ⟨code59_ok, trivial, trivial⟩⟩⟩⟩, ⟨code5_ok, ⟨code9_ok, ⟨code17_ok, ⟨code33_ok, ⟨code65_ok, trivial, trivial⟩, trivial⟩, ⟨code49_ok, ⟨code81_ok, trivial, trivial⟩, trivial⟩⟩, ⟨code25_ok, ⟨code41_ok, ⟨code73_ok, trivial, trivial⟩, trivial⟩, ⟨code57_ok, ⟨code89_ok, trivial, trivial⟩, trivial⟩⟩⟩, ⟨code13_ok, ⟨code21_ok, ⟨code37_ok, ⟨code69_ok, trivial, trivial⟩, trivial⟩, ⟨code53_ok, ⟨code85_ok, trivial, trivial⟩, trivial⟩⟩, ⟨code29_ok, ⟨code45_ok, ⟨code77_ok, trivial, trivial⟩, trivial⟩, ⟨code61_ok, trivial, trivial⟩⟩⟩⟩⟩, ⟨trivial, ⟨code4_ok, ⟨code8_ok, ⟨code16_ok, ⟨code32_ok, ⟨code64_ok, trivial, trivial⟩, trivial⟩, ⟨code48_ok, ⟨code80_ok, trivial, trivial⟩, trivial⟩⟩, ⟨code24_ok, ⟨code40_ok, ⟨code72_ok, trivial, trivial⟩, trivial⟩, ⟨code56_ok, ⟨code88_ok, trivial, trivial⟩, trivial⟩⟩⟩, ⟨code12_ok, ⟨code20_ok, ⟨code36_ok, ⟨code68_ok, trivial, trivial⟩, trivial⟩, ⟨code52_ok, ⟨code84_ok, trivial, trivial⟩, trivial⟩⟩, ⟨code28_ok, ⟨code44_ok, ⟨code76_ok, trivial, trivial⟩, trivial⟩, ⟨code60_ok, trivial, trivial⟩⟩⟩⟩, ⟨code6_ok, ⟨code10_ok, ⟨code18_ok, ⟨code34_ok, ⟨code66_ok, trivial, trivial⟩, trivial⟩, ⟨code50_ok, ⟨code82_ok, trivial, trivial⟩, trivial⟩⟩, ⟨code26_ok, ⟨code42_ok, trivial, trivial⟩, ⟨code58_ok, trivial, trivial⟩⟩⟩, ⟨code14_ok, ⟨code22_ok, ⟨code38_ok, ⟨code70_ok, trivial, trivial⟩, trivial⟩, ⟨code54_ok, ⟨code86_ok, trivial, trivial⟩, trivial⟩⟩, ⟨trivial, ⟨code46_ok, ⟨code78_ok, trivial, trivial⟩, trivial⟩, trivial⟩⟩⟩⟩⟩)
theorem mixed : J.P.follows .mixedOrders = true := by kernel_rfl
abbrev okAll : FuncId → Bool := fun _ => true
theorem sound (B : Nat) (k : Nat) : CallSound J B (icall J okAll k) := icall_sound mixed (fun f fn c _ hf hc => by have := codeT_ok f fn hf; unfold bodyOk at this; rw [hc] at this; exact this) k
end Go.Proofs.YtjbcjcibnjbpcaaDoor.Idl
namespace Go.Proofs.YtjbcjcibnjbpcaaDoor.Idl
open Go
set_option maxRecDepth 100000
@[simp] theorem und0 : J.und 0 = some (TypeDesc.tuple #[]) := id rfl
@[simp] theorem size0 : J.size 0 = some 1 := id rfl
@[simp] theorem bytes0 : J.bytes 0 = some 0 := id rfl
@[simp] theorem zero0 : J.zero 0 = some ((Value.tuple #[])) := id rfl
@[simp] theorem agg0 : isAggT J 0 = some false := id rfl
@[simp] theorem und1 : J.und 1 = some (TypeDesc.func #[] #[] false) := id rfl
@[simp] theorem size1 : J.size 1 = some 1 := id rfl
@[simp] theorem bytes1 : J.bytes 1 = some 8 := id rfl
@[simp] theorem zero1 : J.zero 1 = some Value.nilFunc := id rfl
@[simp] theorem agg1 : isAggT J 1 = some false := id rfl
@[simp] theorem und2 : J.und 2 = some (TypeDesc.int IntKind.i64) := id rfl
@[simp] theorem size2 : J.size 2 = some 1 := id rfl
@[simp] theorem bytes2 : J.bytes 2 = some 8 := id rfl
@[simp] theorem zero2 : J.zero 2 = some ((Value.int IntKind.i64 0)) := id rfl
@[simp] theorem agg2 : isAggT J 2 = some false := id rfl
@[simp] theorem und3 : J.und 3 = some (TypeDesc.int IntKind.i64) := id rfl
@[simp] theorem size3 : J.size 3 = some 1 := id rfl
@[simp] theorem bytes3 : J.bytes 3 = some 8 := id rfl
@[simp] theorem zero3 : J.zero 3 = some ((Value.int IntKind.i64 0)) := id rfl
@[simp] theorem agg3 : isAggT J 3 = some false := id rfl
@[simp] theorem und4 : J.und 4 = some TypeDesc.bool := id rfl
@[simp] theorem size4 : J.size 4 = some 1 := id rfl
@[simp] theorem bytes4 : J.bytes 4 = some 1 := id rfl
@[simp] theorem zero4 : J.zero 4 = some ((Value.bool false)) := id rfl
@[simp] theorem agg4 : isAggT J 4 = some false := id rfl
@[simp] theorem und5 : J.und 5 = some (TypeDesc.int IntKind.u8) := id rfl
@[simp] theorem size5 : J.size 5 = some 1 := id rfl
@[simp] theorem bytes5 : J.bytes 5 = some 1 := id rfl
@[simp] theorem zero5 : J.zero 5 = some ((Value.int IntKind.u8 0)) := id rfl
@[simp] theorem agg5 : isAggT J 5 = some false := id rfl
@[simp] theorem und6 : J.und 6 = some (TypeDesc.int IntKind.u8) := id rfl
@[simp] theorem size6 : J.size 6 = some 1 := id rfl
@[simp] theorem bytes6 : J.bytes 6 = some 1 := id rfl
@[simp] theorem zero6 : J.zero 6 = some ((Value.int IntKind.u8 0)) := id rfl
@[simp] theorem agg6 : isAggT J 6 = some false := id rfl
@[simp] theorem size7 : J.size 7 = some 4 := id rfl
@[simp] theorem bytes7 : J.bytes 7 = some 24 := id rfl
@[simp] theorem zero7 : J.zero 7 = some ((Value.agg #[Value.int IntKind.i64 0, Value.int IntKind.i64 0, Value.bool false, Value.int IntKind.u8 0])) := id rfl
@[simp] theorem agg7 : isAggT J 7 = some true := id rfl
@[simp] theorem fa7_0 (a : Addr) : ifieldAddr J 7 (.pointer (some a)) 0 = some (.pointer (some (a.add 0))) := id rfl
@[simp] theorem fa7_1 (a : Addr) : ifieldAddr J 7 (.pointer (some a)) 1 = some (.pointer (some (a.add 1))) := id rfl
@[simp] theorem fa7_2 (a : Addr) : ifieldAddr J 7 (.pointer (some a)) 2 = some (.pointer (some (a.add 2))) := id rfl
@[simp] theorem fa7_3 (a : Addr) : ifieldAddr J 7 (.pointer (some a)) 3 = some (.pointer (some (a.add 3))) := id rfl
@[simp] theorem size8 : J.size 8 = some 4 := id rfl
@[simp] theorem bytes8 : J.bytes 8 = some 24 := id rfl
@[simp] theorem zero8 : J.zero 8 = some ((Value.agg #[Value.int IntKind.i64 0, Value.int IntKind.i64 0, Value.bool false, Value.int IntKind.u8 0])) := id rfl
@[simp] theorem agg8 : isAggT J 8 = some true := id rfl
@[simp] theorem fa8_0 (a : Addr) : ifieldAddr J 8 (.pointer (some a)) 0 = some (.pointer (some (a.add 0))) := id rfl
@[simp] theorem fa8_1 (a : Addr) : ifieldAddr J 8 (.pointer (some a)) 1 = some (.pointer (some (a.add 1))) := id rfl
@[simp] theorem fa8_2 (a : Addr) : ifieldAddr J 8 (.pointer (some a)) 2 = some (.pointer (some (a.add 2))) := id rfl
@[simp] theorem fa8_3 (a : Addr) : ifieldAddr J 8 (.pointer (some a)) 3 = some (.pointer (some (a.add 3))) := id rfl
@[simp] theorem und9 : J.und 9 = some TypeDesc.string := id rfl
@[simp] theorem size9 : J.size 9 = some 1 := id rfl
@[simp] theorem bytes9 : J.bytes 9 = some 16 := id rfl
@[simp] theorem zero9 : J.zero 9 = some ((Value.string { data := #[] })) := id rfl
@[simp] theorem agg9 : isAggT J 9 = some false := id rfl
@[simp] theorem und10 : J.und 10 = some TypeDesc.string := id rfl
@[simp] theorem size10 : J.size 10 = some 1 := id rfl
@[simp] theorem bytes10 : J.bytes 10 = some 16 := id rfl
@[simp] theorem zero10 : J.zero 10 = some ((Value.string { data := #[] })) := id rfl
@[simp] theorem agg10 : isAggT J 10 = some false := id rfl
@[simp] theorem und11 : J.und 11 = some TypeDesc.string := id rfl
@[simp] theorem size11 : J.size 11 = some 1 := id rfl
@[simp] theorem bytes11 : J.bytes 11 = some 16 := id rfl
@[simp] theorem zero11 : J.zero 11 = some ((Value.string { data := #[] })) := id rfl
@[simp] theorem agg11 : isAggT J 11 = some false := id rfl
@[simp] theorem und12 : J.und 12 = some (TypeDesc.int IntKind.u64) := id rfl
@[simp] theorem size12 : J.size 12 = some 1 := id rfl
@[simp] theorem bytes12 : J.bytes 12 = some 8 := id rfl
@[simp] theorem zero12 : J.zero 12 = some ((Value.int IntKind.u64 0)) := id rfl
@[simp] theorem agg12 : isAggT J 12 = some false := id rfl
@[simp] theorem size13 : J.size 13 = some 2 := id rfl
@[simp] theorem bytes13 : J.bytes 13 = some 24 := id rfl
@[simp] theorem zero13 : J.zero 13 = some ((Value.agg #[Value.string { data := #[] }, Value.int IntKind.u64 0])) := id rfl
@[simp] theorem agg13 : isAggT J 13 = some true := id rfl
@[simp] theorem fa13_0 (a : Addr) : ifieldAddr J 13 (.pointer (some a)) 0 = some (.pointer (some (a.add 0))) := id rfl
@[simp] theorem fa13_1 (a : Addr) : ifieldAddr J 13 (.pointer (some a)) 1 = some (.pointer (some (a.add 1))) := id rfl
@[simp] theorem size14 : J.size 14 = some 2 := id rfl
@[simp] theorem bytes14 : J.bytes 14 = some 24 := id rfl
@[simp] theorem zero14 : J.zero 14 = some ((Value.agg #[Value.string { data := #[] }, Value.int IntKind.u64 0])) := id rfl
@[simp] theorem agg14 : isAggT J 14 = some true := id rfl
@[simp] theorem fa14_0 (a : Addr) : ifieldAddr J 14 (.pointer (some a)) 0 = some (.pointer (some (a.add 0))) := id rfl
@[simp] theorem fa14_1 (a : Addr) : ifieldAddr J 14 (.pointer (some a)) 1 = some (.pointer (some (a.add 1))) := id rfl
@[simp] theorem und15 : J.und 15 = some (TypeDesc.pointer 135) := id rfl
@[simp] theorem size15 : J.size 15 = some 1 := id rfl
@[simp] theorem bytes15 : J.bytes 15 = some 8 := id rfl
@[simp] theorem zero15 : J.zero 15 = some ((Value.pointer none)) := id rfl
@[simp] theorem agg15 : isAggT J 15 = some false := id rfl
@[simp] theorem und16 : J.und 16 = some (TypeDesc.pointer 138) := id rfl
@[simp] theorem size16 : J.size 16 = some 1 := id rfl
@[simp] theorem bytes16 : J.bytes 16 = some 8 := id rfl
@[simp] theorem zero16 : J.zero 16 = some ((Value.pointer none)) := id rfl
@[simp] theorem agg16 : isAggT J 16 = some false := id rfl
@[simp] theorem und17 : J.und 17 = some (TypeDesc.pointer 145) := id rfl
@[simp] theorem size17 : J.size 17 = some 1 := id rfl
@[simp] theorem bytes17 : J.bytes 17 = some 8 := id rfl
@[simp] theorem zero17 : J.zero 17 = some ((Value.pointer none)) := id rfl
@[simp] theorem agg17 : isAggT J 17 = some false := id rfl
@[simp] theorem size18 : J.size 18 = some 1 := id rfl
@[simp] theorem bytes18 : J.bytes 18 = some 8 := id rfl
@[simp] theorem zero18 : J.zero 18 = some ((Value.agg #[Value.pointer none])) := id rfl
@[simp] theorem agg18 : isAggT J 18 = some true := id rfl
@[simp] theorem fa18_0 (a : Addr) : ifieldAddr J 18 (.pointer (some a)) 0 = some (.pointer (some (a.add 0))) := id rfl
@[simp] theorem size19 : J.size 19 = some 1 := id rfl
@[simp] theorem bytes19 : J.bytes 19 = some 8 := id rfl
@[simp] theorem zero19 : J.zero 19 = some ((Value.agg #[Value.pointer none])) := id rfl
@[simp] theorem agg19 : isAggT J 19 = some true := id rfl
@[simp] theorem fa19_0 (a : Addr) : ifieldAddr J 19 (.pointer (some a)) 0 = some (.pointer (some (a.add 0))) := id rfl
@[simp] theorem und20 : J.und 20 = some (TypeDesc.interface #[]) := id rfl
@[simp] theorem size20 : J.size 20 = some 1 := id rfl
@[simp] theorem bytes20 : J.bytes 20 = some 16 := id rfl
@[simp] theorem zero20 : J.zero 20 = some Value.nilIface := id rfl
@[simp] theorem agg20 : isAggT J 20 = some false := id rfl
@[simp] theorem und21 : J.und 21 = some (TypeDesc.int IntKind.i32) := id rfl
@[simp] theorem size21 : J.size 21 = some 1 := id rfl
@[simp] theorem bytes21 : J.bytes 21 = some 4 := id rfl
@[simp] theorem zero21 : J.zero 21 = some ((Value.int IntKind.i32 0)) := id rfl
@[simp] theorem agg21 : isAggT J 21 = some false := id rfl
@[simp] theorem und22 : J.und 22 = some (TypeDesc.func #[9] #[9] false) := id rfl
@[simp] theorem size22 : J.size 22 = some 1 := id rfl
@[simp] theorem bytes22 : J.bytes 22 = some 8 := id rfl
@[simp] theorem zero22 : J.zero 22 = some Value.nilFunc := id rfl
@[simp] theorem agg22 : isAggT J 22 = some false := id rfl
@[simp] theorem und23 : J.und 23 = some (TypeDesc.slice 31) := id rfl
@[simp] theorem size23 : J.size 23 = some 1 := id rfl
@[simp] theorem bytes23 : J.bytes 23 = some 24 := id rfl
@[simp] theorem zero23 : J.zero 23 = some ((Value.slice none 0 0)) := id rfl
@[simp] theorem agg23 : isAggT J 23 = some false := id rfl
@[simp] theorem und24 : J.und 24 = some (TypeDesc.int IntKind.i64) := id rfl
@[simp] theorem size24 : J.size 24 = some 1 := id rfl
@[simp] theorem bytes24 : J.bytes 24 = some 8 := id rfl
@[simp] theorem zero24 : J.zero 24 = some ((Value.int IntKind.i64 0)) := id rfl
@[simp] theorem agg24 : isAggT J 24 = some false := id rfl
@[simp] theorem und25 : J.und 25 = some (TypeDesc.tuple #[23, 24, 3]) := id rfl
@[simp] theorem size25 : J.size 25 = some 1 := id rfl
@[simp] theorem bytes25 : J.bytes 25 = some 0 := id rfl
@[simp] theorem zero25 : J.zero 25 = some ((Value.tuple #[Value.slice none 0 0, Value.int IntKind.i64 0, Value.int IntKind.i64 0])) := id rfl
@[simp] theorem agg25 : isAggT J 25 = some false := id rfl
@[simp] theorem und26 : J.und 26 = some (TypeDesc.func #[9] #[23, 24, 3] false) := id rfl
@[simp] theorem size26 : J.size 26 = some 1 := id rfl
@[simp] theorem bytes26 : J.bytes 26 = some 8 := id rfl
@[simp] theorem zero26 : J.zero 26 = some Value.nilFunc := id rfl
@[simp] theorem agg26 : isAggT J 26 = some false := id rfl
@[simp] theorem und27 : J.und 27 = some (TypeDesc.func #[23, 23] #[4] false) := id rfl
@[simp] theorem size27 : J.size 27 = some 1 := id rfl
@[simp] theorem bytes27 : J.bytes 27 = some 8 := id rfl
@[simp] theorem zero27 : J.zero 27 = some Value.nilFunc := id rfl
@[simp] theorem agg27 : isAggT J 27 = some false := id rfl
@[simp] theorem und28 : J.und 28 = some (TypeDesc.func #[] #[4] false) := id rfl
@[simp] theorem size28 : J.size 28 = some 1 := id rfl
@[simp] theorem bytes28 : J.bytes 28 = some 8 := id rfl
@[simp] theorem zero28 : J.zero 28 = some Value.nilFunc := id rfl
@[simp] theorem agg28 : isAggT J 28 = some false := id rfl
@[simp] theorem und29 : J.und 29 = some (TypeDesc.func #[9] #[4] false) := id rfl
@[simp] theorem size29 : J.size 29 = some 1 := id rfl
@[simp] theorem bytes29 : J.bytes 29 = some 8 := id rfl
@[simp] theorem zero29 : J.zero 29 = some Value.nilFunc := id rfl
@[simp] theorem agg29 : isAggT J 29 = some false := id rfl
@[simp] theorem size30 : J.size 30 = some 4 := id rfl
@[simp] theorem bytes30 : J.bytes 30 = some 40 := id rfl
@[simp] theorem zero30 : J.zero 30 = some ((Value.agg #[Value.int IntKind.i64 0, Value.int IntKind.i64 0, Value.string { data := #[] }, Value.int IntKind.i64 0])) := id rfl
@[simp] theorem agg30 : isAggT J 30 = some true := id rfl
@[simp] theorem fa30_0 (a : Addr) : ifieldAddr J 30 (.pointer (some a)) 0 = some (.pointer (some (a.add 0))) := id rfl
@[simp] theorem fa30_1 (a : Addr) : ifieldAddr J 30 (.pointer (some a)) 1 = some (.pointer (some (a.add 1))) := id rfl
@[simp] theorem fa30_2 (a : Addr) : ifieldAddr J 30 (.pointer (some a)) 2 = some (.pointer (some (a.add 2))) := id rfl
@[simp] theorem fa30_3 (a : Addr) : ifieldAddr J 30 (.pointer (some a)) 3 = some (.pointer (some (a.add 3))) := id rfl
@[simp] theorem size31 : J.size 31 = some 4 := id rfl
@[simp] theorem bytes31 : J.bytes 31 = some 40 := id rfl
@[simp] theorem zero31 : J.zero 31 = some ((Value.agg #[Value.int IntKind.i64 0, Value.int IntKind.i64 0, Value.string { data := #[] }, Value.int IntKind.i64 0])) := id rfl
@[simp] theorem agg31 : isAggT J 31 = some true := id rfl
@[simp] theorem fa31_0 (a : Addr) : ifieldAddr J 31 (.pointer (some a)) 0 = some (.pointer (some (a.add 0))) := id rfl
@[simp] theorem fa31_1 (a : Addr) : ifieldAddr J 31 (.pointer (some a)) 1 = some (.pointer (some (a.add 1))) := id rfl
@[simp] theorem fa31_2 (a : Addr) : ifieldAddr J 31 (.pointer (some a)) 2 = some (.pointer (some (a.add 2))) := id rfl
@[simp] theorem fa31_3 (a : Addr) : ifieldAddr J 31 (.pointer (some a)) 3 = some (.pointer (some (a.add 3))) := id rfl
@[simp] theorem und32 : J.und 32 = some (TypeDesc.func #[23] #[9] false) := id rfl
@[simp] theorem size32 : J.size 32 = some 1 := id rfl
@[simp] theorem bytes32 : J.bytes 32 = some 8 := id rfl
@[simp] theorem zero32 : J.zero 32 = some Value.nilFunc := id rfl
@[simp] theorem agg32 : isAggT J 32 = some false := id rfl
@[simp] theorem und33 : J.und 33 = some (TypeDesc.func #[23] #[4] false) := id rfl
@[simp] theorem size33 : J.size 33 = some 1 := id rfl
@[simp] theorem bytes33 : J.bytes 33 = some 8 := id rfl
@[simp] theorem zero33 : J.zero 33 = some Value.nilFunc := id rfl
@[simp] theorem agg33 : isAggT J 33 = some false := id rfl
@[simp] theorem und34 : J.und 34 = some (TypeDesc.func #[23] #[23] false) := id rfl
@[simp] theorem size34 : J.size 34 = some 1 := id rfl
@[simp] theorem bytes34 : J.bytes 34 = some 8 := id rfl
@[simp] theorem zero34 : J.zero 34 = some Value.nilFunc := id rfl
@[simp] theorem agg34 : isAggT J 34 = some false := id rfl
@[simp] theorem und35 : J.und 35 = some (TypeDesc.tuple #[31, 3]) := id rfl
@[simp] theorem size35 : J.size 35 = some 1 := id rfl
@[simp] theorem bytes35 : J.bytes 35 = some 0 := id rfl
@[simp] theorem zero35 : J.zero 35 = some ((Value.tuple #[Value.agg #[Value.int IntKind.i64 0, Value.int IntKind.i64 0, Value.string { data := #[] }, Value.int IntKind.i64 0], Value.int IntKind.i64 0])) := id rfl
@[simp] theorem agg35 : isAggT J 35 = some false := id rfl
@[simp] theorem und36 : J.und 36 = some (TypeDesc.func #[9] #[31, 3] false) := id rfl
@[simp] theorem size36 : J.size 36 = some 1 := id rfl
@[simp] theorem bytes36 : J.bytes 36 = some 8 := id rfl
@[simp] theorem zero36 : J.zero 36 = some Value.nilFunc := id rfl
@[simp] theorem agg36 : isAggT J 36 = some false := id rfl
@[simp] theorem und37 : J.und 37 = some (TypeDesc.func #[9, 9] #[4] false) := id rfl
@[simp] theorem size37 : J.size 37 = some 1 := id rfl
@[simp] theorem bytes37 : J.bytes 37 = some 8 := id rfl
@[simp] theorem zero37 : J.zero 37 = some Value.nilFunc := id rfl
@[simp] theorem agg37 : isAggT J 37 = some false := id rfl
@[simp] theorem und38 : J.und 38 = some (TypeDesc.func #[2, 3] #[4] false) := id rfl
@[simp] theorem size38 : J.size 38 = some 1 := id rfl
@[simp] theorem bytes38 : J.bytes 38 = some 8 := id rfl
@[simp] theorem zero38 : J.zero 38 = some Value.nilFunc := id rfl
@[simp] theorem agg38 : isAggT J 38 = some false := id rfl
@[simp] theorem und39 : J.und 39 = some (TypeDesc.func #[3, 3] #[4] false) := id rfl
@[simp] theorem size39 : J.size 39 = some 1 := id rfl
@[simp] theorem bytes39 : J.bytes 39 = some 8 := id rfl
@[simp] theorem zero39 : J.zero 39 = some Value.nilFunc := id rfl
@[simp] theorem agg39 : isAggT J 39 = some false := id rfl
@[simp] theorem und40 : J.und 40 = some (TypeDesc.slice 5) := id rfl
@[simp] theorem size40 : J.size 40 = some 1 := id rfl
@[simp] theorem bytes40 : J.bytes 40 = some 24 := id rfl
@[simp] theorem zero40 : J.zero 40 = some ((Value.slice none 0 0)) := id rfl
@[simp] theorem agg40 : isAggT J 40 = some false := id rfl
@[simp] theorem und41 : J.und 41 = some (TypeDesc.func #[3, 4] #[4] false) := id rfl
@[simp] theorem size41 : J.size 41 = some 1 := id rfl
@[simp] theorem bytes41 : J.bytes 41 = some 8 := id rfl
@[simp] theorem zero41 : J.zero 41 = some Value.nilFunc := id rfl
@[simp] theorem agg41 : isAggT J 41 = some false := id rfl
@[simp] theorem und42 : J.und 42 = some (TypeDesc.pointer 46) := id rfl
@[simp] theorem size42 : J.size 42 = some 1 := id rfl
@[simp] theorem bytes42 : J.bytes 42 = some 8 := id rfl
@[simp] theorem zero42 : J.zero 42 = some ((Value.pointer none)) := id rfl
@[simp] theorem agg42 : isAggT J 42 = some false := id rfl
@[simp] theorem und43 : J.und 43 = some (TypeDesc.map 9 3) := id rfl
@[simp] theorem size43 : J.size 43 = some 1 := id rfl
@[simp] theorem bytes43 : J.bytes 43 = some 8 := id rfl
@[simp] theorem zero43 : J.zero 43 = some ((Value.map none)) := id rfl
@[simp] theorem agg43 : isAggT J 43 = some false := id rfl
@[simp] theorem und44 : J.und 44 = some (TypeDesc.func #[] #[43] false) := id rfl
@[simp] theorem size44 : J.size 44 = some 1 := id rfl
@[simp] theorem bytes44 : J.bytes 44 = some 8 := id rfl
@[simp] theorem zero44 : J.zero 44 = some Value.nilFunc := id rfl
@[simp] theorem agg44 : isAggT J 44 = some false := id rfl
@[simp] theorem size45 : J.size 45 = some 3 := id rfl
@[simp] theorem bytes45 : J.bytes 45 = some 32 := id rfl
@[simp] theorem zero45 : J.zero 45 = some ((Value.agg #[Value.string { data := #[] }, Value.int IntKind.i64 0, Value.map none])) := id rfl
@[simp] theorem agg45 : isAggT J 45 = some true := id rfl
@[simp] theorem fa45_0 (a : Addr) : ifieldAddr J 45 (.pointer (some a)) 0 = some (.pointer (some (a.add 0))) := id rfl
@[simp] theorem fa45_1 (a : Addr) : ifieldAddr J 45 (.pointer (some a)) 1 = some (.pointer (some (a.add 1))) := id rfl
@[simp] theorem fa45_2 (a : Addr) : ifieldAddr J 45 (.pointer (some a)) 2 = some (.pointer (some (a.add 2))) := id rfl
@[simp] theorem size46 : J.size 46 = some 3 := id rfl
@[simp] theorem bytes46 : J.bytes 46 = some 32 := id rfl
@[simp] theorem zero46 : J.zero 46 = some ((Value.agg #[Value.string { data := #[] }, Value.int IntKind.i64 0, Value.map none])) := id rfl
@[simp] theorem agg46 : isAggT J 46 = some true := id rfl
@[simp] theorem fa46_0 (a : Addr) : ifieldAddr J 46 (.pointer (some a)) 0 = some (.pointer (some (a.add 0))) := id rfl
@[simp] theorem fa46_1 (a : Addr) : ifieldAddr J 46 (.pointer (some a)) 1 = some (.pointer (some (a.add 1))) := id rfl
@[simp] theorem fa46_2 (a : Addr) : ifieldAddr J 46 (.pointer (some a)) 2 = some (.pointer (some (a.add 2))) := id rfl
@[simp] theorem und47 : J.und 47 = some (TypeDesc.func #[] #[31, 3, 4] false) := id rfl
@[simp] theorem size47 : J.size 47 = some 1 := id rfl
@[simp] theorem bytes47 : J.bytes 47 = some 8 := id rfl
@[simp] theorem zero47 : J.zero 47 = some Value.nilFunc := id rfl
@[simp] theorem agg47 : isAggT J 47 = some false := id rfl
@[simp] theorem und48 : J.und 48 = some (TypeDesc.func #[] #[3] false) := id rfl
@[simp] theorem size48 : J.size 48 = some 1 := id rfl
@[simp] theorem bytes48 : J.bytes 48 = some 8 := id rfl
@[simp] theorem zero48 : J.zero 48 = some Value.nilFunc := id rfl
@[simp] theorem agg48 : isAggT J 48 = some false := id rfl
@[simp] theorem und49 : J.und 49 = some (TypeDesc.tuple #[31, 3, 4]) := id rfl
@[simp] theorem size49 : J.size 49 = some 1 := id rfl
@[simp] theorem bytes49 : J.bytes 49 = some 0 := id rfl
@[simp] theorem zero49 : J.zero 49 = some ((Value.tuple #[Value.agg #[Value.int IntKind.i64 0, Value.int IntKind.i64 0, Value.string { data := #[] }, Value.int IntKind.i64 0], Value.int IntKind.i64 0, Value.bool false])) := id rfl
@[simp] theorem agg49 : isAggT J 49 = some false := id rfl
@[simp] theorem und50 : J.und 50 = some (TypeDesc.func #[9] #[3] false) := id rfl
@[simp] theorem size50 : J.size 50 = some 1 := id rfl
@[simp] theorem bytes50 : J.bytes 50 = some 8 := id rfl
@[simp] theorem zero50 : J.zero 50 = some Value.nilFunc := id rfl
@[simp] theorem agg50 : isAggT J 50 = some false := id rfl
@[simp] theorem und51 : J.und 51 = some (TypeDesc.pointer 53) := id rfl
@[simp] theorem size51 : J.size 51 = some 1 := id rfl
@[simp] theorem bytes51 : J.bytes 51 = some 8 := id rfl
@[simp] theorem zero51 : J.zero 51 = some ((Value.pointer none)) := id rfl
@[simp] theorem agg51 : isAggT J 51 = some false := id rfl
@[simp] theorem size52 : J.size 52 = some 2 := id rfl
@[simp] theorem bytes52 : J.bytes 52 = some 32 := id rfl
@[simp] theorem zero52 : J.zero 52 = some ((Value.agg #[Value.pointer none, Value.slice none 0 0])) := id rfl
@[simp] theorem agg52 : isAggT J 52 = some true := id rfl
@[simp] theorem fa52_0 (a : Addr) : ifieldAddr J 52 (.pointer (some a)) 0 = some (.pointer (some (a.add 0))) := id rfl
@[simp] theorem fa52_1 (a : Addr) : ifieldAddr J 52 (.pointer (some a)) 1 = some (.pointer (some (a.add 1))) := id rfl
@[simp] theorem size53 : J.size 53 = some 2 := id rfl
@[simp] theorem bytes53 : J.bytes 53 = some 32 := id rfl
@[simp] theorem zero53 : J.zero 53 = some ((Value.agg #[Value.pointer none, Value.slice none 0 0])) := id rfl
@[simp] theorem agg53 : isAggT J 53 = some true := id rfl
@[simp] theorem fa53_0 (a : Addr) : ifieldAddr J 53 (.pointer (some a)) 0 = some (.pointer (some (a.add 0))) := id rfl
@[simp] theorem fa53_1 (a : Addr) : ifieldAddr J 53 (.pointer (some a)) 1 = some (.pointer (some (a.add 1))) := id rfl
@[simp] theorem und54 : J.und 54 = some (TypeDesc.interface #[("Error", 60)]) := id rfl
@[simp] theorem size54 : J.size 54 = some 1 := id rfl
@[simp] theorem bytes54 : J.bytes 54 = some 16 := id rfl
@[simp] theorem zero54 : J.zero 54 = some Value.nilIface := id rfl
@[simp] theorem agg54 : isAggT J 54 = some false := id rfl
@[simp] theorem und55 : J.und 55 = some (TypeDesc.interface #[("Error", 60)]) := id rfl
@[simp] theorem size55 : J.size 55 = some 1 := id rfl
@[simp] theorem bytes55 : J.bytes 55 = some 16 := id rfl
@[simp] theorem zero55 : J.zero 55 = some Value.nilIface := id rfl
@[simp] theorem agg55 : isAggT J 55 = some false := id rfl
@[simp] theorem und56 : J.und 56 = some (TypeDesc.func #[5] #[55] false) := id rfl
@[simp] theorem size56 : J.size 56 = some 1 := id rfl
@[simp] theorem bytes56 : J.bytes 56 = some 8 := id rfl
@[simp] theorem zero56 : J.zero 56 = some Value.nilFunc := id rfl
@[simp] theorem agg56 : isAggT J 56 = some false := id rfl
@[simp] theorem und57 : J.und 57 = some (TypeDesc.tuple #[3, 55]) := id rfl
@[simp] theorem size57 : J.size 57 = some 1 := id rfl
@[simp] theorem bytes57 : J.bytes 57 = some 0 := id rfl
@[simp] theorem zero57 : J.zero 57 = some ((Value.tuple #[Value.int IntKind.i64 0, Value.nilIface])) := id rfl
@[simp] theorem agg57 : isAggT J 57 = some false := id rfl
@[simp] theorem und58 : J.und 58 = some (TypeDesc.func #[9] #[3, 55] false) := id rfl
@[simp] theorem size58 : J.size 58 = some 1 := id rfl
@[simp] theorem bytes58 : J.bytes 58 = some 8 := id rfl
@[simp] theorem zero58 : J.zero 58 = some Value.nilFunc := id rfl
@[simp] theorem agg58 : isAggT J 58 = some false := id rfl
@[simp] theorem und59 : J.und 59 = some (TypeDesc.func #[2, 3] #[9] false) := id rfl
@[simp] theorem size59 : J.size 59 = some 1 := id rfl
@[simp] theorem bytes59 : J.bytes 59 = some 8 := id rfl
@[simp] theorem zero59 : J.zero 59 = some Value.nilFunc := id rfl
@[simp] theorem agg59 : isAggT J 59 = some false := id rfl
@[simp] theorem und60 : J.und 60 = some (TypeDesc.func #[] #[9] false) := id rfl
@[simp] theorem size60 : J.size 60 = some 1 := id rfl
@[simp] theorem bytes60 : J.bytes 60 = some 8 := id rfl
@[simp] theorem zero60 : J.zero 60 = some Value.nilFunc := id rfl
@[simp] theorem agg60 : isAggT J 60 = some false := id rfl
@[simp] theorem und61 : J.und 61 = some (TypeDesc.func #[2] #[9] false) := id rfl
@[simp] theorem size61 : J.size 61 = some 1 := id rfl
@[simp] theorem bytes61 : J.bytes 61 = some 8 := id rfl
@[simp] theorem zero61 : J.zero 61 = some Value.nilFunc := id rfl
@[simp] theorem agg61 : isAggT J 61 = some false := id rfl
@[simp] theorem und62 : J.und 62 = some (TypeDesc.func #[5] #[4] false) := id rfl
@[simp] theorem size62 : J.size 62 = some 1 := id rfl
@[simp] theorem bytes62 : J.bytes 62 = some 8 := id rfl
@[simp] theorem zero62 : J.zero 62 = some Value.nilFunc := id rfl
@[simp] theorem agg62 : isAggT J 62 = some false := id rfl
@[simp] theorem und63 : J.und 63 = some (TypeDesc.func #[9] #[2] false) := id rfl
@[simp] theorem size63 : J.size 63 = some 1 := id rfl
@[simp] theorem bytes63 : J.bytes 63 = some 8 := id rfl
@[simp] theorem zero63 : J.zero 63 = some Value.nilFunc := id rfl
@[simp] theorem agg63 : isAggT J 63 = some false := id rfl
@[simp] theorem und64 : J.und 64 = some (TypeDesc.tuple #[9, 3, 4]) := id rfl
@[simp] theorem size64 : J.size 64 = some 1 := id rfl
@[simp] theorem bytes64 : J.bytes 64 = some 0 := id rfl
@[simp] theorem zero64 : J.zero 64 = some ((Value.tuple #[Value.string { data := #[] }, Value.int IntKind.i64 0, Value.bool false])) := id rfl
@[simp] theorem agg64 : isAggT J 64 = some false := id rfl
@[simp] theorem und65 : J.und 65 = some (TypeDesc.func #[9] #[9, 3, 4] false) := id rfl
@[simp] theorem size65 : J.size 65 = some 1 := id rfl
@[simp] theorem bytes65 : J.bytes 65 = some 8 := id rfl
@[simp] theorem zero65 : J.zero 65 = some Value.nilFunc := id rfl
@[simp] theorem agg65 : isAggT J 65 = some false := id rfl
@[simp] theorem und66 : J.und 66 = some (TypeDesc.func #[9, 67] #[4] false) := id rfl
@[simp] theorem size66 : J.size 66 = some 1 := id rfl
@[simp] theorem bytes66 : J.bytes 66 = some 8 := id rfl
@[simp] theorem zero66 : J.zero 66 = some Value.nilFunc := id rfl
@[simp] theorem agg66 : isAggT J 66 = some false := id rfl
@[simp] theorem und67 : J.und 67 = some (TypeDesc.slice 9) := id rfl
@[simp] theorem size67 : J.size 67 = some 1 := id rfl
@[simp] theorem bytes67 : J.bytes 67 = some 24 := id rfl
@[simp] theorem zero67 : J.zero 67 = some ((Value.slice none 0 0)) := id rfl
@[simp] theorem agg67 : isAggT J 67 = some false := id rfl
@[simp] theorem und68 : J.und 68 = some (TypeDesc.func #[] #[67] false) := id rfl
@[simp] theorem size68 : J.size 68 = some 1 := id rfl
@[simp] theorem bytes68 : J.bytes 68 = some 8 := id rfl
@[simp] theorem zero68 : J.zero 68 = some Value.nilFunc := id rfl
@[simp] theorem agg68 : isAggT J 68 = some false := id rfl
@[simp] theorem und69 : J.und 69 = some (TypeDesc.func #[9] #[67] false) := id rfl
@[simp] theorem size69 : J.size 69 = some 1 := id rfl
@[simp] theorem bytes69 : J.bytes 69 = some 8 := id rfl
@[simp] theorem zero69 : J.zero 69 = some Value.nilFunc := id rfl
@[simp] theorem agg69 : isAggT J 69 = some false := id rfl
@[simp] theorem und70 : J.und 70 = some (TypeDesc.func #[3, 62] #[3] false) := id rfl
@[simp] theorem size70 : J.size 70 = some 1 := id rfl
@[simp] theorem bytes70 : J.bytes 70 = some 8 := id rfl
@[simp] theorem zero70 : J.zero 70 = some Value.nilFunc := id rfl
@[simp] theorem agg70 : isAggT J 70 = some false := id rfl
@[simp] theorem und71 : J.und 71 = some (TypeDesc.tuple #[2, 55]) := id rfl
@[simp] theorem size71 : J.size 71 = some 1 := id rfl
@[simp] theorem bytes71 : J.bytes 71 = some 0 := id rfl
@[simp] theorem zero71 : J.zero 71 = some ((Value.tuple #[Value.int IntKind.i64 0, Value.nilIface])) := id rfl
@[simp] theorem agg71 : isAggT J 71 = some false := id rfl
@[simp] theorem und72 : J.und 72 = some (TypeDesc.func #[9, 3, 3] #[2, 55] false) := id rfl
@[simp] theorem size72 : J.size 72 = some 1 := id rfl
@[simp] theorem bytes72 : J.bytes 72 = some 8 := id rfl
@[simp] theorem zero72 : J.zero 72 = some Value.nilFunc := id rfl
@[simp] theorem agg72 : isAggT J 72 = some false := id rfl
@[simp] theorem und73 : J.und 73 = some (TypeDesc.func #[] #[9, 3, 4] false) := id rfl
@[simp] theorem size73 : J.size 73 = some 1 := id rfl
@[simp] theorem bytes73 : J.bytes 73 = some 8 := id rfl
@[simp] theorem zero73 : J.zero 73 = some Value.nilFunc := id rfl
@[simp] theorem agg73 : isAggT J 73 = some false := id rfl
@[simp] theorem und74 : J.und 74 = some (TypeDesc.func #[3, 9] #[4] false) := id rfl
@[simp] theorem size74 : J.size 74 = some 1 := id rfl
@[simp] theorem bytes74 : J.bytes 74 = some 8 := id rfl
@[simp] theorem zero74 : J.zero 74 = some Value.nilFunc := id rfl
@[simp] theorem agg74 : isAggT J 74 = some false := id rfl
@[simp] theorem und75 : J.und 75 = some (TypeDesc.func #[9, 5] #[3] false) := id rfl
@[simp] theorem size75 : J.size 75 = some 1 := id rfl
@[simp] theorem bytes75 : J.bytes 75 = some 8 := id rfl
@[simp] theorem zero75 : J.zero 75 = some Value.nilFunc := id rfl
@[simp] theorem agg75 : isAggT J 75 = some false := id rfl
@[simp] theorem und76 : J.und 76 = some (TypeDesc.pointer 5) := id rfl
@[simp] theorem size76 : J.size 76 = some 1 := id rfl
@[simp] theorem bytes76 : J.bytes 76 = some 8 := id rfl
@[simp] theorem zero76 : J.zero 76 = some ((Value.pointer none)) := id rfl
@[simp] theorem agg76 : isAggT J 76 = some false := id rfl
@[simp] theorem und77 : J.und 77 = some (TypeDesc.array 256 5) := id rfl
@[simp] theorem size77 : J.size 77 = some 256 := id rfl
@[simp] theorem bytes77 : J.bytes 77 = some 256 := id rfl
@[simp] theorem agg77 : isAggT J 77 = some true := id rfl
@[simp] theorem und78 : J.und 78 = some (TypeDesc.func #[9, 79] #[67] false) := id rfl
@[simp] theorem size78 : J.size 78 = some 1 := id rfl
@[simp] theorem bytes78 : J.bytes 78 = some 8 := id rfl
@[simp] theorem zero78 : J.zero 78 = some Value.nilFunc := id rfl
@[simp] theorem agg78 : isAggT J 78 = some false := id rfl
@[simp] theorem und79 : J.und 79 = some (TypeDesc.func #[21] #[4] false) := id rfl
@[simp] theorem size79 : J.size 79 = some 1 := id rfl
@[simp] theorem bytes79 : J.bytes 79 = some 8 := id rfl
@[simp] theorem zero79 : J.zero 79 = some Value.nilFunc := id rfl
@[simp] theorem agg79 : isAggT J 79 = some false := id rfl
@[simp] theorem und80 : J.und 80 = some (TypeDesc.func #[9, 9, 3, 3, 55] #[55] false) := id rfl
@[simp] theorem size80 : J.size 80 = some 1 := id rfl
@[simp] theorem bytes80 : J.bytes 80 = some 8 := id rfl
@[simp] theorem zero80 : J.zero 80 = some Value.nilFunc := id rfl
@[simp] theorem agg80 : isAggT J 80 = some false := id rfl
@[simp] theorem und81 : J.und 81 = some (TypeDesc.tuple #[5, 3]) := id rfl
@[simp] theorem size81 : J.size 81 = some 1 := id rfl
@[simp] theorem bytes81 : J.bytes 81 = some 0 := id rfl
@[simp] theorem zero81 : J.zero 81 = some ((Value.tuple #[Value.int IntKind.u8 0, Value.int IntKind.i64 0])) := id rfl
@[simp] theorem agg81 : isAggT J 81 = some false := id rfl
@[simp] theorem und82 : J.und 82 = some (TypeDesc.func #[9] #[5, 3] false) := id rfl
@[simp] theorem size82 : J.size 82 = some 1 := id rfl
@[simp] theorem bytes82 : J.bytes 82 = some 8 := id rfl
@[simp] theorem zero82 : J.zero 82 = some Value.nilFunc := id rfl
@[simp] theorem agg82 : isAggT J 82 = some false := id rfl
@[simp] theorem und83 : J.und 83 = some TypeDesc.unsafePointer := id rfl
@[simp] theorem size83 : J.size 83 = some 1 := id rfl
@[simp] theorem bytes83 : J.bytes 83 = some 8 := id rfl
@[simp] theorem zero83 : J.zero 83 = some ((Value.pointer none)) := id rfl
@[simp] theorem agg83 : isAggT J 83 = some false := id rfl
@[simp] theorem und84 : J.und 84 = some (TypeDesc.func #[83] #[83] false) := id rfl
@[simp] theorem size84 : J.size 84 = some 1 := id rfl
@[simp] theorem bytes84 : J.bytes 84 = some 8 := id rfl
@[simp] theorem zero84 : J.zero 84 = some Value.nilFunc := id rfl
@[simp] theorem agg84 : isAggT J 84 = some false := id rfl
@[simp] theorem und85 : J.und 85 = some (TypeDesc.func #[3] #[9] false) := id rfl
@[simp] theorem size85 : J.size 85 = some 1 := id rfl
@[simp] theorem bytes85 : J.bytes 85 = some 8 := id rfl
@[simp] theorem zero85 : J.zero 85 = some Value.nilFunc := id rfl
@[simp] theorem agg85 : isAggT J 85 = some false := id rfl
@[simp] theorem und86 : J.und 86 = some (TypeDesc.array 24 5) := id rfl
@[simp] theorem size86 : J.size 86 = some 24 := id rfl
@[simp] theorem bytes86 : J.bytes 86 = some 24 := id rfl
@[simp] theorem zero86 : J.zero 86 = some ((Value.agg #[Value.int IntKind.u8 0, Value.int IntKind.u8 0, Value.int IntKind.u8 0, Value.int IntKind.u8 0, Value.int IntKind.u8 0, Value.int IntKind.u8 0, Value.int IntKind.u8 0, Value.int IntKind.u8 0, Value.int IntKind.u8 0, Value.int IntKind.u8 0, Value.int IntKind.u8 0, Value.int IntKind.u8 0, Value.int IntKind.u8 0, Value.int IntKind.u8 0, Value.int IntKind.u8 0, Value.int IntKind.u8 0, Value.int IntKind.u8 0, Value.int IntKind.u8 0, Value.int IntKind.u8 0, Value.int IntKind.u8 0, Value.int IntKind.u8 0, Value.int IntKind.u8 0, Value.int IntKind.u8 0, Value.int IntKind.u8 0])) := id rfl
@[simp] theorem agg86 : isAggT J 86 = some true := id rfl
@[simp] theorem und87 : J.und 87 = some (TypeDesc.int IntKind.u64) := id rfl
@[simp] theorem size87 : J.size 87 = some 1 := id rfl
@[simp] theorem bytes87 : J.bytes 87 = some 8 := id rfl
@[simp] theorem zero87 : J.zero 87 = some ((Value.int IntKind.u64 0)) := id rfl
@[simp] theorem agg87 : isAggT J 87 = some false := id rfl
@[simp] theorem und88 : J.und 88 = some (TypeDesc.func #[87] #[3] false) := id rfl
@[simp] theorem size88 : J.size 88 = some 1 := id rfl
@[simp] theorem bytes88 : J.bytes 88 = some 8 := id rfl
@[simp] theorem zero88 : J.zero 88 = some Value.nilFunc := id rfl
@[simp] theorem agg88 : isAggT J 88 = some false := id rfl
@[simp] theorem und89 : J.und 89 = some (TypeDesc.func #[40, 87] #[] false) := id rfl
@[simp] theorem size89 : J.size 89 = some 1 := id rfl
@[simp] theorem bytes89 : J.bytes 89 = some 8 := id rfl
@[simp] theorem zero89 : J.zero 89 = some Value.nilFunc := id rfl
@[simp] theorem agg89 : isAggT J 89 = some false := id rfl
@[simp] theorem und90 : J.und 90 = some (TypeDesc.tuple #[40, 9]) := id rfl
@[simp] theorem size90 : J.size 90 = some 1 := id rfl
@[simp] theorem bytes90 : J.bytes 90 = some 0 := id rfl
@[simp] theorem zero90 : J.zero 90 = some ((Value.tuple #[Value.slice none 0 0, Value.string { data := #[] }])) := id rfl
@[simp] theorem agg90 : isAggT J 90 = some false := id rfl
@[simp] theorem und91 : J.und 91 = some (TypeDesc.func #[40, 87, 3, 4, 4] #[40, 9] false) := id rfl
@[simp] theorem size91 : J.size 91 = some 1 := id rfl
@[simp] theorem bytes91 : J.bytes 91 = some 8 := id rfl
@[simp] theorem zero91 : J.zero 91 = some Value.nilFunc := id rfl
@[simp] theorem agg91 : isAggT J 91 = some false := id rfl
@[simp] theorem und92 : J.und 92 = some (TypeDesc.slice 94) := id rfl
@[simp] theorem size92 : J.size 92 = some 1 := id rfl
@[simp] theorem bytes92 : J.bytes 92 = some 24 := id rfl
@[simp] theorem zero92 : J.zero 92 = some ((Value.slice none 0 0)) := id rfl
@[simp] theorem agg92 : isAggT J 92 = some false := id rfl
@[simp] theorem size93 : J.size 93 = some 2 := id rfl
@[simp] theorem bytes93 : J.bytes 93 = some 16 := id rfl
@[simp] theorem zero93 : J.zero 93 = some ((Value.agg #[Value.int IntKind.i64 0, Value.int IntKind.i64 0])) := id rfl
@[simp] theorem agg93 : isAggT J 93 = some true := id rfl
@[simp] theorem fa93_0 (a : Addr) : ifieldAddr J 93 (.pointer (some a)) 0 = some (.pointer (some (a.add 0))) := id rfl
@[simp] theorem fa93_1 (a : Addr) : ifieldAddr J 93 (.pointer (some a)) 1 = some (.pointer (some (a.add 1))) := id rfl
@[simp] theorem size94 : J.size 94 = some 2 := id rfl
@[simp] theorem bytes94 : J.bytes 94 = some 16 := id rfl
@[simp] theorem zero94 : J.zero 94 = some ((Value.agg #[Value.int IntKind.i64 0, Value.int IntKind.i64 0])) := id rfl
@[simp] theorem agg94 : isAggT J 94 = some true := id rfl
@[simp] theorem fa94_0 (a : Addr) : ifieldAddr J 94 (.pointer (some a)) 0 = some (.pointer (some (a.add 0))) := id rfl
@[simp] theorem fa94_1 (a : Addr) : ifieldAddr J 94 (.pointer (some a)) 1 = some (.pointer (some (a.add 1))) := id rfl
@[simp] theorem und95 : J.und 95 = some (TypeDesc.int IntKind.u32) := id rfl
@[simp] theorem size95 : J.size 95 = some 1 := id rfl
@[simp] theorem bytes95 : J.bytes 95 = some 4 := id rfl
@[simp] theorem zero95 : J.zero 95 = some ((Value.int IntKind.u32 0)) := id rfl
@[simp] theorem agg95 : isAggT J 95 = some false := id rfl
@[simp] theorem und96 : J.und 96 = some (TypeDesc.func #[97, 21] #[4] false) := id rfl
@[simp] theorem size96 : J.size 96 = some 1 := id rfl
@[simp] theorem bytes96 : J.bytes 96 = some 8 := id rfl
@[simp] theorem zero96 : J.zero 96 = some Value.nilFunc := id rfl
@[simp] theorem agg96 : isAggT J 96 = some false := id rfl
@[simp] theorem und97 : J.und 97 = some (TypeDesc.pointer 114) := id rfl
@[simp] theorem size97 : J.size 97 = some 1 := id rfl
@[simp] theorem bytes97 : J.bytes 97 = some 8 := id rfl
@[simp] theorem zero97 : J.zero 97 = some ((Value.pointer none)) := id rfl
@[simp] theorem agg97 : isAggT J 97 = some false := id rfl
@[simp] theorem und98 : J.und 98 = some (TypeDesc.int IntKind.i64) := id rfl
@[simp] theorem size98 : J.size 98 = some 1 := id rfl
@[simp] theorem bytes98 : J.bytes 98 = some 8 := id rfl
@[simp] theorem zero98 : J.zero 98 = some ((Value.int IntKind.i64 0)) := id rfl
@[simp] theorem agg98 : isAggT J 98 = some false := id rfl
@[simp] theorem und99 : J.und 99 = some (TypeDesc.tuple #[87, 55]) := id rfl
@[simp] theorem size99 : J.size 99 = some 1 := id rfl
@[simp] theorem bytes99 : J.bytes 99 = some 0 := id rfl
@[simp] theorem zero99 : J.zero 99 = some ((Value.tuple #[Value.int IntKind.u64 0, Value.nilIface])) := id rfl
@[simp] theorem agg99 : isAggT J 99 = some false := id rfl
@[simp] theorem und100 : J.und 100 = some (TypeDesc.func #[9, 3, 3] #[87, 55] false) := id rfl
@[simp] theorem size100 : J.size 100 = some 1 := id rfl
@[simp] theorem bytes100 : J.bytes 100 = some 8 := id rfl
@[simp] theorem zero100 : J.zero 100 = some Value.nilFunc := id rfl
@[simp] theorem agg100 : isAggT J 100 = some false := id rfl
@[simp] theorem und101 : J.und 101 = some (TypeDesc.int IntKind.u64) := id rfl
@[simp] theorem size101 : J.size 101 = some 1 := id rfl
@[simp] theorem bytes101 : J.bytes 101 = some 8 := id rfl
@[simp] theorem zero101 : J.zero 101 = some ((Value.int IntKind.u64 0)) := id rfl
@[simp] theorem agg101 : isAggT J 101 = some false := id rfl
@[simp] theorem und102 : J.und 102 = some (TypeDesc.pointer 124) := id rfl
@[simp] theorem size102 : J.size 102 = some 1 := id rfl
@[simp] theorem bytes102 : J.bytes 102 = some 8 := id rfl
@[simp] theorem zero102 : J.zero 102 = some ((Value.pointer none)) := id rfl
@[simp] theorem agg102 : isAggT J 102 = some false := id rfl
@[simp] theorem und103 : J.und 103 = some (TypeDesc.func #[9, 9] #[102] false) := id rfl
@[simp] theorem size103 : J.size 103 = some 1 := id rfl
@[simp] theorem bytes103 : J.bytes 103 = some 8 := id rfl
@[simp] theorem zero103 : J.zero 103 = some Value.nilFunc := id rfl
@[simp] theorem agg103 : isAggT J 103 = some false := id rfl
@[simp] theorem und104 : J.und 104 = some (TypeDesc.func #[9, 9, 3] #[102] false) := id rfl
@[simp] theorem size104 : J.size 104 = some 1 := id rfl
@[simp] theorem bytes104 : J.bytes 104 = some 8 := id rfl
@[simp] theorem zero104 : J.zero 104 = some Value.nilFunc := id rfl
@[simp] theorem agg104 : isAggT J 104 = some false := id rfl
@[simp] theorem und105 : J.und 105 = some (TypeDesc.func #[3] #[3] false) := id rfl
@[simp] theorem size105 : J.size 105 = some 1 := id rfl
@[simp] theorem bytes105 : J.bytes 105 = some 8 := id rfl
@[simp] theorem zero105 : J.zero 105 = some Value.nilFunc := id rfl
@[simp] theorem agg105 : isAggT J 105 = some false := id rfl
@[simp] theorem und106 : J.und 106 = some (TypeDesc.func #[4] #[3] false) := id rfl
@[simp] theorem size106 : J.size 106 = some 1 := id rfl
@[simp] theorem bytes106 : J.bytes 106 = some 8 := id rfl
@[simp] theorem zero106 : J.zero 106 = some Value.nilFunc := id rfl
@[simp] theorem agg106 : isAggT J 106 = some false := id rfl
@[simp] theorem und107 : J.und 107 = some (TypeDesc.array 20 87) := id rfl
@[simp] theorem size107 : J.size 107 = some 20 := id rfl
@[simp] theorem bytes107 : J.bytes 107 = some 160 := id rfl
@[simp] theorem zero107 : J.zero 107 = some ((Value.agg #[Value.int IntKind.u64 0, Value.int IntKind.u64 0, Value.int IntKind.u64 0, Value.int IntKind.u64 0, Value.int IntKind.u64 0, Value.int IntKind.u64 0, Value.int IntKind.u64 0, Value.int IntKind.u64 0, Value.int IntKind.u64 0, Value.int IntKind.u64 0, Value.int IntKind.u64 0, Value.int IntKind.u64 0, Value.int IntKind.u64 0, Value.int IntKind.u64 0, Value.int IntKind.u64 0, Value.int IntKind.u64 0, Value.int IntKind.u64 0, Value.int IntKind.u64 0, Value.int IntKind.u64 0, Value.int IntKind.u64 0])) := id rfl
@[simp] theorem agg107 : isAggT J 107 = some true := id rfl
@[simp] theorem und108 : J.und 108 = some (TypeDesc.array 65 5) := id rfl
@[simp] theorem size108 : J.size 108 = some 65 := id rfl
@[simp] theorem bytes108 : J.bytes 108 = some 65 := id rfl
@[simp] theorem zero108 : J.zero 108 = some ((Value.agg ([Value.int IntKind.u8 0, Value.int IntKind.u8 0, Value.int IntKind.u8 0, Value.int IntKind.u8 0, Value.int IntKind.u8 0, Value.int IntKind.u8 0, Value.int IntKind.u8 0, Value.int IntKind.u8 0, Value.int IntKind.u8 0, Value.int IntKind.u8 0, Value.int IntKind.u8 0, Value.int IntKind.u8 0, Value.int IntKind.u8 0, Value.int IntKind.u8 0, Value.int IntKind.u8 0, Value.int IntKind.u8 0, Value.int IntKind.u8 0, Value.int IntKind.u8 0, Value.int IntKind.u8 0, Value.int IntKind.u8 0, Value.int IntKind.u8 0, Value.int IntKind.u8 0, Value.int IntKind.u8 0, Value.int IntKind.u8 0, Value.int IntKind.u8 0, Value.int IntKind.u8 0, Value.int IntKind.u8 0, Value.int IntKind.u8 0, Value.int IntKind.u8 0, Value.int IntKind.u8 0, Value.int IntKind.u8 0, Value.int IntKind.u8 0].append [Value.int IntKind.u8 0, Value.int IntKind.u8 0, Value.int IntKind.u8 0, Value.int IntKind.u8 0, Value.int IntKind.u8 0, Value.int IntKind.u8 0, Value.int IntKind.u8 0, Value.int IntKind.u8 0, Value.int IntKind.u8 0, Value.int IntKind.u8 0, Value.int IntKind.u8 0, Value.int IntKind.u8 0, Value.int IntKind.u8 0, Value.int IntKind.u8 0, Value.int IntKind.u8 0, Value.int IntKind.u8 0, Value.int IntKind.u8 0, Value.int IntKind.u8 0, Value.int IntKind.u8 0, Value.int IntKind.u8 0, Value.int IntKind.u8 0, Value.int IntKind.u8 0, Value.int IntKind.u8 0, Value.int IntKind.u8 0, Value.int IntKind.u8 0, Value.int IntKind.u8 0, Value.int IntKind.u8 0, Value.int IntKind.u8 0, Value.int IntKind.u8 0, Value.int IntKind.u8 0, Value.int IntKind.u8 0, Value.int IntKind.u8 0, Value.int IntKind.u8 0]).toArray)) := id rfl
@[simp] theorem agg108 : isAggT J 108 = some true := id rfl
@[simp] theorem und109 : J.und 109 = some (TypeDesc.func #[3] #[4] false) := id rfl
@[simp] theorem size109 : J.size 109 = some 1 := id rfl
@[simp] theorem bytes109 : J.bytes 109 = some 8 := id rfl
@[simp] theorem zero109 : J.zero 109 = some Value.nilFunc := id rfl
@[simp] theorem agg109 : isAggT J 109 = some false := id rfl
@[simp] theorem und110 : J.und 110 = some (TypeDesc.func #[101] #[3] false) := id rfl
@[simp] theorem size110 : J.size 110 = some 1 := id rfl
@[simp] theorem bytes110 : J.bytes 110 = some 8 := id rfl
@[simp] theorem zero110 : J.zero 110 = some Value.nilFunc := id rfl
@[simp] theorem agg110 : isAggT J 110 = some false := id rfl
@[simp] theorem und111 : J.und 111 = some (TypeDesc.slice 117) := id rfl
@[simp] theorem size111 : J.size 111 = some 1 := id rfl
@[simp] theorem bytes111 : J.bytes 111 = some 24 := id rfl
@[simp] theorem zero111 : J.zero 111 = some ((Value.slice none 0 0)) := id rfl
@[simp] theorem agg111 : isAggT J 111 = some false := id rfl
@[simp] theorem und112 : J.und 112 = some (TypeDesc.slice 120) := id rfl
@[simp] theorem size112 : J.size 112 = some 1 := id rfl
@[simp] theorem bytes112 : J.bytes 112 = some 24 := id rfl
@[simp] theorem zero112 : J.zero 112 = some ((Value.slice none 0 0)) := id rfl
@[simp] theorem agg112 : isAggT J 112 = some false := id rfl
@[simp] theorem size113 : J.size 113 = some 3 := id rfl
@[simp] theorem bytes113 : J.bytes 113 = some 56 := id rfl
@[simp] theorem zero113 : J.zero 113 = some ((Value.agg #[Value.slice none 0 0, Value.slice none 0 0, Value.int IntKind.i64 0])) := id rfl
@[simp] theorem agg113 : isAggT J 113 = some true := id rfl
@[simp] theorem fa113_0 (a : Addr) : ifieldAddr J 113 (.pointer (some a)) 0 = some (.pointer (some (a.add 0))) := id rfl
@[simp] theorem fa113_1 (a : Addr) : ifieldAddr J 113 (.pointer (some a)) 1 = some (.pointer (some (a.add 1))) := id rfl
@[simp] theorem fa113_2 (a : Addr) : ifieldAddr J 113 (.pointer (some a)) 2 = some (.pointer (some (a.add 2))) := id rfl
@[simp] theorem size114 : J.size 114 = some 3 := id rfl
@[simp] theorem bytes114 : J.bytes 114 = some 56 := id rfl
@[simp] theorem zero114 : J.zero 114 = some ((Value.agg #[Value.slice none 0 0, Value.slice none 0 0, Value.int IntKind.i64 0])) := id rfl
@[simp] theorem agg114 : isAggT J 114 = some true := id rfl
@[simp] theorem fa114_0 (a : Addr) : ifieldAddr J 114 (.pointer (some a)) 0 = some (.pointer (some (a.add 0))) := id rfl
@[simp] theorem fa114_1 (a : Addr) : ifieldAddr J 114 (.pointer (some a)) 1 = some (.pointer (some (a.add 1))) := id rfl
@[simp] theorem fa114_2 (a : Addr) : ifieldAddr J 114 (.pointer (some a)) 2 = some (.pointer (some (a.add 2))) := id rfl
@[simp] theorem und115 : J.und 115 = some (TypeDesc.int IntKind.u16) := id rfl
@[simp] theorem size115 : J.size 115 = some 1 := id rfl
@[simp] theorem bytes115 : J.bytes 115 = some 2 := id rfl
@[simp] theorem zero115 : J.zero 115 = some ((Value.int IntKind.u16 0)) := id rfl
@[simp] theorem agg115 : isAggT J 115 = some false := id rfl
@[simp] theorem size116 : J.size 116 = some 3 := id rfl
@[simp] theorem bytes116 : J.bytes 116 = some 6 := id rfl
@[simp] theorem zero116 : J.zero 116 = some ((Value.agg #[Value.int IntKind.u16 0, Value.int IntKind.u16 0, Value.int IntKind.u16 0])) := id rfl
@[simp] theorem agg116 : isAggT J 116 = some true := id rfl
@[simp] theorem fa116_0 (a : Addr) : ifieldAddr J 116 (.pointer (some a)) 0 = some (.pointer (some (a.add 0))) := id rfl
@[simp] theorem fa116_1 (a : Addr) : ifieldAddr J 116 (.pointer (some a)) 1 = some (.pointer (some (a.add 1))) := id rfl
@[simp] theorem fa116_2 (a : Addr) : ifieldAddr J 116 (.pointer (some a)) 2 = some (.pointer (some (a.add 2))) := id rfl
@[simp] theorem size117 : J.size 117 = some 3 := id rfl
@[simp] theorem bytes117 : J.bytes 117 = some 6 := id rfl
@[simp] theorem zero117 : J.zero 117 = some ((Value.agg #[Value.int IntKind.u16 0, Value.int IntKind.u16 0, Value.int IntKind.u16 0])) := id rfl
@[simp] theorem agg117 : isAggT J 117 = some true := id rfl
@[simp] theorem fa117_0 (a : Addr) : ifieldAddr J 117 (.pointer (some a)) 0 = some (.pointer (some (a.add 0))) := id rfl
@[simp] theorem fa117_1 (a : Addr) : ifieldAddr J 117 (.pointer (some a)) 1 = some (.pointer (some (a.add 1))) := id rfl
@[simp] theorem fa117_2 (a : Addr) : ifieldAddr J 117 (.pointer (some a)) 2 = some (.pointer (some (a.add 2))) := id rfl
@[simp] theorem und118 : J.und 118 = some (TypeDesc.func #[111, 115] #[4] false) := id rfl
@[simp] theorem size118 : J.size 118 = some 1 := id rfl
@[simp] theorem bytes118 : J.bytes 118 = some 8 := id rfl
@[simp] theorem zero118 : J.zero 118 = some Value.nilFunc := id rfl
@[simp] theorem agg118 : isAggT J 118 = some false := id rfl
@[simp] theorem size119 : J.size 119 = some 3 := id rfl
@[simp] theorem bytes119 : J.bytes 119 = some 12 := id rfl
@[simp] theorem zero119 : J.zero 119 = some ((Value.agg #[Value.int IntKind.u32 0, Value.int IntKind.u32 0, Value.int IntKind.u32 0])) := id rfl
@[simp] theorem agg119 : isAggT J 119 = some true := id rfl
@[simp] theorem fa119_0 (a : Addr) : ifieldAddr J 119 (.pointer (some a)) 0 = some (.pointer (some (a.add 0))) := id rfl
@[simp] theorem fa119_1 (a : Addr) : ifieldAddr J 119 (.pointer (some a)) 1 = some (.pointer (some (a.add 1))) := id rfl
@[simp] theorem fa119_2 (a : Addr) : ifieldAddr J 119 (.pointer (some a)) 2 = some (.pointer (some (a.add 2))) := id rfl
@[simp] theorem size120 : J.size 120 = some 3 := id rfl
@[simp] theorem bytes120 : J.bytes 120 = some 12 := id rfl
@[simp] theorem zero120 : J.zero 120 = some ((Value.agg #[Value.int IntKind.u32 0, Value.int IntKind.u32 0, Value.int IntKind.u32 0])) := id rfl
@[simp] theorem agg120 : isAggT J 120 = some true := id rfl
@[simp] theorem fa120_0 (a : Addr) : ifieldAddr J 120 (.pointer (some a)) 0 = some (.pointer (some (a.add 0))) := id rfl
@[simp] theorem fa120_1 (a : Addr) : ifieldAddr J 120 (.pointer (some a)) 1 = some (.pointer (some (a.add 1))) := id rfl
@[simp] theorem fa120_2 (a : Addr) : ifieldAddr J 120 (.pointer (some a)) 2 = some (.pointer (some (a.add 2))) := id rfl
@[simp] theorem und121 : J.und 121 = some (TypeDesc.func #[112, 95] #[4] false) := id rfl
@[simp] theorem size121 : J.size 121 = some 1 := id rfl
@[simp] theorem bytes121 : J.bytes 121 = some 8 := id rfl
@[simp] theorem zero121 : J.zero 121 = some Value.nilFunc := id rfl
@[simp] theorem agg121 : isAggT J 121 = some false := id rfl
@[simp] theorem und122 : J.und 122 = some (TypeDesc.func #[5] #[5] false) := id rfl
@[simp] theorem size122 : J.size 122 = some 1 := id rfl
@[simp] theorem bytes122 : J.bytes 122 = some 8 := id rfl
@[simp] theorem zero122 : J.zero 122 = some Value.nilFunc := id rfl
@[simp] theorem agg122 : isAggT J 122 = some false := id rfl
@[simp] theorem size123 : J.size 123 = some 3 := id rfl
@[simp] theorem bytes123 : J.bytes 123 = some 48 := id rfl
@[simp] theorem zero123 : J.zero 123 = some ((Value.agg #[Value.string { data := #[] }, Value.string { data := #[] }, Value.nilIface])) := id rfl
@[simp] theorem agg123 : isAggT J 123 = some true := id rfl
@[simp] theorem fa123_0 (a : Addr) : ifieldAddr J 123 (.pointer (some a)) 0 = some (.pointer (some (a.add 0))) := id rfl
@[simp] theorem fa123_1 (a : Addr) : ifieldAddr J 123 (.pointer (some a)) 1 = some (.pointer (some (a.add 1))) := id rfl
@[simp] theorem fa123_2 (a : Addr) : ifieldAddr J 123 (.pointer (some a)) 2 = some (.pointer (some (a.add 2))) := id rfl
@[simp] theorem size124 : J.size 124 = some 3 := id rfl
@[simp] theorem bytes124 : J.bytes 124 = some 48 := id rfl
@[simp] theorem zero124 : J.zero 124 = some ((Value.agg #[Value.string { data := #[] }, Value.string { data := #[] }, Value.nilIface])) := id rfl
@[simp] theorem agg124 : isAggT J 124 = some true := id rfl
@[simp] theorem fa124_0 (a : Addr) : ifieldAddr J 124 (.pointer (some a)) 0 = some (.pointer (some (a.add 0))) := id rfl
@[simp] theorem fa124_1 (a : Addr) : ifieldAddr J 124 (.pointer (some a)) 1 = some (.pointer (some (a.add 1))) := id rfl
@[simp] theorem fa124_2 (a : Addr) : ifieldAddr J 124 (.pointer (some a)) 2 = some (.pointer (some (a.add 2))) := id rfl
@[simp] theorem und125 : J.und 125 = some (TypeDesc.func #[9] #[55] false) := id rfl
@[simp] theorem size125 : J.size 125 = some 1 := id rfl
@[simp] theorem bytes125 : J.bytes 125 = some 8 := id rfl
@[simp] theorem zero125 : J.zero 125 = some Value.nilFunc := id rfl
@[simp] theorem agg125 : isAggT J 125 = some false := id rfl
@[simp] theorem und126 : J.und 126 = some (TypeDesc.func #[95] #[3] false) := id rfl
@[simp] theorem size126 : J.size 126 = some 1 := id rfl
@[simp] theorem bytes126 : J.bytes 126 = some 8 := id rfl
@[simp] theorem zero126 : J.zero 126 = some Value.nilFunc := id rfl
@[simp] theorem agg126 : isAggT J 126 = some false := id rfl
@[simp] theorem und127 : J.und 127 = some (TypeDesc.pointer 117) := id rfl
@[simp] theorem size127 : J.size 127 = some 1 := id rfl
@[simp] theorem bytes127 : J.bytes 127 = some 8 := id rfl
@[simp] theorem zero127 : J.zero 127 = some ((Value.pointer none)) := id rfl
@[simp] theorem agg127 : isAggT J 127 = some false := id rfl
@[simp] theorem und128 : J.und 128 = some (TypeDesc.pointer 120) := id rfl
@[simp] theorem size128 : J.size 128 = some 1 := id rfl
@[simp] theorem bytes128 : J.bytes 128 = some 8 := id rfl
@[simp] theorem zero128 : J.zero 128 = some ((Value.pointer none)) := id rfl
@[simp] theorem agg128 : isAggT J 128 = some false := id rfl
@[simp] theorem und129 : J.und 129 = some (TypeDesc.pointer 131) := id rfl
@[simp] theorem size129 : J.size 129 = some 1 := id rfl
@[simp] theorem bytes129 : J.bytes 129 = some 8 := id rfl
@[simp] theorem zero129 : J.zero 129 = some ((Value.pointer none)) := id rfl
@[simp] theorem agg129 : isAggT J 129 = some false := id rfl
@[simp] theorem size130 : J.size 130 = some 1 := id rfl
@[simp] theorem bytes130 : J.bytes 130 = some 16 := id rfl
@[simp] theorem zero130 : J.zero 130 = some ((Value.agg #[Value.string { data := #[] }])) := id rfl
@[simp] theorem agg130 : isAggT J 130 = some true := id rfl
@[simp] theorem fa130_0 (a : Addr) : ifieldAddr J 130 (.pointer (some a)) 0 = some (.pointer (some (a.add 0))) := id rfl
@[simp] theorem size131 : J.size 131 = some 1 := id rfl
@[simp] theorem bytes131 : J.bytes 131 = some 16 := id rfl
@[simp] theorem zero131 : J.zero 131 = some ((Value.agg #[Value.string { data := #[] }])) := id rfl
@[simp] theorem agg131 : isAggT J 131 = some true := id rfl
@[simp] theorem fa131_0 (a : Addr) : ifieldAddr J 131 (.pointer (some a)) 0 = some (.pointer (some (a.add 0))) := id rfl
@[simp] theorem und132 : J.und 132 = some (TypeDesc.array 32 5) := id rfl
@[simp] theorem size132 : J.size 132 = some 32 := id rfl
@[simp] theorem bytes132 : J.bytes 132 = some 32 := id rfl
@[simp] theorem zero132 : J.zero 132 = some ((Value.agg #[Value.int IntKind.u8 0, Value.int IntKind.u8 0, Value.int IntKind.u8 0, Value.int IntKind.u8 0, Value.int IntKind.u8 0, Value.int IntKind.u8 0, Value.int IntKind.u8 0, Value.int IntKind.u8 0, Value.int IntKind.u8 0, Value.int IntKind.u8 0, Value.int IntKind.u8 0, Value.int IntKind.u8 0, Value.int IntKind.u8 0, Value.int IntKind.u8 0, Value.int IntKind.u8 0, Value.int IntKind.u8 0, Value.int IntKind.u8 0, Value.int IntKind.u8 0, Value.int IntKind.u8 0, Value.int IntKind.u8 0, Value.int IntKind.u8 0, Value.int IntKind.u8 0, Value.int IntKind.u8 0, Value.int IntKind.u8 0, Value.int IntKind.u8 0, Value.int IntKind.u8 0, Value.int IntKind.u8 0, Value.int IntKind.u8 0, Value.int IntKind.u8 0, Value.int IntKind.u8 0, Value.int IntKind.u8 0, Value.int IntKind.u8 0])) := id rfl
@[simp] theorem agg132 : isAggT J 132 = some true := id rfl
@[simp] theorem und133 : J.und 133 = some (TypeDesc.array 64 5) := id rfl
@[simp] theorem size133 : J.size 133 = some 64 := id rfl
@[simp] theorem bytes133 : J.bytes 133 = some 64 := id rfl
@[simp] theorem zero133 : J.zero 133 = some ((Value.agg #[Value.int IntKind.u8 0, Value.int IntKind.u8 0, Value.int IntKind.u8 0, Value.int IntKind.u8 0, Value.int IntKind.u8 0, Value.int IntKind.u8 0, Value.int IntKind.u8 0, Value.int IntKind.u8 0, Value.int IntKind.u8 0, Value.int IntKind.u8 0, Value.int IntKind.u8 0, Value.int IntKind.u8 0, Value.int IntKind.u8 0, Value.int IntKind.u8 0, Value.int IntKind.u8 0, Value.int IntKind.u8 0, Value.int IntKind.u8 0, Value.int IntKind.u8 0, Value.int IntKind.u8 0, Value.int IntKind.u8 0, Value.int IntKind.u8 0, Value.int IntKind.u8 0, Value.int IntKind.u8 0, Value.int IntKind.u8 0, Value.int IntKind.u8 0, Value.int IntKind.u8 0, Value.int IntKind.u8 0, Value.int IntKind.u8 0, Value.int IntKind.u8 0, Value.int IntKind.u8 0, Value.int IntKind.u8 0, Value.int IntKind.u8 0, Value.int IntKind.u8 0, Value.int IntKind.u8 0, Value.int IntKind.u8 0, Value.int IntKind.u8 0, Value.int IntKind.u8 0, Value.int IntKind.u8 0, Value.int IntKind.u8 0, Value.int IntKind.u8 0, Value.int IntKind.u8 0, Value.int IntKind.u8 0, Value.int IntKind.u8 0, Value.int IntKind.u8 0, Value.int IntKind.u8 0, Value.int IntKind.u8 0, Value.int IntKind.u8 0, Value.int IntKind.u8 0, Value.int IntKind.u8 0, Value.int IntKind.u8 0, Value.int IntKind.u8 0, Value.int IntKind.u8 0, Value.int IntKind.u8 0, Value.int IntKind.u8 0, Value.int IntKind.u8 0, Value.int IntKind.u8 0, Value.int IntKind.u8 0, Value.int IntKind.u8 0, Value.int IntKind.u8 0, Value.int IntKind.u8 0, Value.int IntKind.u8 0, Value.int IntKind.u8 0, Value.int IntKind.u8 0, Value.int IntKind.u8 0])) := id rfl
@[simp] theorem agg133 : isAggT J 133 = some true := id rfl
@[simp] theorem size134 : J.size 134 = some 4 := id rfl
@[simp] theorem bytes134 : J.bytes 134 = some 40 := id rfl
@[simp] theorem zero134 : J.zero 134 = some ((Value.agg #[Value.pointer none, Value.pointer none, Value.pointer none, Value.string { data := #[] }])) := id rfl
@[simp] theorem agg134 : isAggT J 134 = some true := id rfl
@[simp] theorem fa134_0 (a : Addr) : ifieldAddr J 134 (.pointer (some a)) 0 = some (.pointer (some (a.add 0))) := id rfl
@[simp] theorem fa134_1 (a : Addr) : ifieldAddr J 134 (.pointer (some a)) 1 = some (.pointer (some (a.add 1))) := id rfl
@[simp] theorem fa134_2 (a : Addr) : ifieldAddr J 134 (.pointer (some a)) 2 = some (.pointer (some (a.add 2))) := id rfl
@[simp] theorem fa134_3 (a : Addr) : ifieldAddr J 134 (.pointer (some a)) 3 = some (.pointer (some (a.add 3))) := id rfl
@[simp] theorem size135 : J.size 135 = some 4 := id rfl
@[simp] theorem bytes135 : J.bytes 135 = some 40 := id rfl
@[simp] theorem zero135 : J.zero 135 = some ((Value.agg #[Value.pointer none, Value.pointer none, Value.pointer none, Value.string { data := #[] }])) := id rfl
@[simp] theorem agg135 : isAggT J 135 = some true := id rfl
@[simp] theorem fa135_0 (a : Addr) : ifieldAddr J 135 (.pointer (some a)) 0 = some (.pointer (some (a.add 0))) := id rfl
@[simp] theorem fa135_1 (a : Addr) : ifieldAddr J 135 (.pointer (some a)) 1 = some (.pointer (some (a.add 1))) := id rfl
@[simp] theorem fa135_2 (a : Addr) : ifieldAddr J 135 (.pointer (some a)) 2 = some (.pointer (some (a.add 2))) := id rfl
@[simp] theorem fa135_3 (a : Addr) : ifieldAddr J 135 (.pointer (some a)) 3 = some (.pointer (some (a.add 3))) := id rfl
@[simp] theorem und136 : J.und 136 = some (TypeDesc.array 0 16) := id rfl
@[simp] theorem size136 : J.size 136 = some 0 := id rfl
@[simp] theorem bytes136 : J.bytes 136 = some 0 := id rfl
@[simp] theorem zero136 : J.zero 136 = some ((Value.agg #[])) := id rfl
@[simp] theorem agg136 : isAggT J 136 = some true := id rfl
@[simp] theorem size137 : J.size 137 = some 0 := id rfl
@[simp] theorem bytes137 : J.bytes 137 = some 0 := id rfl
@[simp] theorem zero137 : J.zero 137 = some ((Value.agg #[])) := id rfl
@[simp] theorem agg137 : isAggT J 137 = some true := id rfl
@[simp] theorem size138 : J.size 138 = some 0 := id rfl
@[simp] theorem bytes138 : J.bytes 138 = some 0 := id rfl
@[simp] theorem zero138 : J.zero 138 = some ((Value.agg #[])) := id rfl
@[simp] theorem agg138 : isAggT J 138 = some true := id rfl
@[simp] theorem und139 : J.und 139 = some (TypeDesc.int IntKind.u8) := id rfl
@[simp] theorem size139 : J.size 139 = some 1 := id rfl
@[simp] theorem bytes139 : J.bytes 139 = some 1 := id rfl
@[simp] theorem zero139 : J.zero 139 = some ((Value.int IntKind.u8 0)) := id rfl
@[simp] theorem agg139 : isAggT J 139 = some false := id rfl
@[simp] theorem und140 : J.und 140 = some (TypeDesc.int IntKind.u8) := id rfl
@[simp] theorem size140 : J.size 140 = some 1 := id rfl
@[simp] theorem bytes140 : J.bytes 140 = some 1 := id rfl
@[simp] theorem zero140 : J.zero 140 = some ((Value.int IntKind.u8 0)) := id rfl
@[simp] theorem agg140 : isAggT J 140 = some false := id rfl
@[simp] theorem hb3 : hasBody J 3 = true := id rfl
@[simp] theorem hb4 : hasBody J 4 = true := id rfl
@[simp] theorem hb5 : hasBody J 5 = true := id rfl
@[simp] theorem hb6 : hasBody J 6 = true := id rfl
@[simp] theorem hb7 : hasBody J 7 = true := id rfl
@[simp] theorem hb8 : hasBody J 8 = true := id rfl
@[simp] theorem hb9 : hasBody J 9 = true := id rfl
@[simp] theorem hb10 : hasBody J 10 = true := id rfl
@[simp] theorem hb11 : hasBody J 11 = true := id rfl
@[simp] theorem hb12 : hasBody J 12 = true := id rfl
@[simp] theorem hb13 : hasBody J 13 = true := id rfl
@[simp] theorem hb14 : hasBody J 14 = true := id rfl
@[simp] theorem hb15 : hasBody J 15 = true := id rfl
@[simp] theorem hb16 : hasBody J 16 = true := id rfl
@[simp] theorem hb17 : hasBody J 17 = true := id rfl
@[simp] theorem hb18 : hasBody J 18 = true := id rfl
@[simp] theorem hb19 : hasBody J 19 = true := id rfl
@[simp] theorem hb20 : hasBody J 20 = true := id rfl
@[simp] theorem hb21 : hasBody J 21 = true := id rfl
@[simp] theorem hb22 : hasBody J 22 = true := id rfl
@[simp] theorem hb23 : hasBody J 23 = true := id rfl
@[simp] theorem hb24 : hasBody J 24 = true := id rfl
@[simp] theorem hb25 : hasBody J 25 = true := id rfl
@[simp] theorem hb26 : hasBody J 26 = true := id rfl
@[simp] theorem hb27 : hasBody J 27 = true := id rfl
@[simp] theorem hb28 : hasBody J 28 = true := id rfl
@[simp] theorem hb29 : hasBody J 29 = true := id rfl
@[simp] theorem hb31 : hasBody J 31 = true := id rfl
@[simp] theorem hb32 : hasBody J 32 = true := id rfl
@[simp] theorem hb33 : hasBody J 33 = true := id rfl
@[simp] theorem hb34 : hasBody J 34 = true := id rfl
@[simp] theorem hb35 : hasBody J 35 = true := id rfl
@[simp] theorem hb36 : hasBody J 36 = true := id rfl
@[simp] theorem hb37 : hasBody J 37 = true := id rfl
@[simp] theorem hb38 : hasBody J 38 = true := id rfl
@[simp] theorem hb39 : hasBody J 39 = true := id rfl
@[simp] theorem hb40 : hasBody J 40 = true := id rfl
@[simp] theorem hb41 : hasBody J 41 = true := id rfl
@[simp] theorem hb42 : hasBody J 42 = true := id rfl
@[simp] theorem hb43 : hasBody J 43 = true := id rfl
@[simp] theorem hb44 : hasBody J 44 = true := id rfl
@[simp] theorem hb45 : hasBody J 45 = true := id rfl
@[simp] theorem hb46 : hasBody J 46 = true := id rfl
@[simp] theorem hb47 : hasBody J 47 = true := id rfl
@[simp] theorem hb48 : hasBody J 48 = true := id rfl
@[simp] theorem hb49 : hasBody J 49 = true := id rfl
@[simp] theorem hb50 : hasBody J 50 = true := id rfl
@[simp] theorem hb51 : hasBody J 51 = true := id rfl
@[simp] theorem hb52 : hasBody J 52 = true := id rfl
@[simp] theorem hb53 : hasBody J 53 = true := id rfl
@[simp] theorem hb54 : hasBody J 54 = true := id rfl
@[simp] theorem hb55 : hasBody J 55 = true := id rfl
@[simp] theorem hb56 : hasBody J 56 = true := id rfl
@[simp] theorem hb57 : hasBody J 57 = true := id rfl
@[simp] theorem hb58 : hasBody J 58 = true := id rfl
@[simp] theorem hb59 : hasBody J 59 = true := id rfl
@[simp] theorem hb60 : hasBody J 60 = true := id rfl
@[simp] theorem hb61 : hasBody J 61 = true := id rfl
@[simp] theorem hb63 : hasBody J 63 = true := id rfl
@[simp] theorem hb64 : hasBody J 64 = true := id rfl
@[simp] theorem hb65 : hasBody J 65 = true := id rfl
@[simp] theorem hb66 : hasBody J 66 = true := id rfl
@[simp] theorem hb67 : hasBody J 67 = true := id rfl
@[simp] theorem hb68 : hasBody J 68 = true := id rfl
@[simp] theorem hb69 : hasBody J 69 = true := id rfl
@[simp] theorem hb70 : hasBody J 70 = true := id rfl
@[simp] theorem hb71 : hasBody J 71 = true := id rfl
@[simp] theorem hb72 : hasBody J 72 = true := id rfl
@[simp] theorem hb73 : hasBody J 73 = true := id rfl
@[simp] theorem hb75 : hasBody J 75 = true := id rfl
@[simp] theorem hb76 : hasBody J 76 = true := id rfl
@[simp] theorem hb77 : hasBody J 77 = true := id rfl
@[simp] theorem hb78 : hasBody J 78 = true := id rfl
@[simp] theorem hb79 : hasBody J 79 = true := id rfl
@[simp] theorem hb80 : hasBody J 80 = true := id rfl
@[simp] theorem hb81 : hasBody J 81 = true := id rfl
@[simp] theorem hb82 : hasBody J 82 = true := id rfl
@[simp] theorem hb83 : hasBody J 83 = true := id rfl
@[simp] theorem hb84 : hasBody J 84 = true := id rfl
@[simp] theorem hb85 : hasBody J 85 = true := id rfl
@[simp] theorem hb86 : hasBody J 86 = true := id rfl
@[simp] theorem hb87 : hasBody J 87 = true := id rfl
@[simp] theorem hb88 : hasBody J 88 = true := id rfl
@[simp] theorem hb89 : hasBody J 89 = true := id rfl
end Go.Proofs.YtjbcjcibnjbpcaaDoor.Idl
