/- The ideal machine: code, calls; what they come to, the model's program comes to. -/
import Derived.Test.YtchlbfmjnhgpgaaGreatPack0
import Derived.Recover
import Derived.Scope
import Derived.Laws.StructEq
import Derived.ChangeArms
import Derived.OpenShut
import Derived.DataReads
import Derived.Carry
import Derived.WideShapes
import Derived.ChangeShapes
import Derived.Test.YtchlbfmjnhgpgaaGreatChecked
namespace Go.Proofs.YtchlbfmjnhgpgaaGreat.Idl
open Go Go.RowKit
def icode (J:Env) (call:CallR):Nat→Code→Regs→IH→Option (IX×Regs×IH)
 |0,_,_,_=>none
 |k+1,c,T,H=>match c with
  | .skip=>some (.normal,T,H)
  | .label _=>some (.normal,T,H)
  | .region _ ops draw=>if draw then idraw J call (arrange J ops) T H else iops J call ops ops.toList T H
  | .seq a b=>match icode J call k a T H with
   |some (.normal,T',H')=>icode J call k b T' H'
   |r=>r
  | .cond c x y=>match iev T c with
   | .bool true=>icode J call k x T H
   | .bool false=>icode J call k y T H
   |_=>none
  | .block id body=>match icode J call k body T H with
   |some (.exit id',T',H')=>if id'=id then some (.normal,T',H') else some (.exit id',T',H')
   |r=>r
  | .loop body=>match icode J call k body T H with
   |some (.normal,T',H')=>icode J call k (.loop body) T' H'
   |r=>r
  | .exit id=>some (.exit id,T,H)
  | .ret=>some (.ret,T,H)
  | .scope body=>icode J call k body T H
  |_=>none
def codeOk (J:Env) (N:Nat):Code→Bool
 | .region _ ops draw=>ops.all (opOk J N)&&(!draw||regionOk J (arrange J ops))
 | .seq a b=>codeOk J N a&&codeOk J N b
 | .cond c x y=>operandOk J c&&codeOk J N x&&codeOk J N y
 | .block _ c=>codeOk J N c
 | .loop c=>codeOk J N c
 | .scope c=>codeOk J N c
 |_=>true
def keepsC:Code→Nat→Bool
 | .region _ ops _,t=>ops.all fun o=>o.dst !=some t
 | .seq a b,t=>keepsC a t&&keepsC b t
 | .cond _ x y,t=>keepsC x t&&keepsC y t
 | .block _ c,t=>keepsC c t
 | .loop c,t=>keepsC c t
 | .scope c,t=>keepsC c t
 |_,_=>true
/-! ### Deferred calls -/
inductive RS where
 |ret
 |pan (v:Value)
 |reco (v:Value)
def RS.settle:RS→RS
 | .reco _=>.ret
 |u=>u
def isRecover (o:Oper):Bool:=
 match o.op with
 | .call ⟨.builtin .recover,_,_⟩=>true
 |_=>false
def isDefer (o:Oper):Bool:=
 match o.op with
 | .defer _=>true
 |_=>false
def iopsS (J:Env) (call:CallR) (ops:Array Oper):List Oper→Regs→IH→RS→Option (IX×Regs×IH×RS)
 | [],T,H,u=>some (.normal,T,H,u)
 |o::r,T,H,u=>
  if wantedR ops T o then
   if isRecover o then
    match u with
    | .pan v=>iopsS J call ops r (putR T o.dst v) H (.reco v)
    |u=>iopsS J call ops r (putR T o.dst .nilIface) H u
   else match iexec J call o T H with
    |some (.ret v,H')=>iopsS J call ops r (putR T o.dst v) H' u
    |_=>none
  else iopsS J call ops r (putR T o.dst undef) H u
def icodeS (J:Env) (call:CallR) (k:Nat):Code→Regs→IH→RS→Option (IX×Regs×IH×RS)
 | .seq a b,T,H,u=>match icodeS J call k a T H u with
  |some (.normal,T',H',u')=>icodeS J call k b T' H' u'
  |r=>r
 | .region _ ops false,T,H,u=>iopsS J call ops ops.toList T H u
 |c,T,H,u=>match icode J call k c T H with
  |some (.pan _,_,_)=>none
  |some (x,T',H')=>some (x,T',H',u)
  |none=>none
abbrev Defs:=List (FuncId×List Value)
def deferR (T:Regs) (o:Oper):Option (FuncId×List Value):=
 match o.op with
 | .defer c=>match c.callee with
  | .value f=>match iev T f with
   | .func (.func g) first captured=>some (g,(first++c.args.map (iev T)++captured).toList)
   |_=>none
  |_=>none
 |_=>none
def iopsD (J:Env) (call:CallR) (ops:Array Oper):List Oper→Regs→IH→Defs→Option (IX×Regs×IH×Defs)
 | [],T,H,D=>some (.normal,T,H,D)
 |o::r,T,H,D=>
  if wantedR ops T o then
   if isDefer o then match deferR T o with
    |some d=>if hasBody J d.1 then iopsD J call ops r (putR T o.dst undef) H (d::D) else none
    |none=>none
   else match iexec J call o T H with
    |some (.ret v,H')=>iopsD J call ops r (putR T o.dst v) H' D
    |some (.pan v,H')=>some (.pan v,T,H',D)
    |none=>none
  else iopsD J call ops r (putR T o.dst undef) H D
def icodeD (J:Env) (call:CallR) (k:Nat) (Ks:List Tmp):Code→Regs→IH→Defs→Option (IX×Regs×IH×Defs)
 | .seq a b,T,H,D=>match icodeD J call k Ks a T H D with
  |some (.normal,T',H',D')=>icodeD J call k Ks b T' H' D'
  |r=>r
 | .region _ ops false,T,H,D=>iopsD J call ops ops.toList T H D
 |c,T,H,D=>match icode J call k c T H with
  |some (.pan v,T',H')=>if Ks.all (keepsC c) then some (.pan v,T',H',D) else none
  |some (x,T',H')=>some (x,T',H',D)
  |none=>none
def icallD (J:Env) (okf:FuncId→Bool) (call:CallR) (k:Nat) (g:FuncId) (args:List Value) (u:RS) (H:IH):Option (IH×RS):=
 if okf g then match J.fn g with
 |some fn=>match fn.body with
  |some c=>if args.length≤fn.ntmps then
    match icodeS J call k c (regsOf args 0 .leaf) H u with
    |some (.normal,T',H',u')=>(iresults J fn T' H').map fun _=>(H',u')
    |some (.ret,T',H',u')=>(iresults J fn T' H').map fun _=>(H',u')
    |_=>none
   else none
  |none=>none
 |none=>none
 else none
def idefers (J:Env) (okf:FuncId→Bool) (call:CallR) (k:Nat):Defs→RS→IH→Option (RS×IH)
 | [],u,H=>some (u,H)
 |d::D,u,H=>match icallD J okf call k d.1 d.2 u H with
  |some (H',u')=>idefers J okf call k D u'.settle H'
  |none=>none
def cellRegs (rs:List ResultVar):List Tmp:=rs.filterMap fun| .cell a _=>some a| .tmp _=>none
def allCells (rs:List ResultVar):Bool:=rs.all fun| .cell _ _=>true| .tmp _=>false
def iend (J:Env) (fn:Func) (T:Regs) (all:Bool) (r:Option (RS×IH)):Option (IE×IH):=
 match r with
 |some (.ret,H')=>if all then (iresults J fn T H').map fun v=>(.ret v,H') else none
 |some (.pan v,H')=>some (.pan v,H')
 |_=>none
def icallF (J:Env) (okf:FuncId→Bool) (call:CallR) (k:Nat) (fn:Func) (c:Code) (args:Array Value) (H:IH):Option (IE×IH):=
 match icodeD J call k (cellRegs fn.results.toList) c (regsOf args.toList 0 .leaf) H [] with
 |some (.normal,T',H',D)=>iend J fn T' true (idefers J okf call k D .ret H')
 |some (.ret,T',H',D)=>iend J fn T' true (idefers J okf call k D .ret H')
 |some (.pan v,T',H',D)=>iend J fn T' (allCells fn.results.toList) (idefers J okf call k D (.pan v) H')
 |_=>none
def icall (J:Env) (okf:FuncId→Bool):Nat→CallR
 |0,_,_,_=>none
 |k+1,f,args,H=>match J.hook f args.toList with
  |some v=>some (.ret v,H)
  |none=>if okf f then
   match J.fn f with
   |some fn=>match fn.body with
    |some c=>if args.size≤fn.ntmps then
      if J.dfr f then icallF J okf (icall J okf k) k fn c args H else
      match icode J (icall J okf k) k c (regsOf args.toList 0 .leaf) H with
      |some (.normal,T',H')=>(iresults J fn T' H').map fun v=>(.ret v,H')
      |some (.ret,T',H')=>(iresults J fn T' H').map fun v=>(.ret v,H')
      |some (.pan v,_,H')=>some (.pan v,H')
      |_=>none
     else none
    |none=>none
   |none=>none
  else none
section
variable {J:Env} {B:Bd}
theorem CodePost.trans {K:Nat→Prop} {ι ι1:Emb} {n n1:Nat} {w w1:World} {a a1:Act} {x:IX} {T':Regs} {H':IH} (h1:Ext ι n ι1 n1) (h2:Below B w w1) (h3:a1.defers=a.defers) (h4:a1.tmps.size=a.tmps.size) {e:Exit} {a':Act} {w':World}
  (h:CodePost J B K ι1 n1 w1 a1 x T' H' e a' w'):CodePost J B K ι n w a x T' H' e a' w':=by
 obtain ⟨ι2,v,q1,q2,q3,q4,q5,q6,q7⟩:=h
 exact ⟨ι2,v,q1,q2,h1.trans q3,h2.trans q4,q5.trans h3,q6.trans h4,q7⟩
theorem icode_wp {K:Nat→Prop} {call:CallR} (hm:J.P.follows .mixedOrders=true) (hcall:∀B,CallSound J B call):∀(k:Nat),
  (∀(c:Code) (ι:Emb) (H:IH) (w:World) (T:Regs) (a:Act) (x:IX) (T':Regs) (H':IH),Sim J B ι H w→RegsRel ι H.next T a.tmps→codeOk J a.tmps.size c=true→(∀t,K t→keepsC c t=true)→icode J call k c T H=some (x,T',H')→
   c.wp J.P (CodePost J B K ι H.next w a x T' H') a w)∧
  (∀(c:Code) (ι:Emb) (H:IH) (w:World) (T:Regs) (a:Act) (x:IX) (T':Regs) (H':IH),Sim J B ι H w→RegsRel ι H.next T a.tmps→codeOk J a.tmps.size c=true→(∀t,K t→keepsC c t=true)→icode J call k (.loop c) T H=some (x,T',H')→
   ∀(b:Frame) (kk:List Item) (cs:List Frame),∃e a' w',CodePost J B K ι H.next w a x T' H' e a' w'∧Arrives J.P (lone (b.at a (.code c::.inLoop c::kk)) cs w) b kk cs e a' w'):=by
 intro k
 induction k with
 |zero=>exact ⟨fun c ι H w T a x T' H' _ _ _ _ h=>by simp [icode] at h,fun c ι H w T a x T' H' _ _ _ _ h=>by simp [icode] at h⟩
 |succ k ih=>
  have hloop:∀(c:Code) (ι:Emb) (H:IH) (w:World) (T:Regs) (a:Act) (x:IX) (T':Regs) (H':IH),Sim J B ι H w→RegsRel ι H.next T a.tmps→codeOk J a.tmps.size c=true→(∀t,K t→keepsC c t=true)→icode J call (k+1) (.loop c) T H=some (x,T',H')→
   ∀(b:Frame) (kk:List Item) (cs:List Frame),∃e a' w',CodePost J B K ι H.next w a x T' H' e a' w'∧Arrives J.P (lone (b.at a (.code c::.inLoop c::kk)) cs w) b kk cs e a' w':=by
   intro c ι H w T a x T' H' hS hR hok hK h b kk cs
   simp only [icode] at h
   cases hb:icode J call k c T H with
   |none=>simp [hb] at h
   |some r=>
    obtain ⟨x1,T1,H1⟩:=r
    obtain ⟨e,a1,w1,⟨ι1,v,q1,q2,q3,q4,q5,q6,q7⟩,harr⟩:=ih.1 c ι H w T a x1 T1 H1 hS hR hok hK hb b (.inLoop c::kk) cs
    subst q1
    cases x1 with
    |normal=>
     simp only [hb] at h
     obtain ⟨e2,a2,w2,p1,p2⟩:=ih.2 c ι1 H1 w1 T1 a1 x T' H' q2 q7 (by rw [q6];exact hok) hK h b kk cs
     exact ⟨e2,a2,w2,p1.trans q3 q4 q5 q6,.of_steps (Steps.trans harr (.one step_inLoop)) p2⟩
    |exit id=>
     simp only [hb,Option.some.injEq,Prod.mk.injEq] at h
     obtain ⟨rfl,rfl,rfl⟩:=h
     exact ⟨_,a1,w1,⟨ι1,v,rfl,q2,q3,q4,q5,q6,q7⟩,.pass (x:=.inLoop c) rfl (fun _ _=>.inl (by simp [toExit])) harr⟩
    |ret=>
     simp only [hb,Option.some.injEq,Prod.mk.injEq] at h
     obtain ⟨rfl,rfl,rfl⟩:=h
     exact ⟨_,a1,w1,⟨ι1,v,rfl,q2,q3,q4,q5,q6,q7⟩,.pass (x:=.inLoop c) rfl (fun _ _=>.inl (by simp [toExit])) harr⟩
    |pan u=>
     simp only [hb,Option.some.injEq,Prod.mk.injEq] at h
     obtain ⟨rfl,rfl,rfl⟩:=h
     exact ⟨_,a1,w1,⟨ι1,v,rfl,q2,q3,q4,q5,q6,q7⟩,.pass (x:=.inLoop c) rfl (fun _ _=>.inl (by simp [toExit])) harr⟩
  refine ⟨fun c ι H w T a x T' H' hS hR hok hK h=>?_,hloop⟩
  cases c with
  |skip=>
   simp only [icode,Option.some.injEq,Prod.mk.injEq] at h
   obtain ⟨rfl,rfl,rfl⟩:=h
   exact wp_skip ⟨ι,undef,rfl,hS,Ext.refl _ _,Below.refl _ _,rfl,rfl,hR⟩
  |label l=>
   simp only [icode,Option.some.injEq,Prod.mk.injEq] at h
   obtain ⟨rfl,rfl,rfl⟩:=h
   exact wp_label ⟨ι,undef,rfl,hS,Ext.refl _ _,Below.refl _ _,rfl,rfl,hR⟩
  |region id ops draw=>
   simp only [icode] at h
   simp only [codeOk,Bool.and_eq_true] at hok
   obtain ⟨hok,hrok⟩:=hok
   cases draw with
   |true=>
    simp only [if_true] at h
    exact draw_wp (fun t ht o ho h3=>by
     have h1:=hK t ht
     simp only [keepsC,Array.all_eq_true'] at h1
     have h2:=h1 o ho
     rw [h3] at h2
     simp at h2) hcall hS hR (fun o ho=>Array.all_eq_true'.1 hok o ho) (by simpa using hrok) h id hm
   |false=>
    simp only [Bool.false_eq_true,if_false] at h
    exact wp_region_list (iops_wp (hcall _) ops ops.toList ι H w T a x T' H' hS hR (fun o ho=>Array.all_eq_true'.1 hok o (by simpa using ho)) h)
  |seq c1 c2=>
   simp only [codeOk,Bool.and_eq_true] at hok
   simp only [icode] at h
   cases hb:icode J call k c1 T H with
   |none=>simp [hb] at h
   |some r=>
    obtain ⟨x1,T1,H1⟩:=r
    refine wp_seq (Code.wp_mono ?_ (ih.1 c1 ι H w T a x1 T1 H1 hS hR hok.1 (fun t ht=>by have:=hK t ht;simp only [keepsC,Bool.and_eq_true] at this;exact this.1) hb))
    rintro e a1 w1 ⟨ι1,v,q1,q2,q3,q4,q5,q6,q7⟩
    subst q1
    cases x1 with
    |normal=>
     simp only [hb] at h
     exact Code.wp_mono (fun e a2 w2 p=>p.trans q3 q4 q5 q6) (ih.1 c2 ι1 H1 w1 T1 a1 x T' H' q2 q7 (by rw [q6];exact hok.2) (fun t ht=>by have:=hK t ht;simp only [keepsC,Bool.and_eq_true] at this;exact this.2) h)
    |exit id=>
     simp only [hb,Option.some.injEq,Prod.mk.injEq] at h
     obtain ⟨rfl,rfl,rfl⟩:=h
     exact ⟨ι1,v,rfl,q2,q3,q4,q5,q6,q7⟩
    |ret=>
     simp only [hb,Option.some.injEq,Prod.mk.injEq] at h
     obtain ⟨rfl,rfl,rfl⟩:=h
     exact ⟨ι1,v,rfl,q2,q3,q4,q5,q6,q7⟩
    |pan u=>
     simp only [hb,Option.some.injEq,Prod.mk.injEq] at h
     obtain ⟨rfl,rfl,rfl⟩:=h
     exact ⟨ι1,v,rfl,q2,q3,q4,q5,q6,q7⟩
  |cond c c1 c2=>
   simp only [codeOk,Bool.and_eq_true] at hok
   have hc:=operand_rel hS hR hok.1.1
   simp only [icode] at h
   split at h
   ·rename_i e
    rw [e] at hc
    have he:a.eval c=.bool true:=by cases hra:a.eval c<;>rw [hra] at hc<;>cases hc;rfl
    exact wp_cond_true he (ih.1 c1 ι H w T a x T' H' hS hR hok.1.2 (fun t ht=>by have:=hK t ht;simp only [keepsC,Bool.and_eq_true] at this;exact this.1) h)
   ·rename_i e
    rw [e] at hc
    have he:a.eval c=.bool false:=by cases hra:a.eval c<;>rw [hra] at hc<;>cases hc;rfl
    exact wp_cond_false he (ih.1 c2 ι H w T a x T' H' hS hR hok.2 (fun t ht=>by have:=hK t ht;simp only [keepsC,Bool.and_eq_true] at this;exact this.2) h)
   ·simp at h
  |block id c=>
   simp only [icode] at h
   simp only [codeOk] at hok
   cases hb:icode J call k c T H with
   |none=>simp [hb] at h
   |some r=>
    obtain ⟨x1,T1,H1⟩:=r
    refine wp_block (Code.wp_mono ?_ (ih.1 c ι H w T a x1 T1 H1 hS hR hok (fun t ht=>hK t ht) hb))
    rintro e a1 w1 ⟨ι1,v,q1,q2,q3,q4,q5,q6,q7⟩
    subst q1
    cases x1 with
    |exit id'=>
     simp only [hb] at h
     simp only [toExit,Exit.inBlock]
     split at h
     ·rename_i hid
      rw [if_pos hid]
      simp only [Option.some.injEq,Prod.mk.injEq] at h
      obtain ⟨rfl,rfl,rfl⟩:=h
      exact ⟨ι1,undef,rfl,q2,q3,q4,q5,q6,q7⟩
     ·rename_i hid
      rw [if_neg hid]
      simp only [Option.some.injEq,Prod.mk.injEq] at h
      obtain ⟨rfl,rfl,rfl⟩:=h
      exact ⟨ι1,v,rfl,q2,q3,q4,q5,q6,q7⟩
    |normal=>
     simp only [hb,Option.some.injEq,Prod.mk.injEq] at h
     obtain ⟨rfl,rfl,rfl⟩:=h
     exact ⟨ι1,v,rfl,q2,q3,q4,q5,q6,q7⟩
    |ret=>
     simp only [hb,Option.some.injEq,Prod.mk.injEq] at h
     obtain ⟨rfl,rfl,rfl⟩:=h
     exact ⟨ι1,v,rfl,q2,q3,q4,q5,q6,q7⟩
    |pan u=>
     simp only [hb,Option.some.injEq,Prod.mk.injEq] at h
     obtain ⟨rfl,rfl,rfl⟩:=h
     exact ⟨ι1,v,rfl,q2,q3,q4,q5,q6,q7⟩
  |loop c=>
   intro b kk cs
   obtain ⟨e,a',w',h1,h2⟩:=hloop c ι H w T a x T' H' hS hR hok (fun t ht=>hK t ht) h b kk cs
   exact ⟨e,a',w',h1,.of_steps (.one step_loop) h2⟩
  |exit id=>
   simp only [icode,Option.some.injEq,Prod.mk.injEq] at h
   obtain ⟨rfl,rfl,rfl⟩:=h
   exact wp_exit ⟨ι,undef,rfl,hS,Ext.refl _ _,Below.refl _ _,rfl,rfl,hR⟩
  |ret=>
   simp only [icode,Option.some.injEq,Prod.mk.injEq] at h
   obtain ⟨rfl,rfl,rfl⟩:=h
   exact wp_ret ⟨ι,undef,rfl,hS,Ext.refl _ _,Below.refl _ _,rfl,rfl,hR⟩
  |rangeFunc=>simp [icode] at h
  |scope c=>
   simp only [icode] at h
   simp only [codeOk] at hok
   refine wp_scope_straight (Code.wp_mono ?_ (ih.1 c ι H w T a x T' H' hS hR hok (fun t ht=>hK t ht) h))
   rintro e a1 w1 ⟨ι1,v,q1,q⟩
   subst q1
   cases x<;>exact ⟨ι1,v,rfl,q⟩
  |goto=>simp [icode] at h
  |refuse=>simp [icode] at h
theorem regsOf_at:∀(l:List Value) (i:Nat) (T:Regs) (t:Nat),(regsOf l i T).at t=if i≤t then (match l[t-i]? with|some v=>v|none=>T.at t) else T.at t:=by
 intro l
 induction l with
 |nil=>intro i T t;simp [regsOf]
 |cons v l ih=>
  intro i T t
  simp only [regsOf]
  rw [ih,at_set]
  by_cases h1:i+1≤t
  ·rw [if_pos h1,if_pos (show i≤t by omega),if_neg (show ¬t=i by omega)]
   rw [show t-i=(t-(i+1))+1 by omega,List.getElem?_cons_succ]
  ·rw [if_neg h1]
   by_cases h2:t=i
   ·subst h2;simp
   ·rw [if_neg h2,if_neg (by omega)]
theorem regsOf_rel {ι:Emb} {n N:Nat} {args args':Array Value} (h:LRel ι n args.toList args'.toList):RegsRel ι n (regsOf args.toList 0 .leaf) (args'++Array.replicate (N-args'.size) undef):=by
 intro t
 rw [regsOf_at]
 simp only [Nat.zero_le,if_true,Nat.sub_zero]
 cases hx:args.toList[t]? with
 |some v=>
  obtain ⟨y,hy,hr⟩:=h.get hx
  have hlt:=(List.getElem?_eq_some_iff.1 hy).1
  simp at hlt
  have:(args'++Array.replicate (N-args'.size) undef).getD t undef=y:=by
   rw [Array.getD_eq_getD_getElem?,Array.getElem?_append_left hlt,←Array.getElem?_toList,hy];rfl
  rw [this];exact hr
 |none=>
  have hge:args'.size≤t:=by
   have:=List.getElem?_eq_none_iff.1 hx
   have:=h.1
   simp at *;omega
  have:(args'++Array.replicate (N-args'.size) undef).getD t undef=undef:=by
   rw [Array.getD_eq_getD_getElem?,Array.getElem?_append_right hge,Array.getElem?_replicate]
   split<;>rfl
  rw [this];exact VRel.undef
def rreg:ResultVar→Tmp
 | .tmp t=>t
 | .cell a _=>a
theorem results_list {ι:Emb} {H:IH} {w:World} {T:Regs} {tmps:Array Value} (hS:Sim J B ι H w) (g:ResultVar→Sem Value)
  (hg1:∀t,g (.tmp t)=pure (tmps.getD t undef)) (hg2:∀a t,g (.cell a t)=do loadVar t (←asAddr (tmps.getD a undef))):∀(l:List ResultVar) (vs:List Value),(∀r∈l,VRel ι H.next (T.at (rreg r)) (tmps.getD (rreg r) undef))→l.mapM (iresult1 J T H)=some vs→
  ∃us,(l.mapM g).run J.P w=.ok us w∧LRel ι H.next vs us:=by
 intro l
 induction l with
 |nil=>intro vs _ h;simp at h;subst h;exact ⟨[],rfl,.nil⟩
 |cons r l ih=>
  intro vs hR h
  rw [List.mapM_cons] at h ⊢
  cases e:iresult1 J T H r with
  |none=>simp [e] at h
  |some v=>
   cases e2:l.mapM (iresult1 J T H) with
   |none=>simp [e,e2] at h
   |some vs2=>
    simp [e,e2] at h
    subst h
    obtain ⟨us,h1,h2⟩:=ih vs2 (fun r hr=>hR r (by simp [hr])) e2
    have one:∃u,(g r).run J.P w=.ok u w∧VRel ι H.next v u:=by
     cases r with
     |tmp t=>
      simp only [iresult1,Option.some.injEq] at e
      subst e
      exact ⟨_,by rw [hg1];rfl,hR (.tmp t) (by simp)⟩
     |cell a t=>
      simp only [iresult1] at e
      split at e
      ·rename_i ad had
       have hr:=hR _ (List.mem_cons_self)
       simp only [rreg] at hr
       rw [had] at hr
       cases hra:tmps.getD a undef<;>rw [hra] at hr<;>cases hr
       rename_i hA
       obtain ⟨v',h3,h4⟩:=iload_run hS hA e
       refine ⟨v',?_,h4⟩
       rw [hg2,hra]
       rw [run_bind_ok (show (asAddr (.pointer (some _))).run J.P w=.ok _ w from rfl)]
       exact h3
      ·simp at e
    obtain ⟨u,h3,h4⟩:=one
    exact ⟨u::us,by rw [run_bind_ok h3,run_bind_ok h1];rfl,.cons h4 h2⟩
theorem results_run' {ι:Emb} {H:IH} {w:World} {T:Regs} {tmps:Array Value} {fn:Func} {v:Value} (hS:Sim J B ι H w) (hR:∀r∈fn.results.toList,VRel ι H.next (T.at (rreg r)) (tmps.getD (rreg r) undef)) (h:iresults J fn T H=some v):
  ∃v',(results fn tmps).run J.P w=.ok v' w∧VRel ι H.next v v':=by
 unfold iresults at h
 unfold results
 rw [Array.mapM_eq_mapM_toList]
 split at h
 ·rename_i u hu
  cases h
  obtain ⟨us,h1,h2⟩:=results_list hS (fun r=>match r with| .tmp t=>pure (tmps.getD t undef)| .cell a t=>do loadVar t (←asAddr (tmps.getD a undef))) (fun t=>rfl) (fun a t=>rfl) _ _ hR hu
  have hl:us.length=1:=by have:=h2.1;simpa using this.symm
  match us,hl with
  | [y],_=>
   refine ⟨y,?_,h2.2 0 _ y rfl rfl⟩
   exact (run_bind_ok (run_map h1)).trans rfl
 ·rename_i vs hne hvs
  cases h
  obtain ⟨us,h1,h2⟩:=results_list hS (fun r=>match r with| .tmp t=>pure (tmps.getD t undef)| .cell a t=>do loadVar t (←asAddr (tmps.getD a undef))) (fun t=>rfl) (fun a t=>rfl) _ _ hR hvs
  refine ⟨.tuple us.toArray,?_,.tuple (by simpa using h2.1) fun i x y hx hy=>h2.2 i x y (by simpa using hx) (by simpa using hy)⟩
  refine (run_bind_ok (run_map h1)).trans ?_
  have hl:us.toArray.size≠1:=by
   intro e
   have hl2:vs.length=1:=by have:=h2.1;simp at e;omega
   match vs,hl2 with
   | [y],_=>exact hne y rfl
  rw [dif_neg hl];rfl
 ·simp at h
theorem results_run {ι:Emb} {H:IH} {w:World} {T:Regs} {tmps:Array Value} {fn:Func} {v:Value} (hS:Sim J B ι H w) (hR:RegsRel ι H.next T tmps) (h:iresults J fn T H=some v):
  ∃v',(results fn tmps).run J.P w=.ok v' w∧VRel ι H.next v v':=results_run' hS (fun _ _=>hR _) h
/-! ### Deferred calls: what they come to -/
inductive URel (ι:Emb) (n:Nat):RS→FrameMode→Prop
 |ret:URel ι n .ret .returning
 |pan {v v':Value} (h:VRel ι n v v'):URel ι n (.pan v) (.panicking [{ v:=v',recovered:=false }])
 |reco {v v':Value} (h:VRel ι n v v'):URel ι n (.reco v) (.panicking [{ v:=v',recovered:=true }])
theorem URel.ext {ι ι':Emb} {n n':Nat} (he:Ext ι n ι' n') {u:RS} {m:FrameMode} (h:URel ι n u m):URel ι' n' u m:=by
 cases h with
 |ret=>exact .ret
 |pan h=>exact .pan (h.ext he)
 |reco h=>exact .reco (h.ext he)
theorem URel.settle {ι:Emb} {n:Nat} {u:RS} {m:FrameMode} (h:URel ι n u m):URel ι n u.settle (Go.settle m):=by
 cases h with
 |ret=>exact .ret
 |pan h=>exact .pan h
 |reco h=>exact .ret
theorem URel.run {ι:Emb} {n:Nat} {u:RS} {m:FrameMode} (h:URel ι n u m):m≠.run:=by
 cases h<;>intro e<;>cases e
def SPost (J:Env) (B:Bd) (ι:Emb) (n:Nat) (w:World) (a:Act) (c₀:Frame) (rest:List Frame) (x:IX) (T':Regs) (H':IH) (u':RS) (e:Exit) (a':Act) (cs':List Frame) (w':World):Prop:=
 ∃ι' m',e=toExit x undef∧(∀v,x≠.pan v)∧Sim J B ι' H' w'∧Ext ι n ι' H'.next∧Below B w w'∧a'.defers=a.defers∧a'.tmps.size=a.tmps.size∧RegsRel ι' H'.next T' a'.tmps∧cs'= { c₀ with mode:=m' }::rest∧URel ι' H'.next u' m'
theorem SPost.trans {ι ι1:Emb} {n n1:Nat} {w w1:World} {a a1:Act} {c₀:Frame} {m1:FrameMode} {rest:List Frame} {x:IX} {T':Regs} {H':IH} {u':RS} (h1:Ext ι n ι1 n1) (h2:Below B w w1) (h3:a1.defers=a.defers) (h4:a1.tmps.size=a.tmps.size) {e:Exit} {a':Act} {cs':List Frame} {w':World}
  (h:SPost J B ι1 n1 w1 a1 { c₀ with mode:=m1 } rest x T' H' u' e a' cs' w'):SPost J B ι n w a c₀ rest x T' H' u' e a' cs' w':=by
 obtain ⟨ι2,m,q0,q1,q2,q3,q4,q5,q6,q7,q8,q9⟩:=h
 exact ⟨ι2,m,q0,q1,q2,h1.trans q3,h2.trans q4,q5.trans h3,q6.trans h4,q7,q8,q9⟩
theorem wpS_mono {P:Program} {c:Code} {Q Q':Exit→Act→List Frame→World→Prop} {a:Act} {cs:List Frame} {w:World} (hq:∀e a cs w,Q e a cs w→Q' e a cs w) (h:c.wpS P Q a cs w):c.wpS P Q' a cs w:=
 fun b k h1 h2=>let ⟨e,a',cs',w',q,r⟩:=h b k h1 h2;⟨e,a',cs',w',hq _ _ _ _ q,r⟩
theorem recover_run {P:Program} {ρ:Operand→Value} {o:Oper} (h:isRecover o=true) (w:World):(execOp ρ o).run P w=.ok .recover w:=by
 obtain ⟨dst,op,type,pos,after,guard⟩:=o
 cases op<;>simp only [isRecover] at h<;>try (cases h;done)
 rename_i c
 obtain ⟨callee,args,at_⟩:=c
 cases callee<;>try (simp at h;done)
 rename_i b
 cases b<;>first|rfl|(simp at h;done)
theorem upon_mono {J:Env} {o:Oper} {a:Act} {K K':Act→World→Prop} {Q Q':Exit→Act→World→Prop} (h:∀a w,K a w→K' a w) (hq:∀e a w,Q e a w→Q' e a w) {r:Result Next}
  (hh:o.upon J.P a K Q r):o.upon J.P a K' Q' r:=by
 cases r with
 |ok n w'=>
  cases n<;>simp only [Oper.upon] at hh ⊢ <;>
   first
    |exact h _ _ hh
    |exact Calls.mono hh (fun e w'' he=>by cases e<;>first|exact h _ _ he|exact hq _ _ _ he|exact (let ⟨a0,w0,q⟩:=he;⟨a0,w0,hq _ _ _ q⟩))
    |exact Rows.mono hh (fun _ _ he=>h _ _ he)
 |halt x w'=>cases x<;>simp only [Oper.upon] at hh ⊢ <;>first|exact hq _ _ _ hh|exact hh
theorem wpOpsS_mono {J:Env} {ops:Array Oper} {Q Q':Exit→Act→List Frame→World→Prop} (hq:∀e a cs w,Q e a cs w→Q' e a cs w):∀(l:List Nat) (a:Act) (cs:List Frame) (w:World),wpOpsS J.P ops Q l a cs w→wpOpsS J.P ops Q' l a cs w:=by
 intro l
 induction l with
 |nil=>intro a cs w h;exact hq _ _ _ _ h
 |cons i l ih=>
  intro a cs w h
  simp only [wpOpsS] at h ⊢
  split
  ·rename_i e;rw [e] at h;exact ih _ _ _ h
  ·rename_i o e
   rw [e] at h
   dsimp only at h
   split
   ·rename_i hw
    rw [if_pos hw] at h
    split
    ·rename_i w' hr
     rw [hr] at h
     dsimp only at h
     split
     ·rename_i hrec;rw [hrec] at h;exact ih _ _ _ h
     ·rename_i hrec;rw [hrec] at h;exact ih _ _ _ h
    ·rename_i hne
     split at h
     ·rename_i w' hr;exact absurd hr (hne w')
     ·exact upon_mono (fun a w=>ih a cs w) (fun e a w=>hq e a cs w) h
   ·rename_i hw
    rw [if_neg hw] at h
    exact ih _ _ _ h
theorem iopsS_wp {call:CallR} (hcall:∀B,CallSound J B call) (ops:Array Oper):∀(l:List Oper) (k0:Nat) (ι:Emb) (H:IH) (w:World) (T:Regs) (a:Act) (u:RS) (c₀:Frame) (rest:List Frame) (x:IX) (T':Regs) (H':IH) (u':RS),
  (∀j,l[j]?=ops[k0+j]?)→Sim J B ι H w→RegsRel ι H.next T a.tmps→URel ι H.next u c₀.mode→(∀o∈l,opOk J a.tmps.size o=true)→iopsS J call ops l T H u=some (x,T',H',u')→
  wpOpsS J.P ops (SPost J B ι H.next w a c₀ rest x T' H' u') (List.range' k0 l.length) a (c₀::rest) w:=by
 intro l
 induction l with
 |nil=>
  intro k0 ι H w T a u c₀ rest x T' H' u' _ hS hR hU _ h
  simp only [iopsS,Option.some.injEq,Prod.mk.injEq] at h
  obtain ⟨rfl,rfl,rfl,rfl⟩:=h
  exact ⟨ι,c₀.mode,rfl,(fun v hv=>by cases hv),hS,Ext.refl _ _,Below.refl _ _,rfl,rfl,hR,rfl,hU⟩
 |cons o l ih=>
  intro k0 ι H w T a u c₀ rest x T' H' u' hl hS hR hU hok h
  have ho0:ops[k0]?=some o:=by simpa using (hl 0).symm
  have hl':∀j,l[j]?=ops[k0+1+j]?:=fun j=>by have:=hl (j+1);simpa [Nat.add_assoc,Nat.add_comm 1 j] using this
  have ho:=hok o (by simp)
  have hok':∀o'∈l,opOk J a.tmps.size o'=true:=fun o' ho'=>hok o' (by simp [ho'])
  have hd:=dst_lt ho
  rw [List.length_cons,List.range'_succ]
  simp only [wpOpsS,ho0]
  rw [wanted_eq hR ops o]
  simp only [iopsS] at h
  have step:∀(v v':Value) (ι1:Emb) (H1:IH) (w1:World) (u1:RS) (m1:FrameMode),Sim J B ι1 H1 w1→VRel ι1 H1.next v v'→Ext ι H.next ι1 H1.next→Below B w w1→URel ι1 H1.next u1 m1→iopsS J call ops l (putR T o.dst v) H1 u1=some (x,T',H',u')→
    wpOpsS J.P ops (SPost J B ι H.next w a c₀ rest x T' H' u') (List.range' (k0+1) l.length) (a.put o.dst v') ({ c₀ with mode:=m1 }::rest) w1:=by
   intro v v' ι1 H1 w1 u1 m1 s1 s2 s3 s4 s5 s6
   have:=ih (k0+1) ι1 H1 w1 (putR T o.dst v) (a.put o.dst v') u1 { c₀ with mode:=m1 } rest x T' H' u' hl' s1 ((hR.ext s3).put s2 hd) s5 (fun o' ho'=>by rw [put_size];exact hok' o' ho') s6
   exact wpOpsS_mono (fun e a2 cs2 w2 p=>p.trans s3 s4 (put_defers _ _ _) (put_size _ _ _)) _ _ _ _ this
  have self:∀m,m=c₀.mode→({ c₀ with mode:=m }:Frame)=c₀:=fun m hm=>by subst hm;rfl
  by_cases hw:wantedR ops T o=true
  ·rw [if_pos hw]
   rw [if_pos hw] at h
   by_cases hrec:isRecover o=true
   ·rw [if_pos hrec] at h
    rw [recover_run hrec w]
    dsimp only
    generalize hm:c₀.mode=m at hU
    have hnil:∀u1,URel ι H.next u1 m→recoverD (c₀::rest)=none→iopsS J call ops l (putR T o.dst .nilIface) H u1=some (x,T',H',u')→
      (match recoverD (c₀::rest) with
       |some (v,cs')=>wpOpsS J.P ops (SPost J B ι H.next w a c₀ rest x T' H' u') (List.range' (k0+1) l.length) (a.put o.dst v) cs' w
       |none=>wpOpsS J.P ops (SPost J B ι H.next w a c₀ rest x T' H' u') (List.range' (k0+1) l.length) (a.put o.dst .nilIface) (c₀::rest) w):=fun u1 h1 h2 h3=>by
     rw [h2]
     have:=step .nilIface .nilIface ι H w u1 m hS .nilIface (Ext.refl _ _) (Below.refl _ _) h1 h3
     rw [self m hm.symm] at this
     exact this
    cases hU with
    |ret=>exact hnil .ret .ret (by simp only [recoverD,hm]) h
    |reco hv=>exact hnil _ (.reco hv) (by simp only [recoverD,hm]) h
    |pan hv=>
     rename_i v v'
     have h2:recoverD (c₀::rest)=some (v',{ c₀ with mode:=.panicking [{ v:=v',recovered:=true }] }::rest):=by simp only [recoverD,hm]
     rw [h2]
     exact step v v' ι H w (.reco v) _ hS hv (Ext.refl _ _) (Below.refl _ _) (.reco hv) h
   ·rw [if_neg hrec] at h
    split at h
    ·rename_i v H1 he
     have hop:o.wp J.P a w (fun a' w'=>wpOpsS J.P ops (SPost J B ι H.next w a c₀ rest x T' H' u') (List.range' (k0+1) l.length) a' (c₀::rest) w') (fun e a' w'=>SPost J B ι H.next w a c₀ rest x T' H' u' e a' (c₀::rest) w'):=by
      refine exec_wp (hcall _) hS (operands_rel hS hR ho) he (fun v0 v' ι1 w1 e s1 s2 s3 s4=>?_) (fun v0 v' ι1 w1 e s1 s2 s3 s4=>by cases e)
      cases e
      have:=step v v' ι1 H1 w1 u c₀.mode s1 s2 s3 s4 (hU.ext s3) h
      rw [self _ rfl] at this
      exact this
     unfold Oper.wp at hop
     split
     ·rename_i w' hr;rw [hr] at hop;exact hop.elim
     ·exact hop
    ·simp at h
  ·rw [if_neg hw]
   rw [if_neg hw] at h
   have:=step undef undef ι H w u c₀.mode hS VRel.undef (Ext.refl _ _) (Below.refl _ _) hU h
   rw [self _ rfl] at this
   exact this
theorem icodeS_wp {call:CallR} (hm:J.P.follows .mixedOrders=true) (hcall:∀B,CallSound J B call) (k:Nat):∀(c:Code) (ι:Emb) (H:IH) (w:World) (T:Regs) (a:Act) (u:RS) (c₀:Frame) (rest:List Frame) (x:IX) (T':Regs) (H':IH) (u':RS),
  Sim J B ι H w→RegsRel ι H.next T a.tmps→URel ι H.next u c₀.mode→codeOk J a.tmps.size c=true→icodeS J call k c T H u=some (x,T',H',u')→c.wpS J.P (SPost J B ι H.next w a c₀ rest x T' H' u') a (c₀::rest) w:=by
 have plain:∀(c:Code) (ι:Emb) (H:IH) (w:World) (T:Regs) (a:Act) (u:RS) (c₀:Frame) (rest:List Frame) (x:IX) (T':Regs) (H':IH) (u':RS),
   Sim J B ι H w→RegsRel ι H.next T a.tmps→URel ι H.next u c₀.mode→codeOk J a.tmps.size c=true→
   (match icode J call k c T H with
    |some (.pan _,_,_)=>none
    |some (x,T',H')=>some (x,T',H',u)
    |none=>none)=some (x,T',H',u')→c.wpS J.P (SPost J B ι H.next w a c₀ rest x T' H' u') a (c₀::rest) w:=by
  intro c ι H w T a u c₀ rest x T' H' u' hS hR hU hok h
  refine wpS_of_wp ?_
  cases he:icode J call k c T H with
  |none=>rw [he] at h;cases h
  |some r=>
   obtain ⟨x1,T1,H1⟩:=r
   rw [he] at h
   have hx:x1=x∧T1=T'∧H1=H'∧u=u'∧∀v,x1≠.pan v:=by
    cases x1<;>simp at h ⊢ <;>exact h
   obtain ⟨rfl,rfl,rfl,rfl,hx⟩:=hx
   refine Code.wp_mono ?_ ((icode_wp (K:=fun _=>False) hm hcall k).1 c ι H w T a x1 T1 H1 hS hR hok (fun _ h=>h.elim) he)
   rintro e a' w' ⟨ι',v,q1,q2,q3,q4,q5,q6,q7⟩
   have hR':RegsRel ι' H1.next T1 a'.tmps:=by cases x1<;>first|exact q7|exact absurd rfl (hx _)
   have he':e=toExit x1 undef:=by rw [q1];cases x1<;>first|rfl|exact absurd rfl (hx _)
   exact ⟨ι',c₀.mode,he',hx,q2,q3,q4,q5,q6,hR',rfl,hU.ext q3⟩
 intro c
 induction c with
 |seq c1 c2 ih1 ih2=>
  intro ι H w T a u c₀ rest x T' H' u' hS hR hU hok h
  simp only [codeOk,Bool.and_eq_true] at hok
  simp only [icodeS] at h
  cases hb:icodeS J call k c1 T H u with
  |none=>simp [hb] at h
  |some r=>
   obtain ⟨x1,T1,H1,u1⟩:=r
   refine wpS_seq (wpS_mono ?_ (ih1 ι H w T a u c₀ rest x1 T1 H1 u1 hS hR hU hok.1 hb))
   rintro e a1 cs1 w1 ⟨ι1,m1,q1,q0,q2,q3,q4,q5,q6,q7,q8,q9⟩
   subst q1
   subst q8
   have stop:x1≠.normal→x1=x∧T1=T'∧H1=H'∧u1=u':=fun hx=>by
    rw [hb] at h
    cases x1<;>simp at h hx ⊢ <;>exact h
   cases x1 with
   |normal=>
    simp only [hb] at h
    exact wpS_mono (fun e a2 cs2 w2 p=>p.trans q3 q4 q5 q6) (ih2 ι1 H1 w1 T1 a1 u1 { c₀ with mode:=m1 } rest x T' H' u' q2 q7 q9 (by rw [q6];exact hok.2) h)
   |exit id=>
    obtain ⟨rfl,rfl,rfl,rfl⟩:=stop (by simp)
    exact ⟨ι1,m1,rfl,q0,q2,q3,q4,q5,q6,q7,rfl,q9⟩
   |ret=>
    obtain ⟨rfl,rfl,rfl,rfl⟩:=stop (by simp)
    exact ⟨ι1,m1,rfl,q0,q2,q3,q4,q5,q6,q7,rfl,q9⟩
   |pan v=>exact absurd rfl (q0 v)
 |region id ops draw=>
  intro ι H w T a u c₀ rest x T' H' u' hS hR hU hok h
  cases draw with
  |true=>exact plain _ ι H w T a u c₀ rest x T' H' u' hS hR hU hok (by simpa only [icodeS] using h)
  |false=>
   simp only [icodeS] at h
   simp only [codeOk,Bool.and_eq_true] at hok
   refine wpS_region ?_
   rw [List.range_eq_range',←Array.length_toList]
   exact iopsS_wp hcall ops ops.toList 0 ι H w T a u c₀ rest x T' H' u' (fun j=>by simp) hS hR hU (fun o ho=>Array.all_eq_true'.1 hok.1 o (by simpa using ho)) h
 |_=>
  intro ι H w T a u c₀ rest x T' H' u' hS hR hU hok h
  exact plain _ ι H w T a u c₀ rest x T' H' u' hS hR hU hok (by simpa only [icodeS] using h)
def DfRel (ι:Emb) (n:Nat) (d:FuncId×List Value) (d':Deferred):Prop:=
 ∃captured args:Array Value,d'= { target:=.fn (.func d.1) captured,args:=args }∧LRel ι n d.2 (args++captured).toList
inductive DRel (J:Env) (ι:Emb) (n:Nat):Defs→List Deferred→Prop
 |nil:DRel J ι n [] []
 |cons {d:FuncId×List Value} {d':Deferred} {D:Defs} {ds:List Deferred}:hasBody J d.1=true→DfRel ι n d d'→DRel J ι n D ds→DRel J ι n (d::D) (d'::ds)
theorem DRel.ext {ι ι':Emb} {n n':Nat} (he:Ext ι n ι' n') {D:Defs} {ds:List Deferred} (h:DRel J ι n D ds):DRel J ι' n' D ds:=by
 induction h with
 |nil=>exact .nil
 |cons hb h _ ih=>
  obtain ⟨cap,args,h1,h2⟩:=h
  exact .cons hb ⟨cap,args,h1,h2.ext he⟩ ih
theorem invoke_enter {g:FuncId} (hb:hasBody J g=true) (cap args:Array Value) (w:World):(invoke (.fn (.func g) cap) args).run J.P w=.ok (.enter g (args++cap)) w:=by
 unfold hasBody at hb
 split at hb
 ·rename_i fn hfn
  obtain ⟨h1,h2⟩:=J.fn_ok g fn hfn
  unfold invoke
  dsimp only
  unfold callFunc
  refine (run_bind_ok (show (program).run J.P w=.ok J.P w from rfl)).trans ?_
  simp only [h1,h2,Bool.false_eq_true,if_false]
  have:fn.body.isNone=false:=by cases hx:fn.body<;>simp_all
  rw [this]
  rfl
 ·cases hb
theorem icallD_sound (hm:J.P.follows .mixedOrders=true) {okf:FuncId→Bool} (hok:∀f fn c,okf f=true→J.fn f=some fn→fn.body=some c→codeOk J fn.ntmps c=true) {call:CallR} (hcall:∀B,CallSound J B call) (k:Nat) {g:FuncId} {args:List Value} {args':Array Value} {u u':RS} {H H':IH} {ι:Emb} {w:World} {m:FrameMode}
  (hS:Sim J B ι H w) (hA:LRel ι H.next args args'.toList) (hU:URel ι H.next u m) (h:icallD J okf call k g args u H=some (H',u')):
  CallsD J.P g args' m w fun e m' w'=>∃v' ι',e=.returned v'∧Sim J B ι' H' w'∧Ext ι H.next ι' H'.next∧Below B w w'∧URel ι' H'.next u' m':=by
 unfold icallD at h
 split at h
 case isFalse=>simp at h
 rename_i hf
 split at h
 case h_2=>simp at h
 rename_i fn hfn
 split at h
 case h_2=>simp at h
 rename_i c hc
 split at h
 case isFalse=>simp at h
 rename_i hsz
 have hsz':args'.size≤fn.ntmps:=by have:=hA.1;simp at this;omega
 have hts:(args'++Array.replicate (fn.ntmps-args'.size) undef).size=fn.ntmps:=by simp;omega
 refine callsD_of_wpS (J.fn_ok g fn hfn).1 hc fun c₀ cs hc₀=>?_
 have hR:RegsRel ι H.next (regsOf args 0 .leaf) (args'++Array.replicate (fn.ntmps-args'.size) undef):=regsOf_rel (args:=args.toArray) (by simpa using hA)
 have key:∀(x:IX) (T':Regs) (H1:IH) (u1:RS),(x=.normal∨x=.ret)→icodeS J call k c (regsOf args 0 .leaf) H u=some (x,T',H1,u1)→(iresults J fn T' H1).map (fun _=>(H1,u1))=some (H',u')→
   c.wpS J.P (bodyPostS J.P fn c₀ cs fun e m' w'=>∃v' ι',e=.returned v'∧Sim J B ι' H' w'∧Ext ι H.next ι' H'.next∧Below B w w'∧URel ι' H'.next u' m') { tmps:=args'++Array.replicate (fn.ntmps-args'.size) undef,defers:=[] } (c₀::cs) w:=by
  intro x T' H1 u1 hx1 hx2 hx3
  cases hv:iresults J fn T' H1 with
  |none=>simp [hv] at hx3
  |some v=>
   simp only [hv,Option.map_some,Option.some.injEq,Prod.mk.injEq] at hx3
   obtain ⟨rfl,rfl⟩:=hx3
   refine wpS_mono ?_ (icodeS_wp hm hcall k c ι H w _ { tmps:=args'++Array.replicate (fn.ntmps-args'.size) undef,defers:=[] } u c₀ cs x T' H1 u1 hS hR (by rw [hc₀];exact hU) (by rw [hts];exact hok g fn c hf hfn hc) hx2)
   rintro e a' cs' w' ⟨ι',m',q1,q0,q2,q3,q4,q5,q6,q7,q8,q9⟩
   obtain ⟨v',r1,r2⟩:=results_run q2 q7 hv
   subst q1
   rcases hx1 with rfl|rfl
   ·exact ⟨q5,m',q8,v',r1,v',ι',rfl,q2,q3,q4,q9⟩
   ·exact ⟨q5,m',q8,v',r1,v',ι',rfl,q2,q3,q4,q9⟩
 split at h
 ·rename_i T' H1 u1 hx;exact key _ _ _ _ (.inl rfl) hx h
 ·rename_i T' H1 u1 hx;exact key _ _ _ _ (.inr rfl) hx h
 ·simp at h
theorem idefers_sound (hm:J.P.follows .mixedOrders=true) {okf:FuncId→Bool} (hok:∀f fn c,okf f=true→J.fn f=some fn→fn.body=some c→codeOk J fn.ntmps c=true) {call:CallR} (hcall:∀B,CallSound J B call) (k:Nat) {fn:Func} {tmps:Array Value} {R:Ending→World→Prop} {w0:World} {ι0:Emb} {n0:Nat}:
  ∀(D:Defs) (ds:List Deferred) (ι:Emb) (u:RS) (m:FrameMode) (H:IH) (w:World) (u':RS) (H':IH),DRel J ι H.next D ds→Sim J B ι H w→Ext ι0 n0 ι H.next→Below B w0 w→URel ι H.next u m→idefers J okf call k D u H=some (u',H')→
   (∀ι' m' w',Sim J B ι' H' w'→Ext ι0 n0 ι' H'.next→Ext ι H.next ι' H'.next→Below B w0 w'→URel ι' H'.next u' m'→Leaves J.P fn tmps R [] m' w')→Leaves J.P fn tmps R ds m w:=by
 intro D
 induction D with
 |nil=>
  intro ds ι u m H w u' H' hD hS hE hB hU h hfin
  cases hD
  simp only [idefers,Option.some.injEq,Prod.mk.injEq] at h
  obtain ⟨rfl,rfl⟩:=h
  exact hfin ι m w hS hE (Ext.refl _ _) hB hU
 |cons d D ih=>
  intro ds ι u m H w u' H' hD hS hE hB hU h hfin
  cases hD with
  |cons hb hd hD'=>
   obtain ⟨cap,args,rfl,hA⟩:=hd
   simp only [idefers] at h
   split at h
   ·rename_i H1 u1 h1
    refine leaves_cons hU.run (invoke_enter hb cap args w) ((icallD_sound hm hok hcall k hS hA hU h1).mono fun e m1 w1 hp=>?_)
    obtain ⟨v',ι1,rfl,q2,q3,q4,q5⟩:=hp
    exact ih _ ι1 u1.settle (Go.settle m1) H1 w1 u' H' (hD'.ext q3) q2 (hE.trans q3) (hB.trans q4) q5.settle h fun ι' m' w' r1 r2 r3 r4 r5=>hfin ι' m' w' r1 r2 (q3.trans r3) r4 r5
   ·simp at h
def DPost (J:Env) (B:Bd) (Ks:List Tmp) (ι:Emb) (n:Nat) (w:World) (a:Act) (x:IX) (T':Regs) (H':IH) (D':Defs) (e:Exit) (a':Act) (w':World):Prop:=
 ∃ι' v',e=toExit x v'∧Sim J B ι' H' w'∧Ext ι n ι' H'.next∧Below B w w'∧DRel J ι' H'.next D' a'.defers∧a'.tmps.size=a.tmps.size∧match x with
  | .pan v=>VRel ι' H'.next v v'∧∀t∈Ks,VRel ι' H'.next (T'.at t) (a'.tmps.getD t undef)
  |_=>RegsRel ι' H'.next T' a'.tmps
theorem DPost.trans {Ks:List Tmp} {ι ι1:Emb} {n n1:Nat} {w w1:World} {a a1:Act} {x:IX} {T':Regs} {H':IH} {D':Defs} (h1:Ext ι n ι1 n1) (h2:Below B w w1) (h4:a1.tmps.size=a.tmps.size) {e:Exit} {a':Act} {w':World}
  (h:DPost J B Ks ι1 n1 w1 a1 x T' H' D' e a' w'):DPost J B Ks ι n w a x T' H' D' e a' w':=by
 obtain ⟨ι2,v,q1,q2,q3,q4,q5,q6,q7⟩:=h
 exact ⟨ι2,v,q1,q2,h1.trans q3,h2.trans q4,q5,q6.trans h4,q7⟩
theorem defer_run {T:Regs} {a:Act} {o:Oper} {ι:Emb} {n:Nat} (hρ:∀x∈o.op.operands,VRel ι n (iev T x) (a.eval x)) (hd:isDefer o=true) {d:FuncId×List Value} (h:deferR T o=some d) (w:World):
  ∃d',(execOp a.eval o).run J.P w=.ok (.defer d') w∧DfRel ι n d d':=by
 obtain ⟨dst,op,type,pos,after,guard⟩:=o
 cases op<;>simp only [isDefer] at hd<;>try (cases hd;done)
 rename_i c
 obtain ⟨callee,args,at_⟩:=c
 simp only [deferR] at h
 cases callee<;>try (simp at h;done)
 rename_i f
 simp only at h
 have hf:=hρ f (by simp [Op.operands,Call.operands])
 have hargs:LRel ι n (args.map (iev T)).toList (args.map a.eval).toList:=by
  refine ⟨by simp,fun i x y hx hy=>?_⟩
  simp only [Array.toList_map,List.getElem?_map] at hx hy
  cases hz:args.toList[i]? with
  |none=>rw [hz] at hx;cases hx
  |some z=>
   rw [hz] at hx hy
   cases hx;cases hy
   have hmem:z∈args:=by simpa using List.mem_of_getElem? hz
   exact hρ z (by simp [Op.operands,Call.operands,hmem])
 split at h
 ·rename_i g first cap hv
  cases h
  rw [hv] at hf
  generalize hra:a.eval f=y at hf
  cases hf with
  |func _ h1 h2 h3 h4=>
   rename_i first' cap'
   refine ⟨{ target:=.fn (.func g) cap',args:=first'++args.map a.eval },?_,cap',_,rfl,?_⟩
   ·simp only [execOp,resolve,hra,Deferred.ofValue]
    rfl
   ·have e1:LRel ι n first.toList first'.toList:=⟨by simpa using h1,fun i x y hx hy=>h2 i x y (by simpa using hx) (by simpa using hy)⟩
    have e2:LRel ι n cap.toList cap'.toList:=⟨by simpa using h3,fun i x y hx hy=>h4 i x y (by simpa using hx) (by simpa using hy)⟩
    simp only [Array.toList_append]
    exact (e1.append hargs).append e2
 ·simp at h
theorem iopsD_wp {call:CallR} (hcall:∀B,CallSound J B call) (Ks:List Tmp) (ops:Array Oper):∀(l:List Oper) (ι:Emb) (H:IH) (w:World) (T:Regs) (a:Act) (D:Defs) (x:IX) (T':Regs) (H':IH) (D':Defs),
  Sim J B ι H w→RegsRel ι H.next T a.tmps→DRel J ι H.next D a.defers→(∀o∈l,opOk J a.tmps.size o=true)→iopsD J call ops l T H D=some (x,T',H',D')→
  wpList J.P ops (DPost J B Ks ι H.next w a x T' H' D') l a w:=by
 intro l
 induction l with
 |nil=>
  intro ι H w T a D x T' H' D' hS hR hD _ h
  simp only [iopsD,Option.some.injEq,Prod.mk.injEq] at h
  obtain ⟨rfl,rfl,rfl,rfl⟩:=h
  exact ⟨ι,undef,rfl,hS,Ext.refl _ _,Below.refl _ _,hD,rfl,hR⟩
 |cons o l ih=>
  intro ι H w T a D x T' H' D' hS hR hD hok h
  have ho:=hok o (by simp)
  have hd:=dst_lt ho
  simp only [iopsD] at h
  simp only [wpList,wanted_eq hR ops o]
  have step:∀(v v':Value) (ι1:Emb) (H1:IH) (w1:World) (D1:Defs) (a1:Act),a1.tmps=a.tmps→DRel J ι1 H1.next D1 a1.defers→Sim J B ι1 H1 w1→VRel ι1 H1.next v v'→Ext ι H.next ι1 H1.next→Below B w w1→iopsD J call ops l (putR T o.dst v) H1 D1=some (x,T',H',D')→
    wpList J.P ops (DPost J B Ks ι H.next w a x T' H' D') l (a1.put o.dst v') w1:=by
   intro v v' ι1 H1 w1 D1 a1 ha1 hD1 s1 s2 s3 s4 s5
   have hR1:RegsRel ι1 H1.next (putR T o.dst v) (a1.put o.dst v').tmps:=RegsRel.put (by rw [ha1];exact hR.ext s3) s2 (by rw [ha1];exact hd)
   have:=ih ι1 H1 w1 (putR T o.dst v) (a1.put o.dst v') D1 x T' H' D' s1 hR1 (by rw [put_defers];exact hD1) (fun o' ho'=>by rw [put_size,ha1];exact hok o' (by simp [ho'])) s5
   exact wpList_mono (fun e a2 w2 p=>p.trans s3 s4 (by rw [put_size,ha1])) l _ _ this
  split at h
  ·rename_i hw
   rw [if_pos hw]
   left
   split at h
   ·rename_i hdf
    split at h
    ·rename_i d hdr
     split at h
     ·rename_i hb
      obtain ⟨d',hr,hrel⟩:=defer_run (J:=J) (operands_rel hS hR ho) hdf hdr w
      unfold Oper.wp
      rw [hr]
      exact step undef undef ι H w (d::D) { a with defers:=d'::a.defers } rfl (.cons hb hrel hD) hS VRel.undef (Ext.refl _ _) (Below.refl _ _) h
     ·simp at h
    ·simp at h
   ·split at h
    ·rename_i v H1 he
     refine exec_wp (hcall _) hS (operands_rel hS hR ho) he (fun v0 v' ι1 w1 e s1 s2 s3 s4=>?_) (fun v0 v' ι1 w1 e s1 s2 s3 s4=>by cases e)
     cases e
     exact step v v' ι1 H1 w1 D a rfl (hD.ext s3) s1 s2 s3 s4 h
    ·rename_i v H1 he
     simp only [Option.some.injEq,Prod.mk.injEq] at h
     obtain ⟨rfl,rfl,rfl,rfl⟩:=h
     refine exec_wp (hcall _) hS (operands_rel hS hR ho) he (fun v0 v' ι1 w1 e s1 s2 s3 s4=>by cases e) (fun v0 v' ι1 w1 e s1 s2 s3 s4=>?_)
     cases e
     exact ⟨ι1,v',rfl,s1,s3,s4,hD.ext s3,rfl,s2,fun t _=>(hR t).ext s3⟩
    ·simp at h
  ·rename_i hw
   rw [if_neg hw]
   exact step undef undef ι H w D a rfl hD hS VRel.undef (Ext.refl _ _) (Below.refl _ _) h
theorem icodeD_wp {call:CallR} (hm:J.P.follows .mixedOrders=true) (hcall:∀B,CallSound J B call) (k:Nat) (Ks:List Tmp):∀(c:Code) (ι:Emb) (H:IH) (w:World) (T:Regs) (a:Act) (D:Defs) (x:IX) (T':Regs) (H':IH) (D':Defs),
  Sim J B ι H w→RegsRel ι H.next T a.tmps→DRel J ι H.next D a.defers→codeOk J a.tmps.size c=true→icodeD J call k Ks c T H D=some (x,T',H',D')→c.wp J.P (DPost J B Ks ι H.next w a x T' H' D') a w:=by
 have plain:∀(c:Code) (ι:Emb) (H:IH) (w:World) (T:Regs) (a:Act) (D:Defs) (x:IX) (T':Regs) (H':IH) (D':Defs),
   Sim J B ι H w→RegsRel ι H.next T a.tmps→DRel J ι H.next D a.defers→codeOk J a.tmps.size c=true→
   (match icode J call k c T H with
    |some (.pan v,T',H')=>if Ks.all (keepsC c) then some (.pan v,T',H',D) else none
    |some (x,T',H')=>some (x,T',H',D)
    |none=>none)=some (x,T',H',D')→c.wp J.P (DPost J B Ks ι H.next w a x T' H' D') a w:=by
  intro c ι H w T a D x T' H' D' hS hR hD hok h
  cases he:icode J call k c T H with
  |none=>rw [he] at h;cases h
  |some r=>
   obtain ⟨x1,T1,H1⟩:=r
   rw [he] at h
   have hx:x1=x∧T1=T'∧H1=H'∧D=D'∧((∃v,x1=.pan v)→Ks.all (keepsC c)=true):=by
    cases x1<;>simp at h ⊢ <;>first|exact h|exact ⟨h.2.1,h.2.2.1,h.2.2.2.1,h.2.2.2.2,h.1⟩
   obtain ⟨rfl,rfl,rfl,rfl,hx⟩:=hx
   refine Code.wp_mono ?_ ((icode_wp (K:=fun t=>t∈Ks∧Ks.all (keepsC c)=true) hm hcall k).1 c ι H w T a x1 T1 H1 hS hR hok (fun t ht=>List.all_eq_true.1 ht.2 t ht.1) he)
   rintro e a' w' ⟨ι',v,q1,q2,q3,q4,q5,q6,q7⟩
   refine ⟨ι',v,q1,q2,q3,q4,by rw [q5];exact hD.ext q3,q6,?_⟩
   cases x1 with
   |pan u=>exact ⟨q7.1,fun t ht=>q7.2 t ⟨ht,hx ⟨u,rfl⟩⟩⟩
   |_=>exact q7
 intro c
 induction c with
 |seq c1 c2 ih1 ih2=>
  intro ι H w T a D x T' H' D' hS hR hD hok h
  simp only [codeOk,Bool.and_eq_true] at hok
  simp only [icodeD] at h
  cases hb:icodeD J call k Ks c1 T H D with
  |none=>simp [hb] at h
  |some r=>
   obtain ⟨x1,T1,H1,D1⟩:=r
   refine wp_seq (Code.wp_mono ?_ (ih1 ι H w T a D x1 T1 H1 D1 hS hR hD hok.1 hb))
   rintro e a1 w1 ⟨ι1,v,q1,q2,q3,q4,q5,q6,q7⟩
   subst q1
   have stop:x1≠.normal→x1=x∧T1=T'∧H1=H'∧D1=D':=fun hx=>by
    rw [hb] at h
    cases x1<;>simp at h hx ⊢ <;>exact h
   cases x1 with
   |normal=>
    simp only [hb] at h
    exact Code.wp_mono (fun e a2 w2 p=>p.trans q3 q4 q6) (ih2 ι1 H1 w1 T1 a1 D1 x T' H' D' q2 q7 q5 (by rw [q6];exact hok.2) h)
   |exit id=>
    obtain ⟨rfl,rfl,rfl,rfl⟩:=stop (by simp)
    exact ⟨ι1,v,rfl,q2,q3,q4,q5,q6,q7⟩
   |ret=>
    obtain ⟨rfl,rfl,rfl,rfl⟩:=stop (by simp)
    exact ⟨ι1,v,rfl,q2,q3,q4,q5,q6,q7⟩
   |pan u=>
    obtain ⟨rfl,rfl,rfl,rfl⟩:=stop (by simp)
    exact ⟨ι1,v,rfl,q2,q3,q4,q5,q6,q7⟩
 |region id ops draw=>
  intro ι H w T a D x T' H' D' hS hR hD hok h
  cases draw with
  |true=>exact plain _ ι H w T a D x T' H' D' hS hR hD hok (by simpa only [icodeD] using h)
  |false=>
   simp only [icodeD] at h
   simp only [codeOk,Bool.and_eq_true] at hok
   exact wp_region_list (iopsD_wp hcall Ks ops ops.toList ι H w T a D x T' H' D' hS hR hD (fun o ho=>Array.all_eq_true'.1 hok.1 o (by simpa using ho)) h)
 |_=>
  intro ι H w T a D x T' H' D' hS hR hD hok h
  exact plain _ ι H w T a D x T' H' D' hS hR hD hok (by simpa only [icodeD] using h)
theorem mem_cellRegs {rs:List ResultVar} {r:ResultVar} (hr:r∈rs) (ha:allCells rs=true):rreg r∈cellRegs rs:=by
 have:=List.all_eq_true.1 ha r hr
 cases r with
 |tmp t=>simp at this
 |cell a t=>exact List.mem_filterMap.2 ⟨.cell a t,hr,rfl⟩
theorem icallF_sound (hm:J.P.follows .mixedOrders=true) {okf:FuncId→Bool} (hok:∀f fn c,okf f=true→J.fn f=some fn→fn.body=some c→codeOk J fn.ntmps c=true) {call:CallR} (hcall:∀B,CallSound J B call) (k:Nat) {f:FuncId} {fn:Func} {c:Code} (hf:okf f=true) (hfn:J.fn f=some fn) (hc:fn.body=some c)
  {args args':Array Value} (hsz:args.size≤fn.ntmps) {H H':IH} {ι:Emb} {w:World} {r:IE} (hS:Sim J B ι H w) (hA:LRel ι H.next args.toList args'.toList) (h:icallF J okf call k fn c args H=some (r,H')):Calls J.P f args' w (CallPost J B ι H.next w r H'):=by
 have hsz':args'.size≤fn.ntmps:=by have:=hA.1;simp at this;omega
 have hts:(args'++Array.replicate (fn.ntmps-args'.size) undef).size=fn.ntmps:=by simp;omega
 refine calls_of_wp_defers (J.fn_ok f fn hfn).1 hc ?_
 have key:∀(x:IX) (T':Regs) (H1:IH) (D:Defs),icodeD J call k (cellRegs fn.results.toList) c (regsOf args.toList 0 .leaf) H []=some (x,T',H1,D)→
   c.wp J.P (DPost J B (cellRegs fn.results.toList) ι H.next w { tmps:=args'++Array.replicate (fn.ntmps-args'.size) undef,defers:=[] } x T' H1 D) { tmps:=args'++Array.replicate (fn.ntmps-args'.size) undef,defers:=[] } w:=
  fun x T' H1 D hx=>icodeD_wp hm hcall k (cellRegs fn.results.toList) c ι H w _ { tmps:=args'++Array.replicate (fn.ntmps-args'.size) undef,defers:=[] } [] x T' H1 D hS (regsOf_rel hA) .nil (by rw [hts];exact hok f fn c hf hfn hc) hx
 have fin:∀(all:Bool) (T':Regs) (H1:IH) (D:Defs) (u:RS) (m:FrameMode) (ι1:Emb) (a1:Act) (w1:World),iend J fn T' all (idefers J okf call k D u H1)=some (r,H')→Sim J B ι1 H1 w1→Ext ι H.next ι1 H1.next→Below B w w1→DRel J ι1 H1.next D a1.defers→URel ι1 H1.next u m→
   (all=true→∀x∈fn.results.toList,VRel ι1 H1.next (T'.at (rreg x)) (a1.tmps.getD (rreg x) undef))→Leaves J.P fn a1.tmps (CallPost J B ι H.next w r H') a1.defers m w1:=by
  intro all T' H1 D u m ι1 a1 w1 h1 h2 h3 h4 h5 h6 h7
  cases hi:idefers J okf call k D u H1 with
  |none=>rw [hi] at h1;simp [iend] at h1
  |some y=>
   obtain ⟨u',H2⟩:=y
   rw [hi] at h1
   refine idefers_sound hm hok hcall k D a1.defers ι1 u m H1 w1 u' H2 h5 h2 h3 h4 h6 hi fun ι' m' w' r1 r2 r3 r4 r5=>?_
   cases r5 with
   |ret=>
    cases all with
    |false=>simp [iend] at h1
    |true=>
     simp only [iend,if_true] at h1
     cases hv:iresults J fn T' H2 with
     |none=>simp [hv] at h1
     |some v=>
      simp only [hv,Option.map_some,Option.some.injEq,Prod.mk.injEq] at h1
      obtain ⟨rfl,rfl⟩:=h1
      obtain ⟨v',g1,g2⟩:=results_run' r1 (fun x hx=>(h7 rfl x hx).ext r3) hv
      exact ⟨v',g1,ι',r1,r2,r4,v',rfl,g2⟩
   |pan hv=>
    simp only [iend,Option.some.injEq,Prod.mk.injEq] at h1
    obtain ⟨rfl,rfl⟩:=h1
    exact ⟨ι',r1,r2,r4,_,rfl,hv⟩
   |reco hv=>simp [iend] at h1
 unfold icallF at h
 split at h
 ·rename_i T' H1 D hx
  refine Code.wp_mono ?_ (key _ _ _ _ hx)
  rintro e a1 w1 ⟨ι1,v,q1,q2,q3,q4,q5,q6,q7⟩
  subst q1
  exact fin true T' H1 D .ret .returning ι1 a1 w1 h q2 q3 q4 q5 .ret (fun _ x _=>q7 _)
 ·rename_i T' H1 D hx
  refine Code.wp_mono ?_ (key _ _ _ _ hx)
  rintro e a1 w1 ⟨ι1,v,q1,q2,q3,q4,q5,q6,q7⟩
  subst q1
  exact fin true T' H1 D .ret .returning ι1 a1 w1 h q2 q3 q4 q5 .ret (fun _ x _=>q7 _)
 ·rename_i v T' H1 D hx
  refine Code.wp_mono ?_ (key _ _ _ _ hx)
  rintro e a1 w1 ⟨ι1,v',q1,q2,q3,q4,q5,q6,q7⟩
  subst q1
  exact fin _ T' H1 D (.pan v) _ ι1 a1 w1 h q2 q3 q4 q5 (.pan q7.1) (fun ha x hx=>q7.2 _ (mem_cellRegs hx ha))
 ·simp at h
theorem icall_sound (hm:J.P.follows .mixedOrders=true) {okf:FuncId→Bool} (hok:∀f fn c,okf f=true→J.fn f=some fn→fn.body=some c→codeOk J fn.ntmps c=true):∀k B,CallSound J B (icall J okf k):=by
 intro k
 induction k with
 |zero=>intro B f args args' H ι w r H' _ _ h;simp [icall] at h
 |succ k ih=>
  intro B f args args' H ι w r H' hS hA h
  simp only [icall] at h
  split at h
  ·rename_i v hv
   cases h
   obtain ⟨h1,h2,h3⟩:=J.hook_ok f args.toList v hv
   have he:args=args':=by
    apply Array.ext'
    apply List.ext_getElem?
    intro i
    cases hx:args.toList[i]? with
    |none=>
     have h4:=List.getElem?_eq_none_iff.1 hx
     have h5:=hA.1
     rw [List.getElem?_eq_none_iff.2 (by omega)]
    |some x=>
     obtain ⟨y,hy,hr⟩:=hA.get hx
     rw [hy,flat_eq hr (List.all_eq_true.1 h2 x (List.mem_of_getElem? hx))]
   subst he
   have h4:=h3 w (Env.keep_inv hS.keep)
   rw [Array.toArray_toList] at h4
   exact h4.mono fun e w' ⟨h5,h6⟩=>⟨ι,hS.more h6,Ext.refl _ _,⟨h6.os,h6.tape,h6.output,h6.size,fun k hk=>h6.block k (hS.base.lt hk)⟩,v,h5,VRel.ofFlat h1⟩
  split at h
  case isFalse=>simp at h
  rename_i hf
  split at h
  case h_2=>simp at h
  rename_i fn hfn
  split at h
  case h_2=>simp at h
  rename_i c hc
  split at h
  case isFalse=>simp at h
  rename_i hsz
  split at h
  ·exact icallF_sound hm hok ih k hf hfn hc hsz hS hA h
  have hsz':args'.size≤fn.ntmps:=by have:=hA.1;simp at this;omega
  have hts:(args'++Array.replicate (fn.ntmps-args'.size) undef).size=fn.ntmps:=by simp;omega
  refine calls_of_wp (J.fn_ok f fn hfn).1 hc ?_
  have key:∀(x:IX) (T':Regs) (H1:IH),icode J (icall J okf k) k c (regsOf args.toList 0 .leaf) H=some (x,T',H1)→
    c.wp J.P (CodePost J B (fun _=>False) ι H.next w { tmps:=args'++Array.replicate (fn.ntmps-args'.size) undef,defers:=[] } x T' H1) { tmps:=args'++Array.replicate (fn.ntmps-args'.size) undef,defers:=[] } w:=
   fun x T' H1 hx=>(icode_wp hm ih k).1 c ι H w _ { tmps:=args'++Array.replicate (fn.ntmps-args'.size) undef,defers:=[] } x T' H1 hS (regsOf_rel hA) (by rw [hts];exact hok f fn c hf hfn hc) (fun _ h=>h.elim) hx
  have ret:∀(x:IX) (T':Regs) (H1:IH),(x=.normal∨x=.ret)→icode J (icall J okf k) k c (regsOf args.toList 0 .leaf) H=some (x,T',H1)→(iresults J fn T' H1).map (fun v=>(IE.ret v,H1))=some (r,H')→
    c.wp J.P (bodyPost J.P fn (CallPost J B ι H.next w r H')) { tmps:=args'++Array.replicate (fn.ntmps-args'.size) undef,defers:=[] } w:=by
   intro x T' H1 hx1 hx2 hx3
   cases hv:iresults J fn T' H1 with
   |none=>simp [hv] at hx3
   |some v=>
    simp only [hv,Option.map_some,Option.some.injEq,Prod.mk.injEq] at hx3
    obtain ⟨rfl,rfl⟩:=hx3
    refine Code.wp_mono ?_ (key x T' H1 hx2)
    rintro e a' w' ⟨ι',u,q1,q2,q3,q4,q5,q6,q7⟩
    rcases hx1 with rfl|rfl
    ·obtain ⟨v',r1,r2⟩:=results_run q2 q7 hv
     subst q1
     exact ⟨q5,v',r1,ι',q2,q3,q4,v',rfl,r2⟩
    ·obtain ⟨v',r1,r2⟩:=results_run q2 q7 hv
     subst q1
     exact ⟨q5,v',r1,ι',q2,q3,q4,v',rfl,r2⟩
  split at h
  ·rename_i T' H1 hx;exact ret _ _ _ (.inl rfl) hx h
  ·rename_i T' H1 hx;exact ret _ _ _ (.inr rfl) hx h
  ·rename_i v T' H1 hx
   cases h
   refine Code.wp_mono ?_ (key _ _ _ hx)
   rintro e a' w' ⟨ι',u,q1,q2,q3,q4,q5,q6,q7⟩
   subst q1
   exact ⟨q5,ι',q2,q3,q4,u,rfl,q7.1⟩
  ·simp at h
end
def Tr.AllAt {α:Type} (p:Nat→α→Prop) (f:Nat→Nat):Tr α→Prop
 | .leaf=>True
 | .node v l r=>(match v with|some x=>p (f 0) x|none=>True)∧Tr.AllAt p (fun m=>f (2*m+1)) l∧Tr.AllAt p (fun m=>f (2*m+2)) r
theorem Tr.allAt {α:Type} {p:Nat→α→Prop}:∀(t:Tr α) (f:Nat→Nat),Tr.AllAt p f t→∀n x,t.get n=some x→p (f n) x:=by
 intro t
 induction t with
 |leaf=>intro f _ n x h;simp [Tr.get] at h
 |node v l r ihl ihr=>
  intro f h n x hx
  obtain ⟨h1,h2,h3⟩:=h
  simp only [Tr.get] at hx
  by_cases e:n=0
  ·subst e
   rw [if_pos rfl] at hx
   subst hx
   exact h1
  ·rw [if_neg e] at hx
   by_cases e1:n%2=1
   ·rw [if_pos e1] at hx
    have:=ihl _ h2 _ _ hx
    rw [show 2*(n / 2)+1=n by omega] at this
    exact this
   ·rw [if_neg e1] at hx
    have:=ihr _ h3 _ _ hx
    rw [show 2*((n-1) / 2)+2=n by omega] at this
    exact this
def TyOk (P:Program) (t:Nat) (i:TyI):Prop:=
 P.underlying t=some i.und∧∃inf,P.info? t=some inf∧inf.size=i.size∧inf.bytes=i.bytes∧∀z,i.zero=some z→inf.zero=some z∧flat z=true
theorem tyOk_mk {P:Program} {t s b:Nat} {d:TypeDesc} {z:Value} (h1:P.underlying t=some d) (h2:(P.info? t).map (fun i=>(i.size,i.bytes,i.zero))=some (s,b,some z)) (h3:flat z=true):TyOk P t ⟨d,s,b,some z⟩:=by
 refine ⟨h1,?_⟩
 cases e:P.info? t with
 |none=>simp [e] at h2
 |some inf=>
  simp only [e,Option.map_some,Option.some.injEq,Prod.mk.injEq] at h2
  obtain ⟨rfl,rfl,h⟩:=h2
  exact ⟨inf,rfl,rfl,rfl,fun y hy=>by cases hy;exact ⟨h,h3⟩⟩
def FnOk (P:Program) (f:Nat) (x:Func):Prop:=P.funcs[f]?=some x∧(x.name== "runtime.NumGoroutine")=false
def bodyOk (J:Env) (fn:Func):Bool:=
 match fn.body with
 |some c=>codeOk J fn.ntmps c
 |none=>true
section
variable (J:Env) (call:CallR) (k:Nat) (T:Regs) (H:IH)
theorem icode_region (i:Nat) (ops:Array Oper):icode J call (k+1) (.region i ops false) T H=iops J call ops ops.toList T H:=rfl
theorem icode_draw (i:Nat) (ops:Array Oper):icode J call (k+1) (.region i ops true) T H=idraw J call (arrange J ops) T H:=rfl
def andThen (r:Option (IX×Regs×IH)) (f:Regs→IH→Option (IX×Regs×IH)):Option (IX×Regs×IH):=
 match r with
 |some (.normal,T',H')=>f T' H'
 |r=>r
theorem icode_seq (a b:Code):icode J call (k+1) (.seq a b) T H=andThen (icode J call k a T H) fun T' H'=>icode J call k b T' H':=by
 simp only [icode];rfl
theorem icode_loop (c:Code):icode J call (k+1) (.loop c) T H=andThen (icode J call k c T H) fun T' H'=>icode J call k (.loop c) T' H':=by
 simp only [icode];rfl
def branch (v:Value) (a b:Option (IX×Regs×IH)):Option (IX×Regs×IH):=
 match v with
 | .bool true=>a
 | .bool false=>b
 |_=>none
theorem icode_cond (c:Operand) (x y:Code):icode J call (k+1) (.cond c x y) T H=branch (iev T c) (icode J call k x T H) (icode J call k y T H):=rfl
def blockOut (id:Nat) (r:Option (IX×Regs×IH)):Option (IX×Regs×IH):=
 match r with
 |some (.exit id',T',H')=>if id'=id then some (.normal,T',H') else some (.exit id',T',H')
 |r=>r
theorem icode_block (id:Nat) (c:Code):icode J call (k+1) (.block id c) T H=blockOut id (icode J call k c T H):=by
 simp only [icode];rfl
theorem blockOut_normal (id:Nat):blockOut id (some (.normal,T,H))=some (.normal,T,H):=rfl
theorem blockOut_exit (id id':Nat):blockOut id (some (.exit id',T,H))=if id'=id then some (.normal,T,H) else some (.exit id',T,H):=rfl
theorem blockOut_ret (id:Nat):blockOut id (some (.ret,T,H))=some (.ret,T,H):=rfl
theorem blockOut_pan (id:Nat) (v:Value):blockOut id (some (.pan v,T,H))=some (.pan v,T,H):=rfl
def fin (J:Env) (rs:List ResultVar) (T:Regs) (H:IH):Option Value:=
 match rs.mapM (iresult1 J T H) with
 |some [v]=>some v
 |some vs=>some (.tuple vs.toArray)
 |none=>none
def finish (J:Env) (rs:List ResultVar) (r:Option (IX×Regs×IH)):Option (IE×IH):=
 match r with
 |some (.normal,T',H')=>(fin J rs T' H').map fun v=>(.ret v,H')
 |some (.ret,T',H')=>(fin J rs T' H').map fun v=>(.ret v,H')
 |some (.pan v,_,H')=>some (.pan v,H')
 |_=>none
theorem finish_normal (rs:List ResultVar):finish J rs (some (.normal,T,H))=(fin J rs T H).map fun v=>(.ret v,H):=rfl
theorem finish_ret (rs:List ResultVar):finish J rs (some (.ret,T,H))=(fin J rs T H).map fun v=>(.ret v,H):=rfl
theorem finish_pan (rs:List ResultVar) (v:Value):finish J rs (some (.pan v,T,H))=some (.pan v,H):=rfl
theorem icall_body (okf:FuncId→Bool) (f:FuncId) (args:Array Value) (fn:Func) (c:Code) (h0:okf f=true) (h1:J.fn f=some fn) (h2:fn.body=some c) (h3:args.size≤fn.ntmps) (h4:J.hook f args.toList=none) (h5:J.dfr f=false):
  icall J okf (k+1) f args H=finish J fn.results.toList (icode J (icall J okf k) k c (regsOf args.toList 0 .leaf) H):=by
 simp only [icall,h0,h1,h2,h3,h4,h5,if_true]
 rfl
theorem icall_dfr (okf:FuncId→Bool) (f:FuncId) (args:Array Value) (fn:Func) (c:Code) (h0:okf f=true) (h1:J.fn f=some fn) (h2:fn.body=some c) (h3:args.size≤fn.ntmps) (h4:J.hook f args.toList=none) (h5:J.dfr f=true):
  icall J okf (k+1) f args H=icallF J okf (icall J okf k) k fn c args H:=by
 simp only [icall,h0,h1,h2,h3,h4,h5,if_true]
theorem at_leaf (t:Nat):Regs.at .leaf t=undef:=rfl
def opStep (o:Oper) (r:Option (IE×IH)) (T:Regs) (f:Regs→IH→Option (IX×Regs×IH)):Option (IX×Regs×IH):=
 match r with
 |some (.ret v,H')=>f (putR T o.dst v) H'
 |some (.pan v,H')=>some (.pan v,T,H')
 |none=>none
theorem iops_cons (ops:Array Oper) (o:Oper) (r:List Oper):iops J call ops (o::r) T H=
  if wantedR ops T o then opStep o (iexec J call o T H) T (fun T' H'=>iops J call ops r T' H') else iops J call ops r (putR T o.dst undef) H:=by
 simp only [iops,opStep]
 split
 ·split<;>simp_all
 ·rfl
def orStep (call:CallR) (r:Option OR):Option (IE×IH):=
 match r with
 |some (.val v H')=>some (.ret v,H')
 |some (.pan v H')=>some (.pan v,H')
 |some (.enter f args H')=>call f args H'
 |none=>none
theorem iexec_eq (o:Oper):iexec J call o T H=orStep call (iop J o T H):=by
 unfold iexec orStep
 split<;>simp_all
theorem orStep_val (v:Value):orStep call (some (.val v H))=some (.ret v,H):=rfl
theorem orStep_pan (v:Value):orStep call (some (.pan v H))=some (.pan v,H):=rfl
theorem orStep_enter (f:FuncId) (args:Array Value):orStep call (some (.enter f args H))=call f args H:=rfl
end
/-! ### More fuel -/
def Mono (call call':CallR):Prop:=∀f args H r,call f args H=some r→call' f args H=some r
theorem iexec_mono {J:Env} {call call':CallR} (h:Mono call call') {o:Oper} {T:Regs} {H:IH} {r:IE×IH} (hx:iexec J call o T H=some r):iexec J call' o T H=some r:=by
 rw [iexec_eq] at hx ⊢
 cases hi:iop J o T H with
 |none=>simp [hi,orStep] at hx
 |some y=>cases y<;>simp only [hi,orStep] at hx ⊢ <;>first|exact hx|exact h _ _ _ _ hx
theorem iops_mono {J:Env} {call call':CallR} (h:Mono call call') (ops:Array Oper):∀(l:List Oper) (T:Regs) (H:IH) (r:IX×Regs×IH),iops J call ops l T H=some r→iops J call' ops l T H=some r:=by
 intro l
 induction l with
 |nil=>intro T H r hx;exact hx
 |cons o l ih=>
  intro T H r hx
  rw [iops_cons] at hx ⊢
  split
  ·rename_i hw
   rw [if_pos hw] at hx
   cases he:iexec J call o T H with
   |none=>simp [he,opStep] at hx
   |some y=>
    rw [iexec_mono h he]
    rw [he] at hx
    obtain ⟨e,H'⟩:=y
    cases e with
    |ret v=>exact ih _ _ _ hx
    |pan v=>exact hx
  ·rename_i hw
   rw [if_neg hw] at hx
   exact ih _ _ _ hx
theorem drun_mono {J:Env} {call call':CallR} (h:Mono call call') (ops:Array Oper):∀(l:List Oper) (s:DSt) (r:DSt×Option Value),drun J call ops l s=some r→drun J call' ops l s=some r:=by
 intro l
 induction l with
 |nil=>intro s r hx;exact hx
 |cons o l ih=>
  intro s r hx
  simp only [drun] at hx ⊢
  split
  ·rename_i hw
   rw [if_pos hw] at hx
   cases he:iexec J call o s.T s.H with
   |none=>simp [he] at hx
   |some y=>
    rw [iexec_mono h he]
    rw [he] at hx
    obtain ⟨e,H'⟩:=y
    cases e with
    |ret v=>exact ih _ _ hx
    |pan v=>exact hx
  ·rename_i hw
   rw [if_neg hw] at hx
   exact ih _ _ hx
theorem idraw_mono {J:Env} {call call':CallR} (h:Mono call call') (ops:Array Oper) (T:Regs) (H:IH) (r:IX×Regs×IH) (hx:idraw J call ops T H=some r):idraw J call' ops T H=some r:=by
 unfold idraw at hx ⊢
 cases he:drun J call ops ops.toList ⟨T,H,[],[H]⟩ with
 |none=>simp [he] at hx
 |some y=>rw [drun_mono h ops _ _ _ he];rw [he] at hx;exact hx
theorem icode_mono {J:Env} {call call':CallR} (h:Mono call call'):∀(k:Nat) (c:Code) (T:Regs) (H:IH) (r:IX×Regs×IH) (k':Nat),k≤k'→icode J call k c T H=some r→icode J call' k' c T H=some r:=by
 intro k
 induction k with
 |zero=>intro c T H r k' _ hx;simp [icode] at hx
 |succ k ih=>
  intro c T H r k' hk hx
  obtain ⟨k',rfl⟩:∃j,k'=j+1:=⟨k'-1,by omega⟩
  have hk:k≤k':=by omega
  have two:∀(a:Code) (f f':Regs→IH→Option (IX×Regs×IH)),(∀T H r,f T H=some r→f' T H=some r)→andThen (icode J call k a T H) f=some r→andThen (icode J call' k' a T H) f'=some r:=by
   intro a f f' hf hx
   cases he:icode J call k a T H with
   |none=>simp [he,andThen] at hx
   |some y=>
    rw [ih a T H y k' hk he]
    rw [he] at hx
    obtain ⟨e,T',H'⟩:=y
    cases e<;>first|exact hf _ _ _ hx|exact hx
  cases c with
  |seq a b=>rw [icode_seq] at hx ⊢;exact two a _ _ (fun T H r=>ih b T H r k' hk) hx
  |loop a=>rw [icode_loop] at hx ⊢;exact two a _ _ (fun T H r=>ih (.loop a) T H r k' hk) hx
  |cond c x y=>
   rw [icode_cond] at hx ⊢
   cases hv:iev T c with
   |bool b=>
    rw [hv] at hx
    cases b with
    |true=>exact ih x T H r k' hk hx
    |false=>exact ih y T H r k' hk hx
   |_=>rw [hv] at hx;simp [branch] at hx
  |block id a=>
   rw [icode_block] at hx ⊢
   cases he:icode J call k a T H with
   |none=>simp [he,blockOut] at hx
   |some y=>rw [ih a T H y k' hk he];rw [he] at hx;exact hx
  |scope a=>exact ih a T H r k' hk hx
  |region id ops draw=>cases draw with
   |true=>rw [icode_draw] at hx ⊢;exact idraw_mono h (arrange J ops) T H r hx
   |false=>rw [icode_region] at hx ⊢;exact iops_mono h ops _ T H r hx
  |_=>exact hx
theorem iopsS_mono {J:Env} {call call':CallR} (h:Mono call call') (ops:Array Oper):∀(l:List Oper) (T:Regs) (H:IH) (u:RS) (r:IX×Regs×IH×RS),iopsS J call ops l T H u=some r→iopsS J call' ops l T H u=some r:=by
 intro l
 induction l with
 |nil=>intro T H u r hx;exact hx
 |cons o l ih=>
  intro T H u r hx
  simp only [iopsS] at hx ⊢
  by_cases hw:wantedR ops T o=true
  ·rw [if_pos hw] at hx ⊢
   by_cases hr:isRecover o=true
   ·rw [if_pos hr] at hx ⊢
    cases u<;>exact ih _ _ _ _ hx
   ·rw [if_neg hr] at hx ⊢
    cases he:iexec J call o T H with
    |none=>simp [he] at hx
    |some y=>
     rw [iexec_mono h he]
     rw [he] at hx
     obtain ⟨e,H'⟩:=y
     cases e with
     |ret v=>exact ih _ _ _ _ hx
     |pan v=>simp at hx
  ·rw [if_neg hw] at hx ⊢
   exact ih _ _ _ _ hx
theorem icodeS_mono {J:Env} {call call':CallR} (h:Mono call call') {k k':Nat} (hk:k≤k'):∀(c:Code) (T:Regs) (H:IH) (u:RS) (r:IX×Regs×IH×RS),icodeS J call k c T H u=some r→icodeS J call' k' c T H u=some r:=by
 have plain:∀(c:Code) (T:Regs) (H:IH) (u:RS) (r:IX×Regs×IH×RS),
   (match icode J call k c T H with
    |some (.pan _,_,_)=>none
    |some (x,T',H')=>some (x,T',H',u)
    |none=>none)=some r→
   (match icode J call' k' c T H with
    |some (.pan _,_,_)=>none
    |some (x,T',H')=>some (x,T',H',u)
    |none=>none)=some r:=fun c T H u r hx=>by
  cases he:icode J call k c T H with
  |none=>simp [he] at hx
  |some y=>rw [icode_mono h k c T H y k' hk he];rw [he] at hx;exact hx
 intro c
 induction c with
 |seq a b iha ihb=>
  intro T H u r hx
  simp only [icodeS] at hx ⊢
  cases he:icodeS J call k a T H u with
  |none=>simp [he] at hx
  |some y=>
   rw [iha _ _ _ _ he]
   rw [he] at hx
   obtain ⟨e,T',H',u'⟩:=y
   cases e<;>first|exact ihb _ _ _ _ hx|exact hx
 |region id ops draw=>
  intro T H u r hx
  cases draw with
  |true=>simp only [icodeS] at hx ⊢;exact plain _ _ _ _ _ hx
  |false=>simp only [icodeS] at hx ⊢;exact iopsS_mono h _ _ _ _ _ _ hx
 |_=>intro T H u r hx;simp only [icodeS] at hx ⊢;exact plain _ _ _ _ _ hx
theorem iopsD_mono {J:Env} {call call':CallR} (h:Mono call call') (ops:Array Oper):∀(l:List Oper) (T:Regs) (H:IH) (D:Defs) (r:IX×Regs×IH×Defs),iopsD J call ops l T H D=some r→iopsD J call' ops l T H D=some r:=by
 intro l
 induction l with
 |nil=>intro T H D r hx;exact hx
 |cons o l ih=>
  intro T H D r hx
  simp only [iopsD] at hx ⊢
  by_cases hw:wantedR ops T o=true
  ·rw [if_pos hw] at hx ⊢
   by_cases hd:isDefer o=true
   ·rw [if_pos hd] at hx ⊢
    cases hq:deferR T o with
    |none=>simp [hq] at hx
    |some d=>
     simp only [hq] at hx ⊢
     by_cases hb:hasBody J d.1=true
     ·rw [if_pos hb] at hx ⊢;exact ih _ _ _ _ hx
     ·rw [if_neg hb] at hx;simp at hx
   ·rw [if_neg hd] at hx ⊢
    cases he:iexec J call o T H with
    |none=>simp [he] at hx
    |some y=>
     rw [iexec_mono h he]
     rw [he] at hx
     obtain ⟨e,H'⟩:=y
     cases e with
     |ret v=>exact ih _ _ _ _ hx
     |pan v=>exact hx
  ·rw [if_neg hw] at hx ⊢
   exact ih _ _ _ _ hx
theorem icodeD_mono {J:Env} {call call':CallR} (h:Mono call call') {k k':Nat} (hk:k≤k') (Ks:List Tmp):∀(c:Code) (T:Regs) (H:IH) (D:Defs) (r:IX×Regs×IH×Defs),icodeD J call k Ks c T H D=some r→icodeD J call' k' Ks c T H D=some r:=by
 have plain:∀(c:Code) (T:Regs) (H:IH) (D:Defs) (r:IX×Regs×IH×Defs),
   (match icode J call k c T H with
    |some (.pan v,T',H')=>if Ks.all (keepsC c) then some (IX.pan v,T',H',D) else none
    |some (x,T',H')=>some (x,T',H',D)
    |none=>none)=some r→
   (match icode J call' k' c T H with
    |some (.pan v,T',H')=>if Ks.all (keepsC c) then some (IX.pan v,T',H',D) else none
    |some (x,T',H')=>some (x,T',H',D)
    |none=>none)=some r:=fun c T H D r hx=>by
  cases he:icode J call k c T H with
  |none=>simp [he] at hx
  |some y=>rw [icode_mono h k c T H y k' hk he];rw [he] at hx;exact hx
 intro c
 induction c with
 |seq a b iha ihb=>
  intro T H D r hx
  simp only [icodeD] at hx ⊢
  cases he:icodeD J call k Ks a T H D with
  |none=>simp [he] at hx
  |some y=>
   rw [iha _ _ _ _ he]
   rw [he] at hx
   obtain ⟨e,T',H',D'⟩:=y
   cases e<;>first|exact ihb _ _ _ _ hx|exact hx
 |region id ops draw=>
  intro T H D r hx
  cases draw with
  |true=>simp only [icodeD] at hx ⊢;exact plain _ _ _ _ _ hx
  |false=>simp only [icodeD] at hx ⊢;exact iopsD_mono h _ _ _ _ _ _ hx
 |_=>intro T H D r hx;simp only [icodeD] at hx ⊢;exact plain _ _ _ _ _ hx
theorem icallD_mono {J:Env} {okf:FuncId→Bool} {call call':CallR} (h:Mono call call') {k k':Nat} (hk:k≤k') {g:FuncId} {args:List Value} {u:RS} {H:IH} {r:IH×RS} (hx:icallD J okf call k g args u H=some r):icallD J okf call' k' g args u H=some r:=by
 unfold icallD at hx ⊢
 split
 ·rename_i h0
  rw [if_pos h0] at hx
  cases hf:J.fn g with
  |none=>simp [hf] at hx
  |some fn=>
   simp only [hf] at hx ⊢
   cases hb:fn.body with
   |none=>simp [hb] at hx
   |some c=>
    simp only [hb] at hx ⊢
    split
    ·rename_i h3
     rw [if_pos h3] at hx
     cases he:icodeS J call k c (regsOf args 0 .leaf) H u with
     |none=>simp [he] at hx
     |some y=>rw [icodeS_mono h hk _ _ _ _ _ he];rw [he] at hx;exact hx
    ·rename_i h3;rw [if_neg h3] at hx;simp at hx
 ·rename_i h0;rw [if_neg h0] at hx;simp at hx
theorem idefers_mono {J:Env} {okf:FuncId→Bool} {call call':CallR} (h:Mono call call') {k k':Nat} (hk:k≤k'):∀(D:Defs) (u:RS) (H:IH) (r:RS×IH),idefers J okf call k D u H=some r→idefers J okf call' k' D u H=some r:=by
 intro D
 induction D with
 |nil=>intro u H r hx;exact hx
 |cons d D ih=>
  intro u H r hx
  simp only [idefers] at hx ⊢
  cases he:icallD J okf call k d.1 d.2 u H with
  |none=>simp [he] at hx
  |some y=>rw [icallD_mono h hk he];rw [he] at hx;exact ih _ _ _ hx
theorem icallF_mono {J:Env} {okf:FuncId→Bool} {call call':CallR} (h:Mono call call') {k k':Nat} (hk:k≤k') {fn:Func} {c:Code} {args:Array Value} {H:IH} {r:IE×IH} (hx:icallF J okf call k fn c args H=some r):icallF J okf call' k' fn c args H=some r:=by
 unfold icallF at hx ⊢
 have key:∀(all:Bool) (T:Regs) (D:Defs) (u:RS) (H':IH),iend J fn T all (idefers J okf call k D u H')=some r→iend J fn T all (idefers J okf call' k' D u H')=some r:=fun all T D u H' hx=>by
  cases he:idefers J okf call k D u H' with
  |none=>simp [he,iend] at hx
  |some y=>rw [idefers_mono h hk _ _ _ _ he];rw [he] at hx;exact hx
 cases he:icodeD J call k (cellRegs fn.results.toList) c (regsOf args.toList 0 .leaf) H [] with
 |none=>simp [he] at hx
 |some y=>
  rw [icodeD_mono h hk _ _ _ _ _ _ he]
  rw [he] at hx
  obtain ⟨x,T',H',D⟩:=y
  cases x<;>first|exact key _ _ _ _ _ hx|exact hx
theorem icall_mono {J:Env} {okf:FuncId→Bool}:∀(k k':Nat),k≤k'→Mono (icall J okf k) (icall J okf k'):=by
 intro k
 induction k with
 |zero=>intro k' _ f args H r hx;simp [icall] at hx
 |succ k ih=>
  intro k' hk f args H r hx
  obtain ⟨k',rfl⟩:∃j,k'=j+1:=⟨k'-1,by omega⟩
  have hk:k≤k':=by omega
  simp only [icall] at hx ⊢
  cases hh:J.hook f args.toList with
  |some v=>simp only [hh] at hx ⊢;exact hx
  |none=>
  simp only [hh] at hx ⊢
  split
  ·rename_i h0
   rw [if_pos h0] at hx
   cases hf:J.fn f with
   |none=>simp [hf] at hx
   |some fn=>
    simp only [hf] at hx ⊢
    cases hb:fn.body with
    |none=>simp [hb] at hx
    |some c=>
     simp only [hb] at hx ⊢
     split
     ·rename_i h3
      rw [if_pos h3] at hx
      split
      ·rename_i h5
       rw [if_pos h5] at hx
       exact icallF_mono (ih k' hk) hk hx
      rename_i h5
      rw [if_neg h5] at hx
      cases he:icode J (icall J okf k) k c (regsOf args.toList 0 .leaf) H with
      |none=>simp [he] at hx
      |some y=>
       rw [icode_mono (ih k' hk) k c _ H y k' hk he]
       rw [he] at hx;exact hx
     ·rename_i h3
      rw [if_neg h3] at hx
      simp at hx
  ·rename_i h0
   rw [if_neg h0] at hx
   simp at hx
/-! ### Code -/
section
variable (J:Env) (call:CallR) (k:Nat) (T:Regs) (H:IH)
def seqNext (J:Env) (call:CallR) (k:Nat) (b:Code) (r:Option (IX×Regs×IH)):Option (IX×Regs×IH):=
 match r with
 |some (.normal,T',H')=>icode J call k b T' H'
 |r=>r
@[simp] theorem run_skip:icode J call (k+1) .skip T H=some (.normal,T,H):=rfl
@[simp] theorem run_label (l:Nat):icode J call (k+1) (.label l) T H=some (.normal,T,H):=rfl
@[simp] theorem run_exit (i:Nat):icode J call (k+1) (.exit i) T H=some (.exit i,T,H):=rfl
@[simp] theorem run_ret:icode J call (k+1) .ret T H=some (.ret,T,H):=rfl
@[simp] theorem seq_normal (b:Code):seqNext J call k b (some (.normal,T,H))=icode J call k b T H:=rfl
@[simp] theorem seq_exit (b:Code) (i:Nat):seqNext J call k b (some (.exit i,T,H))=some (.exit i,T,H):=rfl
@[simp] theorem seq_ret (b:Code):seqNext J call k b (some (.ret,T,H))=some (.ret,T,H):=rfl
@[simp] theorem seq_pan (b:Code) (v:Value):seqNext J call k b (some (.pan v,T,H))=some (.pan v,T,H):=rfl
def condNext (J:Env) (call:CallR) (k:Nat) (x y:Code) (T:Regs) (H:IH) (v:Value):Option (IX×Regs×IH):=
 match v with
 | .bool true=>icode J call k x T H
 | .bool false=>icode J call k y T H
 |_=>none
@[simp] theorem run_cond (c:Operand) (x y:Code):icode J call (k+1) (.cond c x y) T H=condNext J call k x y T H (iev T c):=rfl
@[simp] theorem cond_t (x y:Code):condNext J call k x y T H (.bool true)=icode J call k x T H:=rfl
@[simp] theorem cond_f (x y:Code):condNext J call k x y T H (.bool false)=icode J call k y T H:=rfl
attribute [simp] blockOut_normal blockOut_exit blockOut_ret blockOut_pan finish_normal finish_ret finish_pan
/-! ### Regions -/
def opRes (J:Env) (call:CallR) (ops:Array Oper) (r:List Oper) (d:Option Tmp) (T:Regs) (x:Option (IE×IH)):Option (IX×Regs×IH):=
 match x with
 |some (.ret v,H')=>iops J call ops r (putR T d v) H'
 |some (.pan v,H')=>some (.pan v,T,H')
 |none=>none
def opGo (J:Env) (call:CallR) (ops:Array Oper) (r:List Oper) (o:Oper) (T:Regs) (H:IH) (b:Bool):Option (IX×Regs×IH):=
 match b with
 |true=>opRes J call ops r o.dst T (orStep call (iop J o T H))
 |false=>iops J call ops r (putR T o.dst undef) H
@[simp] theorem ops_nil (ops:Array Oper):iops J call ops [] T H=some (.normal,T,H):=rfl
@[simp] theorem ops_cons (ops:Array Oper) (o:Oper) (r:List Oper):iops J call ops (o::r) T H=opGo J call ops r o T H (wantedR ops T o):=by
 rw [iops_cons,iexec_eq]
 cases wantedR ops T o<;>rfl
@[simp] theorem go_true (ops:Array Oper) (r:List Oper) (o:Oper):opGo J call ops r o T H true=opRes J call ops r o.dst T (orStep call (iop J o T H)):=rfl
@[simp] theorem go_false (ops:Array Oper) (r:List Oper) (o:Oper):opGo J call ops r o T H false=iops J call ops r (putR T o.dst undef) H:=rfl
@[simp] theorem res_ret (ops:Array Oper) (r:List Oper) (d:Option Tmp) (v:Value):opRes J call ops r d T (some (.ret v,H))=iops J call ops r (putR T d v) H:=rfl
@[simp] theorem res_pan (ops:Array Oper) (r:List Oper) (d:Option Tmp) (v:Value):opRes J call ops r d T (some (.pan v,H))=some (.pan v,T,H):=rfl
attribute [simp] orStep_val orStep_pan orStep_enter
@[simp] theorem put_none (v:Value):putR T none v=T:=rfl
@[simp] theorem put_some (d:Tmp) (v:Value):putR T (some d) v=T.set d v:=rfl
attribute [simp] at_leaf
@[simp] theorem at_set_eq (t:Nat) (v:Value):Regs.at (Tr.set T t v) t=v:=by rw [at_set,if_pos rfl]
@[simp] theorem at_set_ne (d t:Nat) (v:Value) (h:(t=d)=False):Regs.at (Tr.set T d v) t=T.at t:=by rw [at_set,if_neg (by simp [h])]
@[simp] theorem iev_tmp (t:Tmp):iev T (.tmp t)=T.at t:=id rfl
@[simp] theorem iev_const (v:Value):iev T (.const v)=v:=id rfl
@[simp] theorem iev_func (f:FuncId):iev T (.func f)=.func (.func f) #[] #[]:=id rfl
def guardB (v:Value) (want:Bool):Bool:=
 match v with
 | .bool b=>b==want
 |_=>false
@[simp] theorem guardB_bool (b want:Bool):guardB (.bool b) want=(b==want):=rfl
@[simp] theorem wanted_none (ops:Array Oper) (dst:Option Tmp) (op:Op) (type:TypeId) (pos:String) (after:Array Edge):wantedR ops T ⟨dst,op,type,pos,after,none⟩=true:=rfl
@[simp] theorem wanted_some (ops:List Oper) (dst:Option Tmp) (op:Op) (type:TypeId) (pos:String) (after:Array Edge) (j:Nat) (want:Bool):
  wantedR ops.toArray T ⟨dst,op,type,pos,after,some (j,want)⟩=(match (ops[j]?).bind (·.dst) with|some d=>guardB (T.at d) want|none=>false):=by
 simp only [wantedR,List.getElem?_toArray]
 rfl
/-! ### Operations -/
section
variable (dst:Option Tmp) (type:TypeId) (pos:String) (after:Array Edge) (guard:Option (Nat×Bool))
@[simp] theorem iop_move (x:Operand):iop J ⟨dst,.move x,type,pos,after,guard⟩ T H=some (.val (iev T x) H):=rfl
@[simp] theorem iop_assign (x:Operand):iop J ⟨dst,.assign x,type,pos,after,guard⟩ T H=some (.val (iev T x) H):=rfl
def pickR (c a b:Value) (H:IH):Option OR:=
 match c with
 | .bool true=>some (.val a H)
 | .bool false=>some (.val b H)
 |_=>none
@[simp] theorem iop_pick (c a b:Operand):iop J ⟨dst,.pick c a b,type,pos,after,guard⟩ T H=pickR (iev T c) (iev T a) (iev T b) H:=rfl
@[simp] theorem pick_t (a b:Value):pickR (.bool true) a b H=some (.val a H):=rfl
@[simp] theorem pick_f (a b:Value):pickR (.bool false) a b H=some (.val b H):=rfl
@[simp] theorem iop_alloc (e:TypeId):iop J ⟨dst,.alloc e,type,pos,after,guard⟩ T H=(J.zero e).map fun z=>.val (inew H e z.cells.toList).1 (inew H e z.cells.toList).2:=rfl
@[simp] theorem iop_box (e:TypeId) (x:Operand):iop J ⟨dst,.box e x,type,pos,after,guard⟩ T H=(J.size e).map fun _=>.val (inew H e (iev T x).cells.toList).1 (inew H e (iev T x).cells.toList).2:=rfl
@[simp] theorem iop_build (t:TypeId) (ps:Array (Nat×Operand)):iop J ⟨dst,.build t ps,type,pos,after,guard⟩ T H=OR.ofVal H (ibuild J t (iparts T ps)):=rfl
@[simp] theorem iop_buildSlice (t:TypeId) (n:Nat) (ps:Array (Nat×Operand)):iop J ⟨dst,.buildSlice t n ps,type,pos,after,guard⟩ T H=OR.ofPair (ibuildSlice J t n (iparts T ps) H):=rfl
def loadR (J:Env) (t:TypeId) (a:Value) (H:IH):Option OR:=
 match a with
 | .pointer (some ad)=>OR.ofVal H (iload J t ad H)
 |_=>none
@[simp] theorem iop_load (t:TypeId) (a:Operand):iop J ⟨dst,.load t a,type,pos,after,guard⟩ T H=loadR J t (iev T a) H:=rfl
@[simp] theorem load_ptr (t:TypeId) (a:Addr):loadR J t (.pointer (some a)) H=OR.ofVal H (iload J t a H):=rfl
def storeR (J:Env) (t:TypeId) (a v:Value) (H:IH):Option OR:=
 match a with
 | .pointer (some ad)=>OR.ofHeap (istore J t ad v H)
 |_=>none
@[simp] theorem iop_store (t:TypeId) (a x:Operand):iop J ⟨dst,.store t a x,type,pos,after,guard⟩ T H=storeR J t (iev T a) (iev T x) H:=rfl
@[simp] theorem store_ptr (t:TypeId) (a:Addr) (v:Value):storeR J t (.pointer (some a)) v H=OR.ofHeap (istore J t a v H):=rfl
def nilCheckR (v:Value) (H:IH):Option OR:=
 match v with
 | .pointer (some a)=>some (.val (.pointer (some a)) H)
 | .func (.func g) first captured=>some (.val (.func (.func g) first captured) H)
 |_=>none
@[simp] theorem iop_nilCheck (x:Operand):iop J ⟨dst,.nilCheck x,type,pos,after,guard⟩ T H=nilCheckR (iev T x) H:=rfl
@[simp] theorem nilCheck_ptr (a:Addr):nilCheckR (.pointer (some a)) H=some (.val (.pointer (some a)) H):=rfl
@[simp] theorem nilCheck_func (g:FuncId) (xs ys:Array Value):nilCheckR (.func (.func g) xs ys) H=some (.val (.func (.func g) xs ys) H):=rfl
@[simp] theorem ofVal_some (v:Value):OR.ofVal H (some v)=some (.val v H):=rfl
@[simp] theorem ofPair_some (v:Value):OR.ofPair (some (v,H))=some (.val v H):=rfl
@[simp] theorem ofHeap_some:OR.ofHeap (some H)=some (.val undef H):=rfl
@[simp] theorem iop_makeFunc (g:FuncId) (first captured:Array Operand):iop J ⟨dst,.makeFunc (.func g) first captured,type,pos,after,guard⟩ T H=some (.val (.func (.func g) (first.map (iev T)) (captured.map (iev T))) H):=rfl
@[simp] theorem iop_makeMap (t:TypeId):iop J ⟨dst,.makeMap t none,type,pos,after,guard⟩ T H=some (.val (.map (some H.next)) (H.push (.map [] false))):=rfl
@[simp] theorem iop_makeSlice (t:TypeId) (l c:Operand):iop J ⟨dst,.makeSlice t l c,type,pos,after,guard⟩ T H=OR.ofPair (imakeSlice J t (iev T l) (iev T c) H):=rfl
@[simp] theorem iop_slice (t:TypeId) (x:Operand) (lo hi mx:Option Operand):iop J ⟨dst,.slice t x lo hi mx,type,pos,after,guard⟩ T H=OR.ofVal H (islice J t (iev T x) (lo.map (iev T)) (hi.map (iev T)) (mx.map (iev T)) H):=rfl
@[simp] theorem iop_fieldAddr (s:TypeId) (x:Operand) (f:Nat):iop J ⟨dst,.fieldAddr s x f,type,pos,after,guard⟩ T H=OR.ofVal H (ifieldAddr J s (iev T x) f):=rfl
@[simp] theorem iop_field (s:TypeId) (x:Operand) (f:Nat):iop J ⟨dst,.field s x f,type,pos,after,guard⟩ T H=OR.ofVal H (ifield J s (iev T x) f):=rfl
@[simp] theorem iop_indexAddr (t:TypeId) (x i:Operand):iop J ⟨dst,.indexAddr t x i,type,pos,after,guard⟩ T H=OR.ofVal H (iindexAddr J t (iev T x) (iev T i)):=rfl
@[simp] theorem iop_index (t:TypeId) (x i:Operand):iop J ⟨dst,.index t x i,type,pos,after,guard⟩ T H=OR.ofVal H (iindex J t (iev T x) (iev T i)):=rfl
@[simp] theorem iop_lookup (t:TypeId) (x i:Operand) (ok:Bool):iop J ⟨dst,.lookup t x i ok,type,pos,after,guard⟩ T H=OR.ofVal H (ilookup J t (iev T x) (iev T i) ok H):=rfl
@[simp] theorem iop_mapUpdate (t:TypeId) (m k v:Operand):iop J ⟨dst,.mapUpdate t m k v,type,pos,after,guard⟩ T H=OR.ofHeap (imapUpdate J t (iev T m) (iev T k) (iev T v) H):=rfl
@[simp] theorem iop_insert (t:TypeId) (m k v:Operand):iop J ⟨dst,.insert t m k v,type,pos,after,guard⟩ T H=OR.ofHeap (imapUpdate J t (iev T m) (iev T k) (iev T v) H):=rfl
def extractR (v:Value) (i:Nat) (H:IH):Option OR:=
 match v with
 | .tuple vs=>OR.ofVal H (vs[i]?)
 |_=>none
@[simp] theorem iop_extract (x:Operand) (i:Nat):iop J ⟨dst,.extract x i,type,pos,after,guard⟩ T H=extractR (iev T x) i H:=rfl
@[simp] theorem extract_tuple (vs:List Value) (i:Nat):extractR (.tuple vs.toArray) i H=OR.ofVal H (vs[i]?):=by simp [extractR]
def funcR (J:Env) (f:Value) (args:Array Value) (o:Oper) (T:Regs) (H:IH):Option OR:=
 match f with
 | .func (.func g) first captured=>if hasBody J g then some (.enter g (first++args++captured) H) else if J.ident g then identR (first++args++captured).toList H else ipure J o T H
 |_=>none
@[simp] theorem iop_callf (f:Operand) (args:Array Operand) (at_:Array TypeId):iop J ⟨dst,.call ⟨.value f,args,at_⟩,type,pos,after,guard⟩ T H=funcR J (iev T f) (args.map (iev T)) ⟨dst,.call ⟨.value f,args,at_⟩,type,pos,after,guard⟩ T H:=rfl
@[simp] theorem func_body (g:FuncId) (first captured args:Array Value) (o:Oper) (h:hasBody J g=true):funcR J (.func (.func g) first captured) args o T H=some (.enter g (first++args++captured) H):=by simp [funcR,h]
def lenR (J:Env) (t:TypeId) (x:Value) (H:IH):Option OR:=
 match J.und t,x with
 |some (.slice _),.slice _ n _=>some (.val (.int .i64 n) H)
 |some (.map _ _),.map (some r)=>match H.get r with
  |some (.map es _)=>some (.val (.int .i64 es.length) H)
  |_=>none
 |some .string,.string s=>some (.val (.int .i64 s.size) H)
 |_,_=>none
theorem iop_len' (x:Operand) (t:TypeId) (r:OR) (h:lenR J t (iev T x) H=some r):iop J ⟨dst,.call ⟨.builtin .len,#[x],#[t]⟩,type,pos,after,guard⟩ T H=some r:=by
 unfold lenR at h
 simp only [iop,icall0]
 simp only [List.getElem?_toArray,List.getElem?_cons_zero]
 split at h
 ·rename_i e a n c hu hx
  rw [hu,hx];exact h
 ·rename_i e kk r' hu hx
  rw [hu,hx];exact h
 ·rename_i s hu hx
  cases h
  rw [hu,hx]
  have e1:execOp (iev T) ⟨dst,.call ⟨.builtin .len,#[x],#[t]⟩,type,pos,after,guard⟩=(do pure (.value (←Builtin.len_ #[t] type #[.string s])):Sem Next):=by
   simp only [execOp,resolve]
   simp [hx]
   rfl
  have e2:pureRun J.P (execOp (iev T) ⟨dst,.call ⟨.builtin .len,#[x],#[t]⟩,type,pos,after,guard⟩)=some (.value (.int .i64 s.size)):=by
   rw [e1]
   show pureRun J.P (Sem.bind _ _)=_
   have hu':=J.und_ok hu
   simp [Builtin.len_,underlying,program,bind,Sem.bind,pureRun,hu',pure,goInt]
  simp only [ipure,e2]
  simp [Op.operands,Call.operands,hx,flat,flatN]
 ·simp at h
end
end
section
variable (J:Env) (T:Regs) (H:IH) (dst:Option Tmp) (type:TypeId) (pos:String) (after:Array Edge) (guard:Option (Nat×Bool))
def pureR (r:Option Value) (H:IH):Option OR:=
 match r with
 |some v=>if flat v then some (.val v H) else none
 |none=>none
def binR (J:Env) (op:BinOp) (t:TypeId) (x y:Operand) (a b:Value) (H:IH):Option OR:=
 match op,nilEq a b with
 | .eql,some r=>if fitsNil J t a&&fitsNil J t b then some (.val (.bool r) H) else none
 | .neq,some r=>if fitsNil J t a&&fitsNil J t b then some (.val (.bool (!r)) H) else none
 |_,_=>if flat a&&flat b then pureR (pureRun J.P (do eqGuard op t x y a b;binOp op t a b)) H else none
theorem pureRun_bind {α β:Type} (P:Program) (s:Sem α) (f:α→Sem β):pureRun P (s >>= f)=(pureRun P s).bind fun a=>pureRun P (f a):=by
 show pureRun P (Sem.bind s f)=_
 induction s with
 |pure a=>rfl
 |program k ih=>exact ih P
 |mark m k ih=>exact ih
 |_=>rfl
@[simp] theorem iop_binOp (op:BinOp) (t yt:TypeId) (x y:Operand):iop J ⟨dst,.binOp op t x y yt,type,pos,after,guard⟩ T H=binR J op t x y (iev T x) (iev T y) H:=by
 have hp:ipure J ⟨dst,.binOp op t x y yt,type,pos,after,guard⟩ T H=if flat (iev T x)&&flat (iev T y) then pureR (pureRun J.P (do eqGuard op t x y (iev T x) (iev T y);binOp op t (iev T x) (iev T y))) H else none:=by
  unfold ipure
  have h1:((⟨dst,.binOp op t x y yt,type,pos,after,guard⟩:Oper).op.operands.all fun z=>flat (iev T z))=(flat (iev T x)&&flat (iev T y)):=by simp [Op.operands]
  rw [h1]
  split
  ·have h2:execOp (iev T) ⟨dst,.binOp op t x y yt,type,pos,after,guard⟩=(do pure (Next.value (←(do eqGuard op t x y (iev T x) (iev T y);binOp op t (iev T x) (iev T y)))):Sem Next):=rfl
   rw [h2,pureRun_bind]
   unfold pureR
   cases pureRun J.P (do eqGuard op t x y (iev T x) (iev T y);binOp op t (iev T x) (iev T y))<;>rfl
  ·rfl
 unfold binR
 simp only [iop,hp]
 rfl
theorem binR_pure {op:BinOp} {t:TypeId} {x y:Operand} {a b:Value} {v:Value} (hn:nilEq a b=none) (hf:(flat a&&flat b)=true) (hg:eqGuard op t x y a b=pure ()) (hb:pureRun J.P (binOp op t a b)=some v) (hv:flat v=true):
  binR J op t x y a b H=some (.val v H):=by
 unfold binR
 rw [hn]
 have:pureR (pureRun J.P (do eqGuard op t x y a b;binOp op t a b)) H=some (.val v H):=by
  rw [hg]
  show pureR (pureRun J.P (binOp op t a b)) H=_
  rw [hb];simp [pureR,hv]
 cases op<;>simp [hf,this]
section
variable (t:TypeId) (x y:Operand) (k:IntKind) (a b:Int)
@[simp] theorem bin_add:binR J .add t x y (.int k a) (.int k b) H=some (.val (.int k (k.wrap (a+b))) H):=binR_pure J H rfl rfl rfl (by simp [binOp,Op.intArith,pure,pureRun]) rfl
@[simp] theorem bin_sub:binR J .sub t x y (.int k a) (.int k b) H=some (.val (.int k (k.wrap (a-b))) H):=binR_pure J H rfl rfl rfl (by simp [binOp,Op.intArith,pure,pureRun]) rfl
@[simp] theorem bin_mul:binR J .mul t x y (.int k a) (.int k b) H=some (.val (.int k (k.wrap (a*b))) H):=binR_pure J H rfl rfl rfl (by simp [binOp,Op.intArith,pure,pureRun]) rfl
@[simp] theorem bin_quo (h:(b=0)=False):binR J .quo t x y (.int k a) (.int k b) H=some (.val (.int k (k.wrap (a.tdiv b))) H):=binR_pure J H rfl rfl rfl (by simp [binOp,Op.intDiv,pure,pureRun,h]) rfl
@[simp] theorem bin_rem (h:(b=0)=False):binR J .rem t x y (.int k a) (.int k b) H=some (.val (.int k (a.tmod b)) H):=binR_pure J H rfl rfl rfl (by simp [binOp,Op.intDiv,pure,pureRun,h]) rfl
@[simp] theorem bin_lss:binR J .lss t x y (.int k a) (.int k b) H=some (.val (.bool (decide (a<b))) H):=binR_pure J H rfl rfl rfl (by simp [binOp,Op.intCmp,pure,pureRun]) rfl
@[simp] theorem bin_leq:binR J .leq t x y (.int k a) (.int k b) H=some (.val (.bool (decide (a≤b))) H):=binR_pure J H rfl rfl rfl (by simp [binOp,Op.intCmp,pure,pureRun]) rfl
@[simp] theorem bin_gtr:binR J .gtr t x y (.int k a) (.int k b) H=some (.val (.bool (decide (b<a))) H):=binR_pure J H rfl rfl rfl (by simp [binOp,Op.intCmp,pure,pureRun]) rfl
@[simp] theorem bin_geq:binR J .geq t x y (.int k a) (.int k b) H=some (.val (.bool (decide (b≤a))) H):=binR_pure J H rfl rfl rfl (by simp [binOp,Op.intCmp,pure,pureRun]) rfl
@[simp] theorem bin_eql:binR J .eql t x y (.int k a) (.int k b) H=some (.val (.bool (decide (a=b))) H):=binR_pure J H rfl rfl rfl (by simp [binOp,Op.intCmp,pure,pureRun];rfl) rfl
@[simp] theorem bin_neq:binR J .neq t x y (.int k a) (.int k b) H=some (.val (.bool (!decide (a=b))) H):=binR_pure J H rfl rfl rfl (by simp [binOp,Op.intCmp,pure,pureRun,bne];rfl) rfl
@[simp] theorem bin_shl (k2:IntKind) (h:(b<0)=False):binR J .shl t x y (.int k a) (.int k2 b) H=some (.val (.int k (k.wrap (a*2^min b.toNat k.bits))) H):=binR_pure J H rfl rfl rfl (by simp [binOp,Op.shift,pure,pureRun,h]) rfl
@[simp] theorem bin_shr (k2:IntKind) (h:(b<0)=False):binR J .shr t x y (.int k a) (.int k2 b) H=some (.val (.int k (a.fdiv (2^min b.toNat k.bits))) H):=binR_pure J H rfl rfl rfl (by simp [binOp,Op.shift,pure,pureRun,h]) rfl
end
section
variable (t:TypeId) (x y:Operand) (s u:ByteArray)
theorem toList_eq (s u:ByteArray):(s.toList==u.toList)=decide (s=u):=by
 rw [←beq_toListBytes,Bool.eq_iff_iff,decide_eq_true_eq]
 exact ⟨ba_eq,fun h=>by rw [h];exact ba_self _⟩
@[simp] theorem bin_seql:binR J .eql t x y (.string s) (.string u) H=some (.val (.bool (decide (s=u))) H):=binR_pure J H rfl rfl rfl (by simp [binOp,Op.stringOp,pure,pureRun,toList_eq]) rfl
@[simp] theorem bin_sneq:binR J .neq t x y (.string s) (.string u) H=some (.val (.bool (!decide (s=u))) H):=binR_pure J H rfl rfl rfl (by simp [binOp,Op.stringOp,pure,pureRun,toList_eq]) rfl
@[simp] theorem bin_sadd (h:(((s.size+u.size:Nat):Int)>9223372036854775807)=False):binR J .add t x y (.string s) (.string u) H=some (.val (.string (s++u)) H):=
 binR_pure J H rfl rfl rfl (by
  have h':¬(((s.size+u.size:Nat):Int)>IntKind.i64.max):=by
   rw [show IntKind.i64.max=9223372036854775807 from rfl];simpa using h
  simp only [binOp,Op.stringOp]
  rw [if_neg h']
  rfl) rfl
end
@[simp] theorem bin_beql (t:TypeId) (x y:Operand) (a b:Bool) (h:J.und t=some .bool):binR J .eql t x y (.bool a) (.bool b) H=some (.val (.bool (a==b)) H):=binR_pure J H rfl rfl rfl (by
  simp only [binOp,Op.equal,Op.maxDepth]
  rw [pureRun_bind]
  have:pureRun J.P (Op.equalIn 10000 t (.bool a) (.bool b))=some (a==b):=by
   show pureRun J.P (Op.equalIn (9999+1) t (.bool a) (.bool b))=_
   unfold Op.equalIn
   rw [pureRun_bind]
   have:pureRun J.P (underlying t)=some .bool:=by
    unfold underlying
    rw [pureRun_bind]
    simp [program,pureRun,J.und_ok h,pure]
   rw [this];rfl
  rw [this];rfl) rfl
@[simp] theorem bin_nil_eql (t:TypeId) (x y:Operand) (a b:Value) (r:Bool) (h:nilEq a b=some r) (hf:(fitsNil J t a&&fitsNil J t b)=true):binR J .eql t x y a b H=some (.val (.bool r) H):=by
 unfold binR
 rw [h];simp only [hf,if_true]
@[simp] theorem bin_nil_neq (t:TypeId) (x y:Operand) (a b:Value) (r:Bool) (h:nilEq a b=some r) (hf:(fitsNil J t a&&fitsNil J t b)=true):binR J .neq t x y a b H=some (.val (.bool (!r)) H):=by
 unfold binR
 rw [h];simp only [hf,if_true]
theorem iop_len_string (x:Operand) (t:TypeId) (s:ByteArray) (hx:iev T x=.string s) (hu:J.und t=some .string):iop J ⟨dst,.call ⟨.builtin .len,#[x],#[t]⟩,type,pos,after,guard⟩ T H=some (.val (.int .i64 s.size) H):=
 iop_len' J T H dst type pos after guard x t _ (by simp [lenR,hx,hu])
theorem iop_len_slice (x:Operand) (t e:TypeId) (a:Option Addr) (n c:Nat) (hx:iev T x=.slice a n c) (hu:J.und t=some (.slice e)):iop J ⟨dst,.call ⟨.builtin .len,#[x],#[t]⟩,type,pos,after,guard⟩ T H=some (.val (.int .i64 n) H):=
 iop_len' J T H dst type pos after guard x t _ (by simp [lenR,hx,hu])
def lenV (J:Env) (t:TypeId) (v:Value):Option Value:=
 match v with
 | .string s=>if (J.und t matches some .string) then some (.int .i64 s.size) else none
 | .slice _ n _=>if (J.und t matches some (.slice _)) then some (.int .i64 n) else none
 |_=>none
theorem iop_len (x:Operand) (t:TypeId) (v:Value) (h:lenV J t (iev T x)=some v):iop J ⟨dst,.call ⟨.builtin .len,#[x],#[t]⟩,type,pos,after,guard⟩ T H=some (.val v H):=by
 unfold lenV at h
 split at h
 ·rename_i s hx
  split at h
  ·rename_i hu
   cases h
   exact iop_len_string J T H dst type pos after guard x t s hx hu
  ·simp at h
 ·rename_i a n c hx
  split at h
  ·rename_i hu
   cases h
   exact iop_len_slice J T H dst type pos after guard x t _ a n c hx hu
  ·simp at h
 ·simp at h
@[simp] theorem iop_append (x y:Operand) (at_:Array TypeId):iop J ⟨dst,.call ⟨.builtin .append,#[x,y],at_⟩,type,pos,after,guard⟩ T H=OR.ofPair (iappend J at_ (iev T x) (iev T y) H):=by
 simp [iop,icall0]
@[simp] theorem iop_copy (x y:Operand) (at_:Array TypeId):iop J ⟨dst,.call ⟨.builtin .copy,#[x,y],at_⟩,type,pos,after,guard⟩ T H=OR.ofPair (icopy J at_ (iev T x) (iev T y) H):=by
 simp [iop,icall0]
end
section
variable {α:Type}
open Classical in
noncomputable def lim (f:Nat→Option α):Option α:=if h:∃k v,f k=some v then f (Classical.choose h) else none
def MonoS (f:Nat→Option α):Prop:=∀k k',k≤k'→∀v,f k=some v→f k'=some v
theorem lim_of {f:Nat→Option α} (hm:MonoS f) {k:Nat} {v:α} (h:f k=some v):lim f=some v:=by
 have he:∃k v,f k=some v:=⟨k,v,h⟩
 unfold lim
 rw [dif_pos he]
 obtain ⟨u,hu⟩:=Classical.choose_spec he
 rw [hu]
 rcases Nat.le_total k (Classical.choose he) with h1|h1
 ·rw [hm _ _ h1 v h] at hu;exact hu.symm
 ·rw [hm _ _ h1 u hu] at h;exact h
theorem of_lim {f:Nat→Option α} (hm:MonoS f) {v:α} (h:lim f=some v):∃k,∀j,k≤j→f j=some v:=by
 unfold lim at h
 split at h
 ·exact ⟨_,fun j hj=>hm _ _ hj v h⟩
 ·simp at h
theorem opt_ext {a b:Option α} (h1:∀v,a=some v→b=some v) (h2:∀v,b=some v→a=some v):a=b:=by
 cases a with
 |some v=>exact (h1 v rfl).symm
 |none=>cases b with
  |some v=>exact h2 v rfl
  |none=>rfl
end
noncomputable def cal (J:Env) (okf:FuncId→Bool) (f:FuncId) (args:Array Value) (H:IH):Option (IE×IH):=lim fun k=>icall J okf k f args H
noncomputable def run (J:Env) (okf:FuncId→Bool) (c:Code) (T:Regs) (H:IH):Option (IX×Regs×IH):=lim fun k=>icode J (icall J okf k) k c T H
section
variable {J:Env} {okf:FuncId→Bool}
theorem cal_mono (f:FuncId) (args:Array Value) (H:IH):MonoS fun k=>icall J okf k f args H:=fun k k' hk v h=>icall_mono k k' hk f args H v h
theorem run_mono (c:Code) (T:Regs) (H:IH):MonoS fun k=>icode J (icall J okf k) k c T H:=fun k k' hk v h=>icode_mono (icall_mono k k' hk) k c T H v k' hk h
theorem cal_of {k:Nat} {f:FuncId} {args:Array Value} {H:IH} {r:IE×IH} (h:icall J okf k f args H=some r):cal J okf f args H=some r:=lim_of (cal_mono f args H) h
theorem of_cal {f:FuncId} {args:Array Value} {H:IH} {r:IE×IH} (h:cal J okf f args H=some r):∃k,∀j,k≤j→icall J okf j f args H=some r:=of_lim (cal_mono f args H) h
theorem run_of {k1 k2:Nat} {c:Code} {T:Regs} {H:IH} {r:IX×Regs×IH} (h:icode J (icall J okf k1) k2 c T H=some r):run J okf c T H=some r:=
 lim_of (run_mono c T H) (k:=max k1 k2) (icode_mono (icall_mono k1 _ (Nat.le_max_left _ _)) k2 c T H r _ (Nat.le_max_right _ _) h)
theorem of_run {c:Code} {T:Regs} {H:IH} {r:IX×Regs×IH} (h:run J okf c T H=some r):∃k,∀k1 k2,k≤k1→k≤k2→icode J (icall J okf k1) k2 c T H=some r:=by
 obtain ⟨k,hk⟩:=of_lim (run_mono c T H) h
 exact ⟨k,fun k1 k2 h1 h2=>icode_mono (icall_mono k k1 h1) k c T H r k2 h2 (hk k (Nat.le_refl _))⟩
theorem mono_cal (k:Nat):Mono (icall J okf k) (cal J okf):=fun _ _ _ _ h=>cal_of h
theorem of_iexec {o:Oper} {T:Regs} {H:IH} {r:IE×IH} (h:iexec J (cal J okf) o T H=some r):∃k,∀j,k≤j→iexec J (icall J okf j) o T H=some r:=by
 rw [iexec_eq] at h
 cases hi:iop J o T H with
 |none=>simp [hi,orStep] at h
 |some y=>
  cases y with
  |enter f args H'=>
   rw [hi] at h
   obtain ⟨k,hk⟩:=of_cal (r:=r) h
   exact ⟨k,fun j hj=>by rw [iexec_eq,hi];exact hk j hj⟩
  |_=>exact ⟨0,fun j _=>by rw [iexec_eq,hi];rw [hi] at h;exact h⟩
theorem of_iops (ops:Array Oper):∀(l:List Oper) (T:Regs) (H:IH) (r:IX×Regs×IH),iops J (cal J okf) ops l T H=some r→∃k,∀j,k≤j→iops J (icall J okf j) ops l T H=some r:=by
 intro l
 induction l with
 |nil=>intro T H r h;exact ⟨0,fun _ _=>h⟩
 |cons o l ih=>
  intro T H r h
  rw [iops_cons] at h
  by_cases hw:wantedR ops T o=true
  ·rw [if_pos hw] at h
   cases he:iexec J (cal J okf) o T H with
   |none=>simp [he,opStep] at h
   |some y=>
    obtain ⟨k1,hk1⟩:=of_iexec he
    rw [he] at h
    obtain ⟨e,H'⟩:=y
    cases e with
    |ret v=>
     obtain ⟨k2,hk2⟩:=ih _ _ _ h
     refine ⟨max k1 k2,fun j hj=>?_⟩
     rw [iops_cons,if_pos hw,hk1 j (by omega)]
     exact hk2 j (by omega)
    |pan v=>
     refine ⟨k1,fun j hj=>?_⟩
     rw [iops_cons,if_pos hw,hk1 j hj]
     exact h
  ·rw [if_neg hw] at h
   obtain ⟨k2,hk2⟩:=ih _ _ _ h
   refine ⟨k2,fun j hj=>?_⟩
   rw [iops_cons,if_neg hw]
   exact hk2 j hj
theorem of_drun (ops:Array Oper):∀(l:List Oper) (s:DSt) (r:DSt×Option Value),drun J (cal J okf) ops l s=some r→∃k,∀j,k≤j→drun J (icall J okf j) ops l s=some r:=by
 intro l
 induction l with
 |nil=>intro s r h;exact ⟨0,fun _ _=>h⟩
 |cons o l ih=>
  intro s r h
  simp only [drun] at h
  by_cases hw:wantedR ops s.T o=true
  ·rw [if_pos hw] at h
   cases he:iexec J (cal J okf) o s.T s.H with
   |none=>simp [he] at h
   |some y=>
    obtain ⟨k1,hk1⟩:=of_iexec he
    rw [he] at h
    obtain ⟨e,H'⟩:=y
    cases e with
    |ret v=>
     obtain ⟨k2,hk2⟩:=ih _ _ h
     refine ⟨max k1 k2,fun j hj=>?_⟩
     simp only [drun]
     rw [if_pos hw,hk1 j (by omega)]
     exact hk2 j (by omega)
    |pan v=>
     refine ⟨k1,fun j hj=>?_⟩
     simp only [drun]
     rw [if_pos hw,hk1 j hj]
     exact h
  ·rw [if_neg hw] at h
   obtain ⟨k2,hk2⟩:=ih _ _ h
   refine ⟨k2,fun j hj=>?_⟩
   simp only [drun]
   rw [if_neg hw]
   exact hk2 j hj
theorem of_idraw {ops:Array Oper} {T:Regs} {H:IH} {r:IX×Regs×IH} (h:idraw J (cal J okf) ops T H=some r):∃k,∀j,k≤j→idraw J (icall J okf j) ops T H=some r:=by
 unfold idraw at h
 cases he:drun J (cal J okf) ops ops.toList ⟨T,H,[],[H]⟩ with
 |none=>simp [he] at h
 |some y=>
  obtain ⟨k,hk⟩:=of_drun ops _ _ _ he
  refine ⟨k,fun j hj=>?_⟩
  unfold idraw
  rw [hk j hj]
  rw [he] at h;exact h
end
/-! ### Code, as equations -/
section
variable (J:Env) (okf:FuncId→Bool) (T:Regs) (H:IH)
theorem run_of1 (c:Code) (x:Option (IX×Regs×IH)) (h:∀k,icode J (icall J okf k) (k+1) c T H=x):run J okf c T H=x:=by
 refine opt_ext (fun v hv=>?_) (fun v hv=>?_)
 ·obtain ⟨k,hk⟩:=of_run hv
  rw [←h k];exact hk k (k+1) (Nat.le_refl _) (by omega)
 ·exact run_of (k1:=0) (k2:=1) ((h 0).trans hv)
@[simp] theorem r_skip:run J okf .skip T H=some (.normal,T,H):=run_of1 _ _ _ _ _ _ fun _=>rfl
@[simp] theorem r_label (l:Nat):run J okf (.label l) T H=some (.normal,T,H):=run_of1 _ _ _ _ _ _ fun _=>rfl
@[simp] theorem r_exit (i:Nat):run J okf (.exit i) T H=some (.exit i,T,H):=run_of1 _ _ _ _ _ _ fun _=>rfl
@[simp] theorem r_ret:run J okf .ret T H=some (.ret,T,H):=run_of1 _ _ _ _ _ _ fun _=>rfl
theorem r_region' (i:Nat) (ops:Array Oper):run J okf (.region i ops false) T H=iops J (cal J okf) ops ops.toList T H:=by
 refine opt_ext (fun v hv=>?_) (fun v hv=>?_)
 ·obtain ⟨k,hk⟩:=of_run hv
  exact iops_mono (mono_cal k) _ _ _ _ _ (hk k (k+1) (Nat.le_refl _) (by omega))
 ·obtain ⟨k,hk⟩:=of_iops _ _ _ _ _ hv
  exact run_of (k1:=k) (k2:=1) (hk k (Nat.le_refl _))
@[simp] theorem r_region (i:Nat) (ops:List Oper):run J okf (.region i ops.toArray false) T H=iops J (cal J okf) ops.toArray ops T H:=by rw [r_region']
theorem r_draw (i:Nat) (ops:Array Oper):run J okf (.region i ops true) T H=idraw J (cal J okf) (arrange J ops) T H:=by
 refine opt_ext (fun v hv=>?_) (fun v hv=>?_)
 ·obtain ⟨k,hk⟩:=of_run hv
  exact idraw_mono (mono_cal k) _ _ _ _ (hk k (k+1) (Nat.le_refl _) (by omega))
 ·obtain ⟨k,hk⟩:=of_idraw hv
  exact run_of (k1:=k) (k2:=1) (hk k (Nat.le_refl _))
noncomputable def rseq (J:Env) (okf:FuncId→Bool) (b:Code) (r:Option (IX×Regs×IH)):Option (IX×Regs×IH):=
 match r with
 |some (.normal,T',H')=>run J okf b T' H'
 |r=>r
@[simp] theorem rs_normal (b:Code):rseq J okf b (some (.normal,T,H))=run J okf b T H:=rfl
@[simp] theorem rs_exit (b:Code) (i:Nat):rseq J okf b (some (.exit i,T,H))=some (.exit i,T,H):=rfl
@[simp] theorem rs_ret (b:Code):rseq J okf b (some (.ret,T,H))=some (.ret,T,H):=rfl
@[simp] theorem rs_pan (b:Code) (v:Value):rseq J okf b (some (.pan v,T,H))=some (.pan v,T,H):=rfl
theorem r_two (c a b:Code) (h:∀k call,icode J call (k+1) c T H=andThen (icode J call k a T H) fun T' H'=>icode J call k b T' H'):run J okf c T H=rseq J okf b (run J okf a T H):=by
 refine opt_ext (fun v hv=>?_) (fun v hv=>?_)
 ·obtain ⟨k,hk⟩:=of_run hv
  have h1:=hk k (k+1) (Nat.le_refl _) (by omega)
  rw [h] at h1
  cases he:icode J (icall J okf k) k a T H with
  |none=>simp [he,andThen] at h1
  |some y=>
   rw [run_of he]
   rw [he] at h1
   obtain ⟨e,T',H'⟩:=y
   cases e<;>first|exact run_of h1|exact h1
 ·cases ha:run J okf a T H with
  |none=>simp [ha,rseq] at hv
  |some y=>
   rw [ha] at hv
   obtain ⟨k1,hk1⟩:=of_run ha
   obtain ⟨e,T',H'⟩:=y
   cases e with
   |normal=>
    obtain ⟨k2,hk2⟩:=of_run hv
    refine run_of (k1:=max k1 k2) (k2:=max k1 k2+1) ?_
    rw [h,hk1 _ _ (by omega) (by omega)]
    exact hk2 _ _ (by omega) (by omega)
   |_=>
    refine run_of (k1:=k1) (k2:=k1+1) ?_
    rw [h,hk1 _ _ (by omega) (by omega)]
    exact hv
@[simp] theorem r_seq (a b:Code):run J okf (.seq a b) T H=rseq J okf b (run J okf a T H):=r_two J okf T H _ a b fun k call=>icode_seq J call k T H a b
theorem r_loop (c:Code):run J okf (.loop c) T H=rseq J okf (.loop c) (run J okf c T H):=r_two J okf T H _ c (.loop c) fun k call=>icode_loop J call k T H c
noncomputable def rcond (J:Env) (okf:FuncId→Bool) (x y:Code) (T:Regs) (H:IH) (v:Value):Option (IX×Regs×IH):=
 match v with
 | .bool true=>run J okf x T H
 | .bool false=>run J okf y T H
 |_=>none
@[simp] theorem rc_t (x y:Code):rcond J okf x y T H (.bool true)=run J okf x T H:=rfl
@[simp] theorem rc_f (x y:Code):rcond J okf x y T H (.bool false)=run J okf y T H:=rfl
@[simp] theorem r_cond (c:Operand) (x y:Code):run J okf (.cond c x y) T H=rcond J okf x y T H (iev T c):=by
 refine opt_ext (fun v hv=>?_) (fun v hv=>?_)
 ·obtain ⟨k,hk⟩:=of_run hv
  have h1:=hk k (k+1) (Nat.le_refl _) (by omega)
  rw [icode_cond] at h1
  cases hc:iev T c with
  |bool b=>
   rw [hc] at h1
   cases b<;>exact run_of h1
  |_=>rw [hc] at h1;simp [branch] at h1
 ·cases hc:iev T c with
  |bool b=>
   rw [hc] at hv
   cases b<;>
   ·obtain ⟨k,hk⟩:=of_run hv
    refine run_of (k1:=k) (k2:=k+1) ?_
    rw [icode_cond,hc]
    exact hk _ _ (Nat.le_refl _) (Nat.le_refl _)
  |_=>rw [hc] at hv;simp [rcond] at hv
@[simp] theorem r_block (id:Nat) (c:Code):run J okf (.block id c) T H=blockOut id (run J okf c T H):=by
 refine opt_ext (fun v hv=>?_) (fun v hv=>?_)
 ·obtain ⟨k,hk⟩:=of_run hv
  have h1:=hk k (k+1) (Nat.le_refl _) (by omega)
  rw [icode_block] at h1
  cases he:icode J (icall J okf k) k c T H with
  |none=>simp [he,blockOut] at h1
  |some y=>rw [run_of he,←he];exact h1
 ·cases ha:run J okf c T H with
  |none=>simp [ha,blockOut] at hv
  |some y=>
   rw [ha] at hv
   obtain ⟨k,hk⟩:=of_run ha
   refine run_of (k1:=k) (k2:=k+1) ?_
   rw [icode_block,hk _ _ (Nat.le_refl _) (Nat.le_refl _)]
   exact hv
@[simp] theorem r_scope (c:Code):run J okf (.scope c) T H=run J okf c T H:=by
 refine opt_ext (fun v hv=>?_) (fun v hv=>?_)
 ·obtain ⟨k,hk⟩:=of_run hv
  exact run_of (k1:=k) (k2:=k) (hk k (k+1) (Nat.le_refl _) (by omega))
 ·obtain ⟨k,hk⟩:=of_run hv
  exact run_of (k1:=k) (k2:=k+1) (hk k k (Nat.le_refl _) (Nat.le_refl _))
theorem cal_body (f:FuncId) (args:Array Value) (rs:List ResultVar) (c:Code) (h:∀k,icall J okf (k+1) f args H=finish J rs (icode J (icall J okf k) k c (regsOf args.toList 0 .leaf) H)):
  cal J okf f args H=finish J rs (run J okf c (regsOf args.toList 0 .leaf) H):=by
 refine opt_ext (fun v hv=>?_) (fun v hv=>?_)
 ·obtain ⟨k,hk⟩:=of_cal hv
  have h1:=hk (k+1) (by omega)
  rw [h] at h1
  cases he:icode J (icall J okf k) k c (regsOf args.toList 0 .leaf) H with
  |none=>simp [he,finish] at h1
  |some y=>rw [run_of he,←he];exact h1
 ·cases ha:run J okf c (regsOf args.toList 0 .leaf) H with
  |none=>simp [ha,finish] at hv
  |some y=>
   rw [ha] at hv
   obtain ⟨k,hk⟩:=of_run ha
   refine cal_of (k:=k+1) ?_
   rw [h,hk _ _ (Nat.le_refl _) (Nat.le_refl _)]
   exact hv
end
/-! ### Drawn regions -/
section
variable (J:Env) (call:CallR) (T:Regs) (H:IH)
noncomputable def idrawP:=@idraw
noncomputable def dOut (J:Env) (call:CallR) (ops:List Oper) (T:Regs) (H:IH) (r:Option (IX×Regs×IH)):Option (IX×Regs×IH):=
 match r with
 |some (.pan _,_,_)=>idrawP J call ops.toArray T H
 |r=>r
@[simp] theorem dOut_normal (ops:List Oper) (T':Regs) (H':IH):dOut J call ops T H (some (.normal,T',H'))=some (.normal,T',H'):=rfl
theorem dcheck_nil {ops:Array Oper} (h:pairs J ops= []) (vs:List (Regs×Value)) (hs:List IH):dcheck J ops vs hs=true:=by
 unfold dcheck
 split
 ·rfl
 ·rw [h];rfl
def dGo (J:Env) (call:CallR) (ops:Array Oper) (r:List Oper) (o:Oper) (T:Regs) (H:IH) (vs:List (Regs×Value)) (hs:List IH) (b:Bool):Option (DSt×Option Value):=
 match b with
 |true=>match orStep call (iop J o T H) with
  |some (.ret v,H')=>drun J call ops r ⟨putR T o.dst v,H',vs++[(T,v)],if isEff J o then hs++[H'] else hs⟩
  |some (.pan v,H')=>some (⟨T,H',vs,hs⟩,some v)
  |none=>none
 |false=>drun J call ops r ⟨putR T o.dst undef,H,vs++[(T,undef)],if isEff J o then hs++[H] else hs⟩
def dRes (J:Env) (call:CallR) (ops:Array Oper) (r:List Oper) (o:Oper) (T:Regs) (vs:List (Regs×Value)) (hs:List IH) (x:Option (IE×IH)):Option (DSt×Option Value):=
 match x with
 |some (.ret v,H')=>drun J call ops r ⟨putR T o.dst v,H',vs++[(T,v)],if isEff J o then hs++[H'] else hs⟩
 |some (.pan v,H')=>some (⟨T,H',vs,hs⟩,some v)
 |none=>none
@[simp] theorem drun_nil (ops:Array Oper) (s:DSt):drun J call ops [] s=some (s,none):=rfl
@[simp] theorem dGo_true (ops:Array Oper) (o:Oper) (r:List Oper) (vs:List (Regs×Value)) (hs:List IH):dGo J call ops r o T H vs hs true=dRes J call ops r o T vs hs (orStep call (iop J o T H)):=rfl
@[simp] theorem dGo_false (ops:Array Oper) (o:Oper) (r:List Oper) (vs:List (Regs×Value)) (hs:List IH):dGo J call ops r o T H vs hs false=drun J call ops r ⟨putR T o.dst undef,H,vs++[(T,undef)],if isEff J o then hs++[H] else hs⟩:=rfl
@[simp] theorem dRes_ret (ops:Array Oper) (o:Oper) (r:List Oper) (vs:List (Regs×Value)) (hs:List IH) (v:Value):dRes J call ops r o T vs hs (some (.ret v,H))=drun J call ops r ⟨putR T o.dst v,H,vs++[(T,v)],if isEff J o then hs++[H] else hs⟩:=rfl
end
theorem Tr.setF_setF {α:Type} (x y:α):∀(k:Nat) (t:Tr α) (n:Nat),n<k→Tr.setF y k (Tr.setF x k t n) n=Tr.setF y k t n:=by
 intro k
 induction k with
 |zero=>intro t n h;omega
 |succ k ih=>
  intro t n h
  cases t with
  |leaf=>
   simp only [Tr.setF]
   by_cases h0:n=0
   ·simp [h0,Tr.setF]
   ·by_cases h1:n%2=1
    ·simp only [h0,h1,if_true,if_false,Tr.setF]
     rw [ih _ _ (by omega)]
    ·simp only [h0,h1,if_false,Tr.setF]
     rw [ih _ _ (by omega)]
  |node v l r=>
   simp only [Tr.setF]
   by_cases h0:n=0
   ·simp [h0,Tr.setF]
   ·by_cases h1:n%2=1
    ·simp only [h0,h1,if_true,if_false,Tr.setF]
     rw [ih _ _ (by omega)]
    ·simp only [h0,h1,if_false,Tr.setF]
     rw [ih _ _ (by omega)]
namespace IH
@[simp] theorem set_set (H:IH) (b:Nat) (x y:Blk):(H.set b x).set b y=H.set b y:=by
 unfold IH.set Tr.set
 simp only [Tr.setF_setF x y (b+1) H.t b (by omega)]
@[simp] theorem get_set_same (H:IH) (b:Nat) (x:Blk):(H.set b x).get b=some x:=by rw [get_set,if_pos rfl]
@[simp] theorem get_push_same (H:IH) (x:Blk):(H.push x).get H.next=some x:=by rw [get_push,if_pos rfl]
theorem get_push_other (H:IH) (c:Nat) (x:Blk) (h:c<H.next):(H.push x).get c=H.get c:=by rw [get_push,if_neg (by omega)]
end IH
section
variable (J:Env) (H:IH)
@[simp] theorem add_addr (b off n:Nat):Addr.add ⟨b,off,none⟩ n=⟨b,off+n,none⟩:=add_plain b off n
def cellOf (x:Option Blk) (off:Nat):Option Value:=
 match x with
 |some (.cells cs _ _)=>cs[off]?
 |_=>none
@[simp] theorem cellOf_cells (cs:List Value) (e:TypeId) (pr:Bool) (off:Nat):cellOf (some (.cells cs e pr)) off=cs[off]?:=rfl
@[simp] theorem icell_eq (b off:Nat):icell H ⟨b,off,none⟩=cellOf (H.get b) off:=by
 simp only [icell,cellOf]
 split<;>simp_all
def cellsOf (x:Option Blk) (off n:Nat):Option (List Value):=
 match x with
 |some (.cells cs _ _)=>if off+n≤cs.length then some ((cs.drop off).take n) else none
 |_=>none
@[simp] theorem cellsOf_cells (cs:List Value) (e:TypeId) (pr:Bool) (off n:Nat):cellsOf (some (.cells cs e pr)) off n=if off+n≤cs.length then some ((cs.drop off).take n) else none:=rfl
@[simp] theorem icells_eq (b off n:Nat):icells H ⟨b,off,none⟩ n=cellsOf (H.get b) off n:=by
 simp only [icells,cellsOf]
 split<;>simp_all
def putOf (H:IH) (b off:Nat) (vs:List Value) (x:Option Blk):Option IH:=
 match x with
 |some (.cells cs e false)=>if off+vs.length≤cs.length∧vs≠[]∧vs.all plain1 then some (H.set b (.cells (overlay cs off vs) e false)) else none
 |_=>none
@[simp] theorem putOf_cells (b off:Nat) (vs cs:List Value) (e:TypeId):putOf H b off vs (some (.cells cs e false))=if off+vs.length≤cs.length∧vs≠[]∧vs.all plain1 then some (H.set b (.cells (overlay cs off vs) e false)) else none:=rfl
@[simp] theorem iput_eq (b off:Nat) (vs:List Value):iput H ⟨b,off,none⟩ vs=putOf H b off vs (H.get b):=by
 simp only [iput,putOf]
 split<;>simp_all
def loadT (J:Env) (t:TypeId) (H:IH) (a:Addr) (x:Option Bool):Option Value:=
 match x with
 |some true=>match J.size t with
  |some n=>(icells H a n).map fun cs=>.agg cs.toArray
  |none=>none
 |some false=>icell H a
 |none=>none
@[simp] theorem iload_eq (t:TypeId) (a:Addr):iload J t a H=loadT J t H a (isAggT J t):=rfl
@[simp] theorem loadT_plain (t:TypeId) (a:Addr):loadT J t H a (some false)=icell H a:=rfl
theorem loadT_agg (t n:Nat) (a:Addr) (h:J.size t=some n):loadT J t H a (some true)=(icells H a n).map fun cs=>.agg cs.toArray:=by simp [loadT,h]
def idxS (s:ByteArray) (i:Int):Option Value:=if 0≤i then (s[i.toNat]?).map fun b=>.int .u8 b.toNat else none
@[simp] theorem index_string (t:TypeId) (s:ByteArray) (k:IntKind) (i:Int) (h:J.und t=some .string):iindex J t (.string s) (.int k i)=idxS s i:=by
 simp [iindex,h,idxS]
theorem idxS_nat (s:ByteArray) (i:Nat) (h:i<s.size):idxS s i=some (.int .u8 (s[i]).toNat):=by
 simp [idxS,h]
@[simp] theorem bound_none (d:Nat):ibound none d=some d:=rfl
/-! A 64-bit reckoning that does not wrap. -/
theorem wrap64 (n:Int) (h1: -9223372036854775808≤n) (h2:n≤9223372036854775807):IntKind.i64.wrap n=n:=by
 simp [IntKind.wrap,IntKind.bits,IntKind.signed]
 omega
end
noncomputable def iopP:=@iop
def lenQ (x:Option Value) (H:IH) (f:Option OR):Option OR:=
 match x with
 |some v=>some (.val v H)
 |none=>f
@[simp] theorem lenQ_some (v:Value) (H:IH) (f:Option OR):lenQ (some v) H f=some (.val v H):=rfl
section
variable (J:Env) (T:Regs) (H:IH) (dst:Option Tmp) (type:TypeId) (pos:String) (after:Array Edge) (guard:Option (Nat×Bool))
@[simp] theorem iop_len_q (x:Operand) (t:TypeId):iop J ⟨dst,.call ⟨.builtin .len,#[x],#[t]⟩,type,pos,after,guard⟩ T H=
  lenQ (lenV J t (iev T x)) H (iopP J ⟨dst,.call ⟨.builtin .len,#[x],#[t]⟩,type,pos,after,guard⟩ T H):=by
 cases h:lenV J t (iev T x) with
 |some v=>exact iop_len J T H dst type pos after guard x t v h
 |none=>rfl
@[simp] theorem lenV_string (t:TypeId) (s:ByteArray) (h:J.und t=some .string):lenV J t (.string s)=some (.int .i64 s.size):=by simp [lenV,h]
def lenS (d:Option TypeDesc) (n:Nat):Option Value:=
 match d with
 |some (.slice _)=>some (.int .i64 n)
 |_=>none
@[simp] theorem lenS_slice (e:TypeId) (n:Nat):lenS (some (.slice e)) n=some (.int .i64 n):=rfl
@[simp] theorem lenV_slice (t:TypeId) (a:Option Addr) (n c:Nat):lenV J t (.slice a n c)=lenS (J.und t) n:=by
 unfold lenV lenS
 dsimp only
 split<;>split<;>simp_all
end
section
variable (J:Env) (T:Regs) (H:IH) (dst:Option Tmp) (type:TypeId) (pos:String) (after:Array Edge) (guard:Option (Nat×Bool))
theorem ipure_of {o:Oper} {v:Value} (hf:(o.op.operands.all fun x=>flat (iev T x))=true) (h:pureRun J.P (execOp (iev T) o)=some (.value v)) (hv:flat v=true):ipure J o T H=some (.val v H):=by
 unfold ipure
 rw [if_pos hf,h]
 simp [hv]
def notR (v:Value) (H:IH):Option OR:=
 match v with
 | .bool b=>some (.val (.bool (!b)) H)
 |_=>none
@[simp] theorem notR_bool (b:Bool):notR (.bool b) H=some (.val (.bool (!b)) H):=rfl
theorem iop_not (t:TypeId) (x:Operand) (b:Bool) (h:iev T x=.bool b):iop J ⟨dst,.unOp .not t x,type,pos,after,guard⟩ T H=some (.val (.bool (!b)) H):=by
 show ipure J _ T H=_
 refine ipure_of J T H (by simp [Op.operands,h,flat,flatN]) ?_ rfl
 simp only [execOp,h]
 rfl
def isB (v:Value):Option Bool:=
 match v with
 | .bool b=>some b
 |_=>none
def notQ (x:Option Bool) (H:IH) (f:Option OR):Option OR:=
 match x with
 |some b=>some (.val (.bool (!b)) H)
 |none=>f
@[simp] theorem notQ_some (b:Bool) (f:Option OR):notQ (some b) H f=some (.val (.bool (!b)) H):=rfl
@[simp] theorem isB_bool (b:Bool):isB (.bool b)=some b:=rfl
@[simp] theorem iop_not_q (t:TypeId) (x:Operand):iop J ⟨dst,.unOp .not t x,type,pos,after,guard⟩ T H=notQ (isB (iev T x)) H (iopP J ⟨dst,.unOp .not t x,type,pos,after,guard⟩ T H):=by
 cases h:iev T x with
 |bool b=>exact iop_not J T H dst type pos after guard t x b h
 |_=>rfl
theorem iop_conv (src d:TypeId) (x:Operand) (k0 k k2:IntKind) (n:Int) (hx:iev T x=.int k n) (hs:J.und src=some (.int k0)) (hd:J.und d=some (.int k2)):
  iop J ⟨dst,.convert src d x,type,pos,after,guard⟩ T H=some (.val (.int k2 (k2.wrap n)) H):=by
 have hi:iconvert J src d (iev T x) H=none:=by simp only [iconvert,hs,hd,hx]
 have hp:ipure J ⟨dst,.convert src d x,type,pos,after,guard⟩ T H=some (.val (.int k2 (k2.wrap n)) H):=by
  refine ipure_of J T H (by simp [Op.operands,hx,flat,flatN]) ?_ rfl
  simp only [execOp,hx]
  have e:pureRun J.P (convert src d (.int k n))=some (.int k2 (k2.wrap n)):=by
   unfold convert
   rw [pureRun_bind]
   have h1:∀t u,J.und t=some u→pureRun J.P (underlying t)=some u:=fun t u h=>by
    unfold underlying
    rw [pureRun_bind]
    simp [program,pureRun,J.und_ok h,pure]
   rw [h1 _ _ hs]
   simp only [Option.bind_some]
   rw [pureRun_bind,h1 _ _ hd]
   simp only [Option.bind_some]
   rfl
  rw [pureRun_bind,e];rfl
 simp only [iop,hi,hp]
def convQ (_J:Env) (s d:Option TypeDesc) (v:Value):Option Value:=
 match s,d,v with
 |some (.int _),some (.int k2),.int _ n=>some (.int k2 (k2.wrap n))
 |_,_,_=>none
@[simp] theorem convQ_int (k1 k2 k:IntKind) (n:Int):convQ J (some (.int k1)) (some (.int k2)) (.int k n)=some (.int k2 (k2.wrap n)):=rfl
def convR (x:Option (Value×IH)) (f:Option OR):Option OR:=
 match x with
 |some (v,H')=>some (.val v H')
 |none=>f
@[simp] theorem convR_some (v:Value) (H':IH) (f:Option OR):convR (some (v,H')) f=some (.val v H'):=rfl
@[simp] theorem convR_none (f:Option OR):convR none f=f:=rfl
@[simp] theorem iconvert_int (s d:TypeId) (k:IntKind) (n:Int):iconvert J s d (.int k n) H=none:=by
 unfold iconvert
 split<;>simp_all
@[simp] theorem iop_convR (src d:TypeId) (x:Operand):iop J ⟨dst,.convert src d x,type,pos,after,guard⟩ T H=convR (iconvert J src d (iev T x) H) (lenQ (convQ J (J.und src) (J.und d) (iev T x)) H (iopP J ⟨dst,.convert src d x,type,pos,after,guard⟩ T H)):=by
 cases hi:iconvert J src d (iev T x) H with
 |some p=>simp only [iop,hi];rfl
 |none=>
  simp only [convR_none]
  cases h:convQ J (J.und src) (J.und d) (iev T x) with
  |none=>rfl
  |some v=>
   unfold convQ at h
   split at h
   ·rename_i k1 k2 k n h1 h2 h3
    cases h
    exact iop_conv J T H dst type pos after guard src d x k1 k k2 n h3 h1 h2
   ·simp at h
theorem ext_run {P:Program} {f:Operand} {g:FuncId} {fn:Func} {args:Array Operand} {at_:Array TypeId} {e:Array Value→Sem Value} {v:Value} (hf:iev T f=.func (.func g) #[] #[]) (hfn:P.funcs[g]?=some fn)
  (hname:(fn.name== "runtime.NumGoroutine")=false) (hb:fn.body.isNone=true) (hn:Extern.findNext fn=none) (he:Extern.find fn=some e) (hv:pureRun P (e (args.map (iev T)))=some v):
  pureRun P (execOp (iev T) ⟨dst,.call ⟨.value f,args,at_⟩,type,pos,after,guard⟩)=some (.value v):=by
 have h0:pureRun P (callFunc g (args.map (iev T)))=some (.value v):=by
  unfold callFunc
  rw [pureRun_bind]
  show Option.bind (some P) _=_
  simp only [Option.bind_some,hfn,hname,hb,if_true,if_false,Bool.false_eq_true,hn,he]
  rw [pureRun_bind]
  show Option.bind (some ()) _=_
  simp only [Option.bind_some]
  rw [pureRun_bind,hv];rfl
 unfold execOp
 dsimp only
 unfold resolve
 dsimp only
 rw [hf]
 unfold Deferred.ofValue
 rw [pureRun_bind]
 show Option.bind (some _) _=_
 simp only [Option.bind_some]
 unfold invoke
 dsimp only
 simpa using h0
end
def BsAt (_J:Env) (e:TypeId) (H:IH) (v:Value) (l:List Int) (lo:Nat):Prop:=
 (v=.slice none 0 0∧l= [])∨∃b,lo≤b∧b<H.next∧v=.slice (some ⟨b,0,none⟩) l.length capU∧H.get b=some (.cells (l.map (Value.int .u8)) e false)
structure BT (J:Env) (st e:TypeId):Prop where
 und:J.und st=some (.slice e)
 size:J.size e=some 1
 bytes:J.bytes e=some 1
 zero:J.zero e=some (.int .u8 0)
 byte:J.und e=some (.int .u8)
theorem take_map (l:List Int):List.take l.length (l.map (Value.int IntKind.u8))=l.map (Value.int IntKind.u8):=by
 have:=List.take_length (l:=l.map (Value.int IntKind.u8))
 rwa [List.length_map] at this
theorem bytesOf_ints (l:List Int):bytesOfCells (l.map (Value.int .u8))=some (l.map fun n=>UInt8.ofNat n.toNat):=by
 induction l with
 |nil=>rfl
 |cons n l ih=>simp [bytesOfCells,ih]
section
variable {J:Env} {st e:TypeId} (hT:BT J st e)
include hT
def strOf (l:List Int):ByteArray:=⟨(l.map fun n=>UInt8.ofNat n.toNat).toArray⟩
theorem conv_bytes {H:IH} {v:Value} {l:List Int} {lo:Nat} {d:TypeId} (hv:BsAt J e H v l lo) (hd:J.und d=some .string):iconvert J st d v H=some (.string (strOf l),H):=by
 rcases hv with ⟨rfl,rfl⟩|⟨b,h1,h2,rfl,h4⟩
 ·simp [iconvert,hT.und,hd,hT.byte];rfl
 ·have hm:=bytesOf_ints l
  simp [iconvert,hT.und,hd,hT.byte,h4,hm,strOf,take_map]
end
section
variable (J:Env) (T:Regs) (H:IH) (dst:Option Tmp) (type:TypeId) (pos:String) (after:Array Edge) (guard:Option (Nat×Bool))
def orI (k:IntKind) (a b:Int):Int:=k.wrap ((BitVec.ofInt k.bits a ||| BitVec.ofInt k.bits b).toNat:Int)
def andI (k:IntKind) (a b:Int):Int:=k.wrap ((BitVec.ofInt k.bits a &&& BitVec.ofInt k.bits b).toNat:Int)
def andnI (k:IntKind) (a b:Int):Int:=k.wrap ((BitVec.ofInt k.bits a &&& ~~~ BitVec.ofInt k.bits b).toNat:Int)
def xorI (k:IntKind) (a b:Int):Int:=k.wrap ((BitVec.ofInt k.bits a ^^^ BitVec.ofInt k.bits b).toNat:Int)
section
variable (t:TypeId) (x y:Operand) (k:IntKind) (a b:Int)
@[simp] theorem bin_or:binR J .or t x y (.int k a) (.int k b) H=some (.val (.int k (orI k a b)) H):=binR_pure J H rfl rfl rfl (by simp [binOp,Op.intBits,pure,pureRun];rfl) rfl
@[simp] theorem bin_and:binR J .and t x y (.int k a) (.int k b) H=some (.val (.int k (andI k a b)) H):=binR_pure J H rfl rfl rfl (by simp [binOp,Op.intBits,pure,pureRun];rfl) rfl
@[simp] theorem bin_andNot:binR J .andNot t x y (.int k a) (.int k b) H=some (.val (.int k (andnI k a b)) H):=binR_pure J H rfl rfl rfl (by simp only [binOp,Op.intBits,pure,pureRun,ne_eq,not_true_eq_false,if_false];rfl) rfl
end
def notI (k:IntKind) (n:Int):Int:=xorI k (if k.signed then -1 else k.max) n
def isI (v:Value):Option Value:=
 match v with
 | .int k n=>some (.int k (notI k n))
 |_=>none
@[simp] theorem isI_int (k:IntKind) (n:Int):isI (.int k n)=some (.int k (notI k n)):=rfl
end
inductive Dat (J:Env) {K:Type} (H:IH):TypeId→List Value→DataW K→Prop
 |bool {t:TypeId} (b:Bool):J.und t=some .bool→Dat J H t [.bool b] (.lit (.bool b))
 |int {t:TypeId} {k:IntKind} {n:Int}:J.und t=some (.int k)→(Lit.int k n).wf=true→Dat J H t [.int k n] (.lit (.int k n))
 |string {t:TypeId} {s:ByteArray}:J.und t=some .string→s.size≤maxLen→Dat J H t [.string s] (.lit (.string s.data.toList))
 |nil {t e:TypeId}:J.und t=some (.slice e)→Dat J H t [.slice none 0 0] .nil
 |slice {t e:TypeId} {n b len:Nat} {cs:List Value} {ds rest:List (DataW K)}:J.und t=some (.slice e)→J.size e=some n→0<n→b<H.next→(0<len→H.get b=some (.cells cs e true))→cs.length=len*n→ds.length=len→len≤maxLen→
   (∀i d,ds[i]?=some d→Dat J H e ((cs.drop (i*n)).take n) d)→Dat J H t [.slice (some ⟨b,0,none⟩) len capU] (.slice ds rest)
 |struct {t:TypeId} {fs:Array Field} {cs:List Value} {ds:List (DataW K)}:J.und t=some (.struct fs)→J.size t=some cs.length→ds.length=fs.size→
   (∀(i:Nat) (f:Field),fs[i]?=some f→∃n,J.size f.type=some n∧f.offset+n≤cs.length)→
   (∀(i:Nat) (f:Field) (d:DataW K) (n:Nat),fs[i]?=some f→ds[i]?=some d→J.size f.type=some n→Dat J H f.type ((cs.drop f.offset).take n) d)→Dat J H t cs (.agg ds)
 |array {t e:TypeId} {m n:Nat} {cs:List Value} {ds:List (DataW K)}:J.und t=some (.array m e)→J.size e=some n→cs.length=m*n→ds.length=m→
   (∀i d,ds[i]?=some d→Dat J H e ((cs.drop (i*n)).take n) d)→Dat J H t cs (.agg ds)
def Keeps (H H':IH):Prop:=H.next≤H'.next∧∀b x,H.get b=some x→H'.get b=some x
theorem Keeps.refl (H:IH):Keeps H H:=⟨Nat.le_refl _,fun _ _ h=>h⟩
theorem Keeps.trans {H H' H'':IH} (h:Keeps H H') (h':Keeps H' H''):Keeps H H'':=⟨Nat.le_trans h.1 h'.1,fun b x hx=>h'.2 b x (h.2 b x hx)⟩
theorem Dat.keeps {J:Env} {K:Type} {H H':IH} (hk:Keeps H H') {t:TypeId} {cs:List Value} {d:DataW K} (h:Dat J H t cs d):Dat J H' t cs d:=by
 induction h with
 |bool b h=>exact .bool b h
 |int h1 h2=>exact .int h1 h2
 |string h1 h2=>exact .string h1 h2
 |nil h=>exact .nil h
 |slice h1 h2 h3 h8 h4 h5 h6 h7 _ ih=>exact .slice h1 h2 h3 (Nat.lt_of_lt_of_le h8 hk.1) (fun h=>hk.2 _ _ (h4 h)) h5 h6 h7 ih
 |struct h1 h2 h3 h4 _ ih=>exact .struct h1 h2 h3 h4 ih
 |array h1 h2 h3 h4 _ ih=>exact .array h1 h2 h3 h4 ih
def plainFs (J:Env) (p:TypeId→Bool):List Field→Nat→Nat→Bool
 | [],o,n=>o==n
 |f::r,o,n=>f.offset==o&&p f.type&&(match J.size f.type with|some s=>plainFs J p r (o+s) n|none=>false)
def plainT (J:Env):Nat→TypeId→Bool
 |0,_=>false
 |k+1,t=>match J.und t,J.size t with
  |some .bool,some n=>n==1
  |some (.int _),some n=>n==1
  |some .string,some n=>n==1
  |some (.slice e),some n=>n==1&&(match J.size e with|some s=>s !=0&&plainT J k e|none=>false)
  |some (.struct fs),some n=>plainFs J (plainT J k) fs.toList 0 n
  |some (.array m e),some n=>(match J.size e with|some s=>n==m*s&&plainT J k e|none=>false)
  |_,_=>false
section
variable {J:Env} {B:Bd} {w:World} {K:Type} {enc:TypeId×Value→K} {held:Bool}
theorem cellsOf_eq {t:TypeId} {n:Nat} (h:J.size t=some n):J.P.cellsOf t=n:=by
 obtain ⟨i,h1,h2⟩:=J.size_ok h
 unfold Program.cellsOf
 rw [h1];exact h2
theorem cells_heap {a:Addr} {n:Nat} {cs:List Value} (h:w.cells? 0 a n=some cs) (hn:0<n):∃rc re fr,w.heap[a.block]?=some (.cells rc re fr)∧a.spot=none∧a.off+n≤rc.size∧cs.length=n∧∀i,i<n→rc[a.off+i]?=cs[i]?:=by
 obtain ⟨_,hl,hc⟩:=World.cells?_some h
 have h0:=hc 0 hn
 rw [List.getElem?_eq_getElem (by omega)] at h0
 unfold World.cell? at h0
 have hsp:a.spot=none:=by
  cases hs:a.spot with
  |none=>rfl
  |some s=>
   have:(a.add 0).spot.isSome=true:=by unfold Addr.add;simp [hs]
   rw [this] at h0
   split at h0<;>simp at h0
 have hadd:∀i,a.add i=⟨a.block,a.off+i,none⟩:=fun i=>by obtain ⟨ab,ao,asp⟩:=a;simp only at hsp;subst hsp;unfold Addr.add;split<;>simp_all
 rw [hadd] at h0
 simp only at h0
 cases hh:w.heap[a.block]? with
 |none=>rw [hh] at h0;cases h0
 |some o=>
  cases o with
  |cells rc re fr=>
   have key:∀i,i<n→rc[a.off+i]?=cs[i]?:=fun i hi=>by
    have:=hc i hi
    rw [hadd] at this
    unfold World.cell? at this
    simp only [hh] at this
    simpa using this
   refine ⟨rc,re,fr,rfl,hsp,?_,hl,key⟩
   have:=key (n-1) (by omega)
   rw [List.getElem?_eq_getElem (by omega)] at this
   have:=(Array.getElem?_eq_some_iff.1 this).1
   omega
  |_=>rw [hh] at h0;cases h0
theorem Sim.pushRO {ι:Emb} {H:IH} (hS:Sim J B ι H w) {rb ro esz:Nat} {rc:Array Value} {re e:TypeId} {fr:Nat×Nat} (hb:w.heap[rb]?=some (.cells rc re fr)) (hB:rb<B.lo) (hx:¬B.ex rb) {cs:List Value}
  (hc:∀(i:Nat) (v:Value),cs[i]?=some v→∃v',rc[ro+i]?=some v'∧VRel ι H.next v v') (he:J.size e=some esz):
  ∃ι',Sim J B ι' (H.push (.cells cs e true)) w∧Ext ι H.next ι' (H.next+1)∧ι' H.next=⟨rb,ro,esz,rc.size⟩:=by
 refine ⟨fun b=>if b=H.next then ⟨rb,ro,esz,rc.size⟩ else ι b,?_,⟨by omega,fun b hb=>if_neg (by omega)⟩,if_pos rfl⟩
 have hext:Ext ι H.next (fun b=>if b=H.next then ⟨rb,ro,esz,rc.size⟩ else ι b) (H.next+1):=⟨by omega,fun b hb=>if_neg (by omega)⟩
 have hold:∀b x,(H.push (.cells cs e true)).get b=some x→b≠H.next→H.get b=some x:=fun b x hx hne=>by rw [IH.get_push,if_neg hne] at hx;exact hx
 have hnew:∀x,(H.push (.cells cs e true)).get H.next=some x→x=.cells cs e true:=fun x hx=>by rw [IH.get_push,if_pos rfl] at hx;exact (Option.some.inj hx).symm
 constructor
 ·exact hS.base
 ·intro g hg
  obtain ⟨h1,h2,h3⟩:=hS.glob g hg
  refine ⟨by simp;omega,?_,?_⟩<;>rw [if_neg (by omega)]<;>assumption
 ·intro b x hx
  by_cases hne:b=H.next
  ·simp [hne]
  ·have:=hS.lt b x (hold b x hx hne);simp;omega
 ·intro b cs' e' pr hx
  by_cases hne:b=H.next
  ·subst hne
   cases hnew _ hx
   refine ⟨rc,re,fr,by rw [if_pos rfl];exact hb,fun i v hv=>?_,by rw [if_pos rfl],by rw [if_pos rfl];exact he,fun h=>by cases h⟩
   rw [if_pos rfl]
   obtain ⟨v',q1,q2⟩:=hc i v hv
   exact ⟨v',q1,q2.ext hext⟩
  ·obtain ⟨rc',re',fr',q1,q2,q3⟩:=hS.cells b cs' e' pr (hold b _ hx hne)
   refine ⟨rc',re',fr',by rw [if_neg hne];exact q1,fun i v hv=>?_,by rw [if_neg hne];exact q3⟩
   rw [if_neg hne]
   obtain ⟨v',r1,r2⟩:=q2 i v hv
   exact ⟨v',r1,r2.ext hext⟩
 ·intro b cs' e' hx
  by_cases hne:b=H.next
  ·subst hne;cases hnew _ hx
  ·rw [if_neg hne];exact hS.rows b cs' e' (hold b _ hx hne)
 ·intro b es pr hx
  by_cases hne:b=H.next
  ·subst hne;cases hnew _ hx
  ·rw [if_neg hne]
   obtain ⟨res,clk,q1,q2,q3,q4⟩:=hS.maps b es pr (hold b _ hx hne)
   exact ⟨res,clk,q1,q2,fun i en hen=>by obtain ⟨r,r1,r2,r3⟩:=q3 i en hen;exact ⟨r,r1,r2.ext hext,r3.ext hext⟩,q4⟩
 ·intro b s p hx
  by_cases hne:b=H.next
  ·subst hne;cases hnew _ hx
  ·rw [if_neg hne];exact hS.iters b s p (hold b _ hx hne)
 ·exact hS.keep
 ·have wr:∀b x,H.get b=some x→writable x=true→B.own (ι b).rb:=fun b x hx hw=>by
   cases x with
   |cells cs' e' pr=>
    obtain ⟨_,_,_,_,_,_,_,q⟩:=hS.cells b cs' e' pr hx
    exact (q (by simpa [writable] using hw)).1
   |map es pr=>
    obtain ⟨_,_,_,_,_,q⟩:=hS.maps b es pr hx
    exact q (by simpa [writable] using hw)
   |iter s p=>exact (hS.iters b s p hx).2
   |dead=>simp [writable] at hw
  intro b b' x x' hx hx' ha ha' hne hw
  by_cases h1:b=H.next
  ·subst h1
   cases hnew _ hx
   have h2:b'≠H.next:=fun h=>hne h.symm
   have hw':writable x'=true:=by simpa [writable] using hw
   have:=wr b' x' (hold b' x' hx' h2) hw'
   rw [if_pos rfl,if_neg h2]
   show rb≠_
   have:=this.1
   omega
  ·by_cases h2:b'=H.next
   ·subst h2
    cases hnew _ hx'
    have hw':writable x=true:=by simpa [writable] using hw
    have:=wr b x (hold b x hx h1) hw'
    rw [if_neg h1,if_pos rfl]
    show _≠rb
    have:=this.1
    omega
   ·rw [if_neg h1,if_neg h2]
    exact hS.apart b b' x x' (hold b x hx h1) (hold b' x' hx' h2) ha ha' hne hw
 ·intro b x hb ha
  by_cases h1:b=H.next
  ·subst h1
   rw [if_pos rfl];exact hx
  ·rw [if_neg h1];exact hS.out b x (hold b x hb h1) ha
theorem keeps_push {ι:Emb} {H:IH} (hS:Sim J B ι H w) (x:Blk):Keeps H (H.push x):=
 ⟨by simp,fun b y hy=>by rw [IH.get_push,if_neg (by have:=hS.lt b y hy;omega)];exact hy⟩
theorem Sim.pushDead {ι:Emb} {H:IH} (hS:Sim J B ι H w):Sim J B ι (H.push .dead) w:=by
 have hext:Ext ι H.next ι (H.push .dead).next:=⟨by simp,fun _ _=>rfl⟩
 have hold:∀b x,(H.push .dead).get b=some x→x≠.dead→H.get b=some x:=fun b x hx hne=>by
  rw [IH.get_push] at hx
  split at hx
  ·exact absurd (Option.some.inj hx).symm hne
  ·exact hx
 constructor
 ·exact hS.base
 ·intro g hg
  obtain ⟨h1,h2,h3⟩:=hS.glob g hg
  exact ⟨by simp;omega,h2,h3⟩
 ·intro b x hx
  rw [IH.get_push] at hx
  split at hx
  ·simp;omega
  ·have:=hS.lt b x hx;simp;omega
 ·intro b cs e pr hx
  obtain ⟨rc,re,fr,q1,q2,q3⟩:=hS.cells b cs e pr (hold b _ hx (by simp))
  exact ⟨rc,re,fr,q1,fun i v hv=>let ⟨v',r1,r2⟩:=q2 i v hv;⟨v',r1,r2.ext hext⟩,q3⟩
 ·intro b cs e hx;exact hS.rows b cs e (hold b _ hx (by simp))
 ·intro b es pr hx
  obtain ⟨res,clk,q1,q2,q3,q4⟩:=hS.maps b es pr (hold b _ hx (by simp))
  exact ⟨res,clk,q1,q2,fun i en hen=>by obtain ⟨r,r1,r2,r3⟩:=q3 i en hen;exact ⟨r,r1,r2.ext hext,r3.ext hext⟩,q4⟩
 ·intro b s p hx;exact hS.iters b s p (hold b _ hx (by simp))
 ·exact hS.keep
 ·intro b b' x x' hx hx' ha ha' hne hw
  exact hS.apart b b' x x' (hold b x hx (by rintro rfl;cases ha)) (hold b' x' hx' (by rintro rfl;cases ha')) ha ha' hne hw
 ·intro b x hb ha
  exact hS.out b x (hold b x hb (by rintro rfl;cases ha)) ha
def Lays (J:Env) (B:Bd) (w:World) (enc:TypeId×Value→K) (held:Bool) (t:TypeId):Prop:=
 ∀(m:Nat) (cs:List Value) (x:DataW K×List MemPlace) (ι:Emb) (H:IH),DataW.trod enc J.P w 0 (fun _=>true) held m t cs=some x→Sim J B ι H w→
  ∃(ι':Emb) (H':IH) (cs':List Value),Sim J B ι' H' w∧Ext ι H.next ι' H'.next∧Keeps H H'∧LRel ι' H'.next cs' cs∧Dat J H' t cs' x.1∧J.size t=some cs'.length
theorem lays_many {e:TypeId} {n:Nat} (hsz:J.size e=some n) (he:Lays J B w enc held e) (m:Nat) (row:Nat→List Value) (y:Nat→DataW K×List MemPlace):∀(len:Nat) (ι:Emb) (H:IH),(∀i,i<len→DataW.trod enc J.P w 0 (fun _=>true) held m e (row i)=some (y i))→
  Sim J B ι H w→∃(ι':Emb) (H':IH) (cs':List Value),Sim J B ι' H' w∧Ext ι H.next ι' H'.next∧Keeps H H'∧cs'.length=len*n∧(∀i,i<len→LRel ι' H'.next ((cs'.drop (i*n)).take n) (row i))∧∀i,i<len→Dat J H' e ((cs'.drop (i*n)).take n) (y i).1:=by
 intro len
 induction len with
 |zero=>intro ι H _ hS;exact ⟨ι,H,[],hS,Ext.refl _ _,Keeps.refl _,by simp,fun i hi=>by omega,fun i hi=>by omega⟩
 |succ len ih=>
  intro ι H hy hS
  obtain ⟨ι1,H1,cs1,q1,q2,q3,q4,q5,q6⟩:=ih ι H (fun i hi=>hy i (by omega)) hS
  obtain ⟨ι2,H2,cs2,r1,r2,r3,r4,r5,r6⟩:=he m _ _ ι1 H1 (hy len (by omega)) q1
  have h2:cs2.length=n:=by rw [hsz] at r6;exact (Option.some.inj r6).symm
  have cut:∀i,i<len→((cs1++cs2).drop (i*n)).take n=(cs1.drop (i*n)).take n:=fun i hi=>by
   have h3:(i+1)*n≤len*n:=Nat.mul_le_mul_right n (by omega)
   rw [Nat.add_mul] at h3
   rw [List.drop_append_of_le_length (by omega),List.take_append_of_le_length (by rw [List.length_drop];omega)]
  have cut2:((cs1++cs2).drop (len*n)).take n=cs2:=by
   rw [List.drop_append,List.drop_of_length_le (by omega),List.nil_append,q4,Nat.sub_self,List.drop_zero,List.take_of_length_le (by omega)]
  refine ⟨ι2,H2,cs1++cs2,r1,q2.trans r2,q3.trans r3,by rw [List.length_append,q4,h2,Nat.add_mul];omega,fun i hi=>?_,fun i hi=>?_⟩
  ·by_cases h:i<len
   ·rw [cut i h];exact (q5 i h).ext r2
   ·obtain rfl:i=len:=by omega
    rw [cut2];exact r4
  ·by_cases h:i<len
   ·rw [cut i h];exact (q6 i h).keeps r3
   ·obtain rfl:i=len:=by omega
    rw [cut2];exact r5
theorem lays_fields {p:TypeId→Bool} (hp:∀t,p t=true→Lays J B w enc held t) (m:Nat) (cs:List Value):∀(fs:List Field) (o n:Nat) (xs:List (DataW K×List MemPlace)) (ι:Emb) (H:IH),plainFs J p fs o n=true→n≤cs.length→xs.length=fs.length→
  (∀(i:Nat) (f:Field),fs[i]?=some f→DataW.trod enc J.P w 0 (fun _=>true) held m f.type ((cs.drop f.offset).take (J.P.cellsOf f.type))=xs[i]?)→
  Sim J B ι H w→∃(ι':Emb) (H':IH) (cs':List Value),Sim J B ι' H' w∧Ext ι H.next ι' H'.next∧Keeps H H'∧o+cs'.length=n∧LRel ι' H'.next cs' ((cs.drop o).take (n-o))∧
   ∀(i:Nat) (f:Field) (x:DataW K×List MemPlace),fs[i]?=some f→xs[i]?=some x→∃s,J.size f.type=some s∧o≤f.offset∧f.offset+s≤n∧Dat J H' f.type ((cs'.drop (f.offset-o)).take s) x.1:=by
 intro fs
 induction fs with
 |nil=>
  intro o n xs ι H h hn hl _ hS
  simp only [plainFs,beq_iff_eq] at h
  subst h
  exact ⟨ι,H,[],hS,Ext.refl _ _,Keeps.refl _,by simp,by rw [Nat.sub_self,List.take_zero];exact LRel.nil,fun i f x hf=>by simp at hf⟩
 |cons f fs ih=>
  intro o n xs ι H h hn hl hx hS
  simp only [plainFs,Bool.and_eq_true,beq_iff_eq] at h
  obtain ⟨⟨h1,h2⟩,h3⟩:=h
  split at h3
  case h_2=>cases h3
  rename_i s hs
  cases xs with
  |nil=>simp at hl
  |cons x xs=>
   have hx0:=hx 0 f rfl
   rw [cellsOf_eq hs] at hx0
   obtain ⟨ι1,H1,cs1,q1,q2,q3,q4,q5,q6⟩:=hp _ h2 m _ x ι H hx0 hS
   obtain ⟨ι2,H2,cs2,r1,r2,r3,r4,r5,r6⟩:=ih (o+s) n xs ι1 H1 h3 hn (by simpa using hl) (fun i g hg=>hx (i+1) g (by simpa using hg)) q1
   have hl1:cs1.length=s:=by rw [hs] at q6;exact (Option.some.inj q6).symm
   refine ⟨ι2,H2,cs1++cs2,r1,q2.trans r2,q3.trans r3,by rw [List.length_append];omega,?_,fun i g y hg hy=>?_⟩
   ·have e:(cs.drop o).take (n-o)=(cs.drop f.offset).take s++(cs.drop (o+s)).take (n-(o+s)):=by
     rw [h1,show n-o=s+(n-(o+s)) by omega,List.take_add,List.drop_drop]
    rw [e]
    exact (q4.ext r2).append r5
   ·cases i with
    |zero=>
     obtain rfl:f=g:=by simpa using hg
     obtain rfl:x=y:=by simpa using hy
     refine ⟨s,hs,by omega,by omega,?_⟩
     rw [h1,Nat.sub_self,List.drop_zero,List.take_append_of_le_length (by omega),List.take_of_length_le (by omega)]
     exact q5.keeps r3
    |succ i=>
     obtain ⟨s',k1,k2,k3,k4⟩:=r6 i g y (by simpa using hg) (by simpa using hy)
     refine ⟨s',k1,by omega,k3,?_⟩
     rw [List.drop_append,List.drop_of_length_le (by omega),List.nil_append,hl1,show g.offset-o-s=g.offset-(o+s) by omega]
     exact k4
theorem lays (hB:B=Bd.at w.heap.size):∀(k:Nat) (t:TypeId),plainT J k t=true→Lays J B w enc held t:=by
 intro k
 induction k with
 |zero=>intro t h;simp [plainT] at h
 |succ k ih=>
  intro t h m cs x ι H htr hS
  simp only [plainT] at h
  split at h
  ·
   rename_i n hu hn
   obtain ⟨b,rfl,rfl⟩:=DataW.trod_bool (J.und_ok hu) htr
   obtain rfl:n=1:=by simpa using h
   exact ⟨ι,H,_,hS,Ext.refl _ _,Keeps.refl _,.cons (.bool b) .nil,.bool b hu,hn⟩
  ·rename_i kk n hu hn
   obtain ⟨i,rfl,rfl,hw⟩:=DataW.trod_int (J.und_ok hu) htr
   obtain rfl:n=1:=by simpa using h
   exact ⟨ι,H,_,hS,Ext.refl _ _,Keeps.refl _,.cons (.int _ _) .nil,.int hu hw,hn⟩
  ·rename_i n hu hn
   obtain ⟨s,rfl,rfl,hw⟩:=DataW.trod_string (J.und_ok hu) htr
   obtain rfl:n=1:=by simpa using h
   exact ⟨ι,H,_,hS,Ext.refl _ _,Keeps.refl _,.cons (.string _) .nil,.string hu hw,hn⟩
  ·
   rename_i e n hu hn
   simp only [Bool.and_eq_true,beq_iff_eq] at h
   obtain ⟨rfl,h⟩:=h
   split at h
   case h_2=>cases h
   rename_i s hs
   simp only [Bool.and_eq_true,bne_iff_ne,ne_eq] at h
   obtain ⟨hs0,hpl⟩:=h
   have hcell:=cellsOf_eq hs
   rcases DataW.trod_slice (J.und_ok hu) htr with ⟨rfl,rfl⟩|⟨a,len,cap,elems,rest,m',_,rfl,rfl,_,hlc,hcm,hlen,hel,hsp,_⟩
   ·exact ⟨ι,H,_,hS,Ext.refl _ _,Keeps.refl _,.cons .sliceN .nil,.nil hu,hn⟩
   ·have hsp:=hsp rfl
    rw [hcell] at hel hsp
    by_cases hc0:cap=0
    ·subst hc0
     obtain rfl:len=0:=by omega
     refine ⟨ι,H.push .dead,[.slice (some ⟨H.next,0,none⟩) 0 capU],hS.pushDead,⟨by simp,fun _ _=>rfl⟩,keeps_push hS _,.cons (.slice0 (.inr rfl)) .nil,?_,hn⟩
     exact .slice (cs:=[]) hu hs (by omega) (by simp) (fun h=>by omega) (by simp) (by simpa using hlen) (by unfold maxLen;omega) fun i d hd=>by
      have:(elems.map (·.1)).length=0:=by simpa using hlen
      rw [List.length_eq_zero_iff.1 this] at hd
      simp at hd
    ·
     have hrow:∀i,i<cap→∃r,w.cells? 0 (a.add (i*s)) s=some r:=fun i hi=>by
      by_cases h1:i<len
      ·have:=hel i h1
       rw [List.getElem?_eq_getElem (by omega)] at this
       obtain ⟨r,hr,_⟩:=Option.bind_eq_some_iff.1 this
       exact ⟨r,hr⟩
      ·have:=hsp.2 (i-len) (by omega)
       rw [List.getElem?_eq_getElem (by omega),show len+(i-len)=i by omega] at this
       obtain ⟨r,hr,_⟩:=Option.bind_eq_some_iff.1 this
       exact ⟨r,hr⟩
     obtain ⟨r0,hr0⟩:=hrow 0 (by omega)
     obtain ⟨rc,re,fr,hh,hspot0,hb0,_,_⟩:=cells_heap hr0 (by omega)
     have hspot:a.spot=none:=by
      unfold Addr.add at hspot0
      cases ha:a.spot with
      |none=>rfl
      |some q=>simp [ha] at hspot0
     have hadd:∀i,a.add i=⟨a.block,a.off+i,none⟩:=fun i=>by obtain ⟨ab,ao,asp⟩:=a;simp only at hspot;subst hspot;unfold Addr.add;split<;>simp_all
     have hat:∀i,i<cap→∃r,w.cells? 0 (a.add (i*s)) s=some r∧a.off+i*s+s≤rc.size∧r.length=s∧∀j,j<s→rc[a.off+i*s+j]?=r[j]?:=fun i hi=>by
      obtain ⟨r,hr⟩:=hrow i hi
      obtain ⟨rc',re',fr',q1,_,q3,q4,q5⟩:=cells_heap hr (by omega)
      rw [hadd] at q1 q3 q5 hh
      simp only at q1 q3 q5 hh
      rw [hh] at q1
      cases q1
      exact ⟨r,hr,q3,q4,q5⟩
     rw [hadd] at hh
     simp only at hh
     have hblk:a.block<B.lo:=by rw [hB];exact (Array.getElem?_eq_some_iff.1 hh).1
     have hend:a.off+cap*s≤rc.size:=by
      obtain ⟨r,_,q,_⟩:=hat (cap-1) (by omega)
      have e1:(cap-1)*s+s=cap*s:=by
       rw [←Nat.succ_mul]
       congr 1
       omega
      omega
     obtain ⟨row,hrw⟩:∃row:Nat→List Value,∀i,i<cap→w.cells? 0 (a.add (i*s)) s=some (row i):=⟨fun i=>(w.cells? 0 (a.add (i*s)) s).getD [],fun i hi=>by obtain ⟨r,hr⟩:=hrow i hi;simp [hr]⟩
     obtain ⟨y,hy⟩:∃y:Nat→DataW K×List MemPlace,∀i,i<len→elems[i]?=some (y i):=⟨fun i=>elems.getD i (.nil,[]),fun i hi=>by (have:i<elems.length:=by omega);simp [this]⟩
     obtain ⟨ι1,H1,cs1,q1,q2,q3,q4,q5,q6⟩:=lays_many hs (ih e hpl) m' row y len ι H (fun i hi=>by
      have:=hel i hi
      rw [hrw i (by omega),hy i hi] at this
      simpa using this) hS
     obtain ⟨ι2,r1,r2,r3⟩:=q1.pushRO (ro:=a.off) (e:=e) (esz:=s) (cs:=cs1) hh hblk (by rw [hB];exact id) (fun j v hv=>by
      have hj:j<len*s:=by rw [←q4];exact (List.getElem?_eq_some_iff.1 hv).1
      have hs1:0<s:=by omega
      have hi:j / s<len:=Nat.div_lt_of_lt_mul (by rw [Nat.mul_comm];exact hj)
      have hm:=Nat.mod_lt j hs1
      have hjd:j / s*s+j%s=j:=by rw [Nat.mul_comm];exact Nat.div_add_mod j s
      obtain ⟨r,hr,_,hrl,hrc⟩:=hat (j / s) (by omega)
      have h1:((cs1.drop (j / s*s)).take s)[j%s]?=some v:=by
       rw [List.getElem?_take,if_pos hm,List.getElem?_drop,hjd];exact hv
      obtain ⟨v',h2,h3⟩:=(q5 (j / s) hi).get h1
      rw [hrw _ (by omega)] at hr
      cases hr
      refine ⟨v',?_,h3⟩
      rw [←h2,←hrc _ hm]
      congr 1
      omega) hs
     refine ⟨ι2,H1.push (.cells cs1 e true),[.slice (some ⟨H1.next,0,none⟩) len capU],r1,q2.trans r2,q3.trans (keeps_push q1 _),.cons ?_ .nil,?_,hn⟩
     ·exact .slice (a:=⟨H1.next,0,none⟩) (a':=a) ⟨rfl,by simp,by rw [r3];obtain ⟨ab,ao,asp⟩:=a;simp only at hspot;subst hspot;simp⟩ (.inr rfl) hlc (by rw [r3];exact hend)
     ·refine .slice hu hs (by omega) (by simp) (fun _=>by rw [IH.get_push,if_pos rfl]) q4 (by simpa using hlen) (Nat.le_trans hlc hcm) fun i d hd=>?_
      have hi:i<len:=by
       have:=(List.getElem?_eq_some_iff.1 hd).1
       simpa [hlen] using this
      rw [List.getElem?_map,hy i hi] at hd
      cases hd
      exact (q6 i hi).keeps (keeps_push q1 _)
  ·
   rename_i fs n hu hn
   obtain ⟨xs,m',_,rfl,hl,hxl,hxf⟩:=DataW.trod_struct (J.und_ok hu) htr
   rw [cellsOf_eq hn] at hl
   obtain ⟨ι1,H1,cs1,q1,q2,q3,q4,q5,q6⟩:=lays_fields ih m' cs fs.toList 0 n xs ι H h (by omega) (by simpa using hxl) (fun i f hf=>hxf i f (by simpa using hf)) hS
   refine ⟨ι1,H1,cs1,q1,q2,q3,?_,?_,by rw [hn];congr 1;omega⟩
   ·have:(cs.drop 0).take (n-0)=cs:=by rw [List.drop_zero];exact List.take_of_length_le (by omega)
    rw [←this];exact q5
   ·have one:∀(i:Nat) (f:Field),fs[i]?=some f→∃x,xs[i]?=some x:=fun i f hf=>by
     have:=(Array.getElem?_eq_some_iff.1 hf).1
     exact ⟨_,List.getElem?_eq_getElem (by omega)⟩
    refine .struct hu (by rw [hn];congr 1;omega) (by simpa using hxl) (fun i f hf=>?_) fun i f d s' hf hd hs'=>?_
    ·obtain ⟨x,hx⟩:=one i f hf
     obtain ⟨s,k1,k2,k3,k4⟩:=q6 i f x (by simpa using hf) hx
     exact ⟨s,k1,by omega⟩
    ·obtain ⟨x,hx⟩:=one i f hf
     rw [List.getElem?_map,hx] at hd
     cases hd
     obtain ⟨s,k1,k2,k3,k4⟩:=q6 i f x (by simpa using hf) hx
     rw [hs'] at k1
     cases k1
     exact k4
  ·
   rename_i mm e n hu hn
   split at h
   case h_2=>cases h
   rename_i s hs
   simp only [Bool.and_eq_true,beq_iff_eq] at h
   obtain ⟨rfl,hpl⟩:=h
   obtain ⟨xs,m',_,rfl,hl,hxl,hxf⟩:=DataW.trod_array (J.und_ok hu) htr
   rw [cellsOf_eq hn] at hl
   rw [cellsOf_eq hs] at hxf
   obtain ⟨y,hy⟩:∃y:Nat→DataW K×List MemPlace,∀i,i<mm→xs[i]?=some (y i):=⟨fun i=>xs.getD i (.nil,[]),fun i hi=>by (have:i<xs.length:=by omega);simp [this]⟩
   obtain ⟨ι1,H1,cs1,q1,q2,q3,q4,q5,q6⟩:=lays_many hs (ih e hpl) m' (fun i=>(cs.drop (i*s)).take s) y mm ι H (fun i hi=>by rw [hxf i hi,hy i hi]) hS
   refine ⟨ι1,H1,cs1,q1,q2,q3,⟨by omega,fun j v v' hv hv'=>?_⟩,.array hu hs q4 (by simpa using hxl) fun i d hd=>?_,by rw [hn,q4]⟩
   ·have hj:j<mm*s:=by rw [←q4];exact (List.getElem?_eq_some_iff.1 hv).1
    have hs1:0<s:=by
     rcases Nat.eq_zero_or_pos s with h0|h0
     ·subst h0;simp at hj
     ·exact h0
    have hi:j / s<mm:=Nat.div_lt_of_lt_mul (by rw [Nat.mul_comm];exact hj)
    have hm:=Nat.mod_lt j hs1
    have hjd:j / s*s+j%s=j:=by rw [Nat.mul_comm];exact Nat.div_add_mod j s
    refine (q5 (j / s) hi).2 (j%s) v v' ?_ ?_
    ·rw [List.getElem?_take,if_pos hm,List.getElem?_drop,hjd];exact hv
    ·rw [List.getElem?_take,if_pos hm,List.getElem?_drop,hjd];exact hv'
   ·have hi:i<mm:=by
     have:=(List.getElem?_eq_some_iff.1 hd).1
     simpa [hxl] using this
    rw [List.getElem?_map,hy i hi] at hd
    cases hd
    exact q6 i hi
  ·cases h
def ofCells (J:Env) (t:TypeId) (cs:List Value):Value:=
 match J.und t with
 |some (.struct _)|some (.array _ _)=>.agg cs.toArray
 |_=>match cs with| [v]=>v|_=>undef
end
end Go.Proofs.YtchlbfmjnhgpgaaGreat.Idl
namespace Go.Proofs.YtchlbfmjnhgpgaaGreat.Idl
open Go Go.RowKit Go.WideShapes Go.ChangeShapes
def isAggD (J:Env) (t:TypeId):Bool:=
 match J.und t with
 |some (.struct _)|some (.array _ _)=>true
 |_=>false
theorem ofCells_agg {J:Env} {t:TypeId} {cs:List Value} (h:isAggD J t=true):ofCells J t cs=.agg cs.toArray:=by
 unfold isAggD at h
 unfold ofCells
 cases hu:J.und t with
 |none=>rw [hu] at h;cases h
 |some d=>rw [hu] at h;cases d<;>first|rfl|cases h
theorem ofCells_one {J:Env} {t:TypeId} {v:Value} (h:isAggD J t=false):ofCells J t [v]=v:=by
 unfold isAggD at h
 unfold ofCells
 cases hu:J.und t with
 |none=>rfl
 |some d=>rw [hu] at h;cases d<;>first|rfl|cases h
def DatV (J:Env) {K:Type} (H:IH) (t:TypeId) (v:Value) (d:DataW K):Prop:=∃cs,Dat J H t cs d∧v=ofCells J t cs
theorem DatV.keeps {J:Env} {K:Type} {H H':IH} (hk:Keeps H H') {t:TypeId} {v:Value} {d:DataW K} (h:DatV J H t v d):DatV J H' t v d:=let ⟨cs,h1,h2⟩:=h;⟨cs,h1.keeps hk,h2⟩
inductive DatAll (J:Env) {K:Type} (H:IH):List TypeId→List Value→List (DataW K)→Prop
 |nil:DatAll J H [] [] []
 |cons {t:TypeId} {v:Value} {d:DataW K} {ts:List TypeId} {vs:List Value} {ds:List (DataW K)}:DatV J H t v d→DatAll J H ts vs ds→DatAll J H (t::ts) (v::vs) (d::ds)
section
variable {J:Env} {B:Bd} {w:World} {K:Type} {enc:TypeId×Value→K} {held:Bool}
theorem lay_arg (hB:B=Bd.at w.heap.size) {k:Nat} {t:TypeId} (hp:plainT J k t=true) {r:Reach} {base:Nat} {v:Value} (hv:Value.okWide J.P w r base t v) {d:DataW K} {p:List MemPlace} (ht:DataW.Trod enc J.P w 0 (fun _=>true) held t v d p)
  {ι:Emb} {H:IH} (hS:Sim J B ι H w):∃(ι':Emb) (H':IH) (v':Value),Sim J B ι' H' w∧Ext ι H.next ι' H'.next∧Keeps H H'∧VRel ι' H'.next v' v∧DatV J H' t v' d:=by
 obtain ⟨m,htr⟩:=ht
 obtain ⟨ι',H',cs',h1,h2,h3,h4,h5,h6⟩:=lays hB k t hp m _ _ ι H htr hS
 have one:∀x,v=x→x.cells=#[x]→isAggD J t=false→∃(ι':Emb) (H':IH) (v':Value),Sim J B ι' H' w∧Ext ι H.next ι' H'.next∧Keeps H H'∧VRel ι' H'.next v' v∧DatV J H' t v' d:=fun x hx hc ha=>by
  subst hx
  rw [hc] at h4
  have hl:cs'.length=1:=by simpa using h4.1
  match cs',hl with
  | [y],_=>
   refine ⟨ι',H',y,h1,h2,h3,h4.2 0 y v rfl rfl,[y],h5,?_⟩
   rw [ofCells_one ha]
 have agg:∀cs,v=.agg cs→isAggD J t=true→∃(ι':Emb) (H':IH) (v':Value),Sim J B ι' H' w∧Ext ι H.next ι' H'.next∧Keeps H H'∧VRel ι' H'.next v' v∧DatV J H' t v' d:=fun cs hx ha=>by
  subst hx
  refine ⟨ι',H',.agg cs'.toArray,h1,h2,h3,.agg (by simpa [Value.cells] using h4.1) (fun i x y hx hy=>h4.2 i x y (by simpa using hx) (by simpa [Value.cells] using hy)),cs',h5,?_⟩
  rw [ofCells_agg ha]
 cases k with
 |zero=>simp [plainT] at hp
 |succ k=>
  simp only [plainT] at hp
  unfold Value.okWide at hv
  cases hu:J.und t with
  |none=>simp [hu] at hp
  |some u=>
   rw [J.und_ok hu] at hv
   have hv':Value.okWide J.P w r base t v:=by unfold Value.okWide;rw [J.und_ok hu];exact hv
   cases u<;>try (simp [hu] at hp;done)
   case bool=>
    obtain ⟨b,e⟩:=okWide_bool (J.und_ok hu) hv'
    exact one _ e rfl (by unfold isAggD;rw [hu])
   case int q=>
    obtain ⟨b,e⟩:=okWide_int (J.und_ok hu) hv'
    exact one _ e rfl (by unfold isAggD;rw [hu])
   case string=>
    obtain ⟨b,e⟩:=okWide_string (J.und_ok hu) hv'
    exact one _ e rfl (by unfold isAggD;rw [hu])
   case slice q=>
    obtain ⟨a,l,c,e⟩:=okWide_slice (J.und_ok hu) hv'
    exact one _ e rfl (by unfold isAggD;rw [hu])
   case struct fs=>
    obtain ⟨cs,e,_⟩:=hv
    exact agg _ e (by unfold isAggD;rw [hu])
   case array n e=>
    obtain ⟨cs,e,_⟩:=hv
    exact agg _ e (by unfold isAggD;rw [hu])
theorem lay_args (hB:B=Bd.at w.heap.size) {k:Nat} {r:Reach} {base:Nat}:∀(ts:List TypeId) (vs:List Value) (ds:List (DataW K)) (p:List MemPlace),ts.all (plainT J k)=true→
  (∀(j:Nat) (t:TypeId) (v:Value),ts[j]?=some t→vs[j]?=some v→Value.okWide J.P w r base t v)→DataW.TrodAll enc J.P w 0 (fun _=>true) held ts vs ds p→∀(ι:Emb) (H:IH),Sim J B ι H w→
  ∃(ι':Emb) (H':IH) (vs':List Value),Sim J B ι' H' w∧Ext ι H.next ι' H'.next∧Keeps H H'∧LRel ι' H'.next vs' vs∧DatAll J H' ts vs' ds
 | [],[],[],_,_,_,_,ι,H,hS=>⟨ι,H,[],hS,Ext.refl _ _,Keeps.refl _,.nil,.nil⟩
 |t::ts,v::vs,d::ds,_,hp,hv,⟨p,q,h1,h2,_⟩,ι,H,hS=>by
  rw [List.all_cons,Bool.and_eq_true] at hp
  obtain ⟨ι1,H1,v',a1,a2,a3,a4,a5⟩:=lay_arg hB hp.1 (hv 0 t v rfl rfl) h1 hS
  obtain ⟨ι2,H2,vs',b1,b2,b3,b4,b5⟩:=lay_args hB ts vs ds q hp.2 (fun j t v h h'=>hv (j+1) t v (by simpa using h) (by simpa using h')) h2 ι1 H1 a1
  exact ⟨ι2,H2,v'::vs',b1,a2.trans b2,a3.trans b3,.cons (a4.ext b2) b4,.cons (a5.keeps b3) b5⟩
 | [],_::_,_,_,_,_,h,_,_,_=>h.elim
 | [],[],_::_,_,_,_,h,_,_,_=>h.elim
 |_::_,[],_,_,_,_,h,_,_,_=>h.elim
 |_::_,_::_,[],_,_,_,h,_,_,_=>h.elim
theorem stay_args {P:Program} (hl:laidOutB P=true) {W W':World} (hb:Go.RowKit.Below W.heap.size W W'):∀{ts:List TypeId} {vs:List Value} {ds:List (DataW K)} {p:List MemPlace},(∀t∈ts,P.readableRec t=true∧t<P.types.size)→
  DataW.TrodAll enc P W 0 (fun _=>true) true ts vs ds p→(∀x∈p,x.block<W.heap.size)→DataW.TrodAll enc P W' 0 (fun b=>decide (b<W.heap.size)) true ts vs ds p
 | [],[],[],_,_,h,_=>h
 |t::ts,v::vs,d::ds,_,ht,⟨p,q,h1,h2,e⟩,hlt=>
  ⟨p,q,Go.RowKit.Below.trod hl (ht t (by simp)).1 (ht t (by simp)).2 h1 hb (fun x hx=>hlt x (by rw [e];simp [hx])),
   stay_args hl hb (fun t' h'=>ht t' (by simp [h'])) h2 (fun x hx=>hlt x (by rw [e];simp [hx])),e⟩
 | [],_::_,_,_,_,h,_=>h.elim
 | [],[],_::_,_,_,h,_=>h.elim
 |_::_,[],_,_,_,h,_=>h.elim
 |_::_,_::_,[],_,_,h,_=>h.elim
theorem law_gen {okf:FuncId→Bool} (hsound:∀B k,CallSound J B (icall J okf k)) {W:World} {ι:Emb} {H0:IH} (hS:Sim J (Bd.at W.heap.size) ι H0 W) {f:FuncId} {ts:List TypeId} {k:Nat} (hp:ts.all (plainT J k)=true) {r:Reach} {base:Nat} {args:Array Value} {ds:List (DataW K)} {p:List MemPlace}
  (hv:∀(j:Nat) (t:TypeId) (v:Value),ts[j]?=some t→args.toList[j]?=some v→Value.okWide J.P W r base t v) (hT:DataW.TrodAll enc J.P W 0 (fun _=>true) held ts args.toList ds p)
  (hid:∀(H:IH) (vs:List Value),Keeps H0 H→DatAll J H ts vs ds→∃H',cal J okf f vs.toArray H=some (.ret (.bool true),H')):
  Calls J.P f args W fun e W'=>e=.returned (.bool true)∧Go.RowKit.Below W.heap.size W W':=by
 obtain ⟨ι1,H1,vs,a1,a2,a3,a4,a5⟩:=lay_args rfl ts args.toList ds p hp hv hT ι H0 hS
 obtain ⟨H',hc⟩:=hid H1 vs a3 a5
 obtain ⟨n,hn⟩:=of_cal hc
 refine (hsound (Bd.at W.heap.size) n f vs.toArray args H1 ι1 W _ _ a1 (by simpa using a4) (hn n (Nat.le_refl _))).mono fun e W' hp=>?_
 obtain ⟨ι',_,_,hB,v',rfl,hv⟩:=hp
 cases hv
 exact ⟨rfl,hB.kit⟩
end
/-! ### Data of plain shapes -/
section
variable {J:Env} {K:Type} {H:IH} {t:TypeId}
theorem Dat.intI {k:IntKind} (ht:J.und t=some (.int k)) {cs:List Value} {d:DataW K} (h:Dat J H t cs d):∃n,cs= [.int k n]∧d=.lit (.int k n)∧(Lit.int k n).wf=true:=by
 cases h with
 |int h1 h2=>rw [ht] at h1;cases h1;exact ⟨_,rfl,rfl,h2⟩
 |bool b h1=>rw [ht] at h1;cases h1
 |string h1 _=>rw [ht] at h1;cases h1
 |nil h1=>rw [ht] at h1;cases h1
 |slice h1=>rw [ht] at h1;cases h1
 |struct h1=>rw [ht] at h1;cases h1
 |array h1=>rw [ht] at h1;cases h1
theorem Dat.boolI (ht:J.und t=some .bool) {cs:List Value} {d:DataW K} (h:Dat J H t cs d):∃b,cs= [.bool b]∧d=.lit (.bool b):=by
 cases h with
 |bool b h1=>exact ⟨_,rfl,rfl⟩
 |int h1 h2=>rw [ht] at h1;cases h1
 |string h1 _=>rw [ht] at h1;cases h1
 |nil h1=>rw [ht] at h1;cases h1
 |slice h1=>rw [ht] at h1;cases h1
 |struct h1=>rw [ht] at h1;cases h1
 |array h1=>rw [ht] at h1;cases h1
theorem Dat.stringI (ht:J.und t=some .string) {cs:List Value} {d:DataW K} (h:Dat J H t cs d):∃s,cs= [.string s]∧d=.lit (.string s.data.toList)∧s.size≤maxLen:=by
 cases h with
 |string h1 h2=>exact ⟨_,rfl,rfl,h2⟩
 |int h1 h2=>rw [ht] at h1;cases h1
 |bool b h1=>rw [ht] at h1;cases h1
 |nil h1=>rw [ht] at h1;cases h1
 |slice h1=>rw [ht] at h1;cases h1
 |struct h1=>rw [ht] at h1;cases h1
 |array h1=>rw [ht] at h1;cases h1
theorem Dat.sliceI {e:TypeId} {n:Nat} (ht:J.und t=some (.slice e)) (hn:J.size e=some n) {cs:List Value} {d:DataW K} (h:Dat J H t cs d):(cs= [.slice none 0 0]∧d=.nil)∨
  ∃(b len:Nat) (ws:List Value) (ds rest:List (DataW K)),cs= [.slice (some ⟨b,0,none⟩) len capU]∧d=.slice ds rest∧b<H.next∧(0<len→H.get b=some (.cells ws e true))∧ws.length=len*n∧ds.length=len∧len≤maxLen∧
   ∀(i:Nat) (d:DataW K),ds[i]?=some d→Dat J H e ((ws.drop (i*n)).take n) d:=by
 cases h with
 |nil h1=>exact .inl ⟨rfl,rfl⟩
 |slice h1 h2 h3 h8 h4 h5 h6 h7 h9=>rw [ht] at h1;cases h1;rw [hn] at h2;cases h2;exact .inr ⟨_,_,_,_,_,rfl,rfl,h8,h4,h5,h6,h7,h9⟩
 |bool b h1=>rw [ht] at h1;cases h1
 |int h1 h2=>rw [ht] at h1;cases h1
 |string h1 _=>rw [ht] at h1;cases h1
 |struct h1=>rw [ht] at h1;cases h1
 |array h1=>rw [ht] at h1;cases h1
theorem DatV.int {k:IntKind} (ht:J.und t=some (.int k)) {v:Value} {d:DataW K} (h:DatV J H t v d):∃n,v=.int k n∧d=.lit (.int k n)∧(Lit.int k n).wf=true:=by
 obtain ⟨cs,h,rfl⟩:=h
 obtain ⟨n,rfl,rfl,h2⟩:=h.intI ht
 exact ⟨_,by simp [ofCells,ht],rfl,h2⟩
theorem DatV.bool (ht:J.und t=some .bool) {v:Value} {d:DataW K} (h:DatV J H t v d):∃b,v=.bool b∧d=.lit (.bool b):=by
 obtain ⟨cs,h,rfl⟩:=h
 obtain ⟨b,rfl,rfl⟩:=h.boolI ht
 exact ⟨_,by simp [ofCells,ht],rfl⟩
theorem DatV.string (ht:J.und t=some .string) {v:Value} {d:DataW K} (h:DatV J H t v d):∃s,v=.string s∧d=.lit (.string s.data.toList)∧s.size≤maxLen:=by
 obtain ⟨cs,h,rfl⟩:=h
 obtain ⟨s,rfl,rfl,h2⟩:=h.stringI ht
 exact ⟨_,by simp [ofCells,ht],rfl,h2⟩
theorem DatV.slice {e:TypeId} {n:Nat} (ht:J.und t=some (.slice e)) (hn:J.size e=some n) {v:Value} {d:DataW K} (h:DatV J H t v d):(v=.slice none 0 0∧d=.nil)∨
  ∃(b len:Nat) (ws:List Value) (ds rest:List (DataW K)),v=.slice (some ⟨b,0,none⟩) len capU∧d=.slice ds rest∧b<H.next∧(0<len→H.get b=some (.cells ws e true))∧ws.length=len*n∧ds.length=len∧len≤maxLen∧
   ∀(i:Nat) (d:DataW K),ds[i]?=some d→Dat J H e ((ws.drop (i*n)).take n) d:=by
 obtain ⟨cs,h,rfl⟩:=h
 rcases h.sliceI ht hn with ⟨rfl,rfl⟩|⟨b,len,ws,ds,rest,rfl,h2⟩
 ·exact .inl ⟨by simp [ofCells,ht],rfl⟩
 ·exact .inr ⟨b,len,ws,ds,rest,by simp [ofCells,ht],h2⟩
theorem DatV.struct {fs:Array Field} (ht:J.und t=some (.struct fs)) {v:Value} {d:DataW K} (h:DatV J H t v d):∃cs,v=.agg cs.toArray∧Dat J H t cs d:=by
 obtain ⟨cs,h,rfl⟩:=h
 exact ⟨cs,by simp [ofCells,ht],h⟩
theorem DatV.array {e:TypeId} {m:Nat} (ht:J.und t=some (.array m e)) {v:Value} {d:DataW K} (h:DatV J H t v d):∃cs,v=.agg cs.toArray∧Dat J H t cs d:=by
 obtain ⟨cs,h,rfl⟩:=h
 exact ⟨cs,by simp [ofCells,ht],h⟩
end
section
variable {w:World} {K:Type} {enc:TypeId×Value→K} {held:Bool} {P:Program} {sp:Nat→Bool} {base:Nat}
theorem trod_ds1 {t:TypeId} {vs:List Value} {ds:List (DataW K)} {p:List MemPlace} (h:DataW.TrodAll enc P w base sp held [t] vs ds p):∃d,ds= [d]:=by
 match vs,ds,h with
 | [_],[d],_=>exact ⟨d,rfl⟩
 | [_],_::_::_,⟨_,_,_,h,_⟩=>exact h.elim
 |_::_::_,[_],⟨_,_,_,h,_⟩=>exact h.elim
 |_::_::_,_::_::_,⟨_,_,_,h,_⟩=>exact h.elim
theorem trod_ds2 {t u:TypeId} {vs:List Value} {ds:List (DataW K)} {p:List MemPlace} (h:DataW.TrodAll enc P w base sp held [t,u] vs ds p):∃d d',ds= [d,d']:=by
 match vs,ds,h with
 |_::_,d::_,⟨_,_,_,h,_⟩=>obtain ⟨d',rfl⟩:=trod_ds1 h;exact ⟨d,d',rfl⟩
theorem trod_ds3 {t u x:TypeId} {vs:List Value} {ds:List (DataW K)} {p:List MemPlace} (h:DataW.TrodAll enc P w base sp held [t,u,x] vs ds p):∃d d' d'',ds= [d,d',d'']:=by
 match vs,ds,h with
 |_::_,d::_,⟨_,_,_,h,_⟩=>obtain ⟨d',d'',rfl⟩:=trod_ds2 h;exact ⟨d,d',d'',rfl⟩
end
theorem DatAll.one {J:Env} {K:Type} {H:IH} {t:TypeId} {vs:List Value} {ds:List (DataW K)} (h:DatAll J H [t] vs ds):∃v d,vs= [v]∧ds= [d]∧DatV J H t v d:=by
 cases h with
 |cons h1 h2=>cases h2;exact ⟨_,_,rfl,rfl,h1⟩
theorem DatAll.two {J:Env} {K:Type} {H:IH} {t u:TypeId} {vs:List Value} {ds:List (DataW K)} (h:DatAll J H [t,u] vs ds):∃v d v' d',vs= [v,v']∧ds= [d,d']∧DatV J H t v d∧DatV J H u v' d':=by
 cases h with
 |cons h1 h2=>obtain ⟨v',d',rfl,rfl,h3⟩:=h2.one;exact ⟨_,_,_,_,rfl,rfl,h1,h3⟩
theorem DatAll.three {J:Env} {K:Type} {H:IH} {t u x:TypeId} {vs:List Value} {ds:List (DataW K)} (h:DatAll J H [t,u,x] vs ds):∃v d v' d' v'' d'',vs= [v,v',v'']∧ds= [d,d',d'']∧DatV J H t v d∧DatV J H u v' d'∧DatV J H x v'' d'':=by
 cases h with
 |cons h1 h2=>obtain ⟨v',d',v'',d'',rfl,rfl,h3,h4⟩:=h2.two;exact ⟨_,_,_,_,_,_,rfl,rfl,h1,h3,h4⟩
end Go.Proofs.YtchlbfmjnhgpgaaGreat.Idl
namespace Go.Proofs.YtchlbfmjnhgpgaaGreat.Idl
open Go Go.RowKit
def erO (o:Oper):Oper:={ o with pos:= "",after:=#[] }
def mayPan (o:Oper):Bool:=
 match o.op with
 | .panic _=>true
 | .call c=>(match c.callee with
  | .builtin _=>false
  |_=>true)
 |_=>false
def drawOk (J:Env) (ops:Array Oper):Bool:=
 (pairs J ops).isEmpty&&(let W:=waits ops;(List.range ops.size).all fun i=>match ops[i]? with
  |some o=> !mayPan o||(effAt J ops i&&(List.range ops.size).all fun j=>decide (j≤i)||waitsFor W j i)
  |none=>true)
def erC (J:Env):Code→Code
 | .region id ops draw=>if draw then (if drawOk J (arrange J ops) then .region id ((arrange J ops).map erO) false else .region id ops true) else .region id (ops.map erO) false
 | .seq a b=>.seq (erC J a) (erC J b)
 | .cond c x y=>.cond c (erC J x) (erC J y)
 | .block id c=>.block id (erC J c)
 | .loop c=>.loop (erC J c)
 | .scope c=>.scope (erC J c)
 |c=>c
section
variable {J:Env}
theorem execOp_er (ρ:Operand→Value) (o:Oper):execOp ρ (erO o)=execOp ρ o:=by
 obtain ⟨dst,op,type,pos,after,guard⟩:=o
 cases op<;>rfl
theorem ipure_er (o:Oper) (T:Regs) (H:IH):ipure J (erO o) T H=ipure J o T H:=by
 unfold ipure
 rw [execOp_er]
 rfl
theorem iop_er (o:Oper) (T:Regs) (H:IH):iop J (erO o) T H=iop J o T H:=by
 have hp:=ipure_er (J:=J) o T H
 have hc:∀c,icall0 J (erO o) T H c=icall0 J o T H c:=fun c=>by
  unfold icall0
  rw [hp]
 obtain ⟨dst,op,type,pos,after,guard⟩:=o
 simp only [erO] at hp hc ⊢
 cases op<;>simp only [iop,hp,hc]
theorem iexec_er (call:CallR) (o:Oper) (T:Regs) (H:IH):iexec J call (erO o) T H=iexec J call o T H:=by
 unfold iexec
 rw [iop_er]
theorem wanted_er (ops:Array Oper) (T:Regs) (o:Oper):wantedR (ops.map erO) T (erO o)=wantedR ops T o:=by
 unfold wantedR
 have:(erO o).guard=o.guard:=rfl
 rw [this]
 split
 ·rfl
 ·rename_i j want h
  have:((ops.map erO)[j]?).bind (·.dst)=(ops[j]?).bind (·.dst):=by
   rw [Array.getElem?_map]
   cases ops[j]? <;>rfl
  rw [this]
theorem iops_er (call:CallR) (ops:Array Oper):∀(l:List Oper) (T:Regs) (H:IH),iops J call (ops.map erO) (l.map erO) T H=iops J call ops l T H:=by
 intro l
 induction l with
 |nil=>intro T H;rfl
 |cons o l ih=>
  intro T H
  rw [List.map_cons,iops_cons,iops_cons,wanted_er,iexec_er]
  have hd:(erO o).dst=o.dst:=rfl
  unfold opStep
  rw [hd]
  split
  ·split<;>first|exact ih _ _|rfl
  ·exact ih _ _
theorem some_val {v:Value} {H:IH} {y:OR} (h:some (OR.val v H)=some y):∃v H1,y=.val v H1:=⟨v,H,(Option.some.inj h).symm⟩
theorem none_val {y:OR} (h:none=some y):∃v H1,y=.val v H1:=by cases h
theorem ofVal_val {H:IH} {x:Option Value} {y:OR} (h:OR.ofVal H x=some y):∃v H1,y=.val v H1:=let ⟨v,h1,_⟩:=ofVal_same h;⟨v,_,h1⟩
theorem ofPair_val {x:Option (Value×IH)} {y:OR} (h:OR.ofPair x=some y):∃v H1,y=.val v H1:=by
 cases x with
 |none=>cases h
 |some p=>exact ⟨_,_,(Option.some.inj h).symm⟩
theorem ofHeap_val {x:Option IH} {y:OR} (h:OR.ofHeap x=some y):∃v H1,y=.val v H1:=by
 cases x with
 |none=>cases h
 |some p=>exact ⟨_,_,(Option.some.inj h).symm⟩
theorem pure_val {o:Oper} {T:Regs} {H:IH} {y:OR} (h:ipure J o T H=some y):∃v H1,y=.val v H1:=let ⟨v,h1,_⟩:=ipure_same h;⟨v,_,h1⟩
theorem map_val {α:Type} {f:α→Value} {g:α→IH} {x:Option α} {y:OR} (h:x.map (fun z=>OR.val (f z) (g z))=some y):∃v H1,y=.val v H1:=by
 cases x with
 |none=>cases h
 |some p=>exact ⟨_,_,(Option.some.inj h).symm⟩
theorem pan_may {call:CallR} {o:Oper} {T:Regs} {H H':IH} {v:Value} (h:iexec J call o T H=some (.pan v,H')):mayPan o=true:=by
 rw [iexec_eq] at h
 cases hi:iop J o T H with
 |none=>simp [hi,orStep] at h
 |some y=>
  rw [hi] at h
  have pur:∀{x},ipure J o T H=some x→∃v,x=.val v H:=fun hx=>let ⟨v,h1,_⟩:=ipure_same hx;⟨v,h1⟩
  obtain ⟨dst,op,type,pos,after,guard⟩:=o
  by_cases hm:mayPan ⟨dst,op,type,pos,after,guard⟩=true
  ·exact hm
  ·exfalso
   have hv:∃v H1,y=.val v H1:=by
    by_cases hl:isEff J ⟨dst,op,type,pos,after,guard⟩=false
    ·obtain ⟨v,h1⟩:=light_same hl hi;exact ⟨v,_,h1⟩
    cases op<;>simp only [mayPan] at hm<;>simp only [isEff] at hl<;>first|(exact absurd trivial hl)|(exact absurd rfl hl)|(exact absurd rfl hm)|(exact absurd trivial hm)|skip
    all_goals simp only [iop] at hi
    case alloc=>exact map_val hi
    case box=>exact map_val hi
    case buildSlice=>exact ofPair_val hi
    case makeSlice=>exact ofPair_val hi
    case makeMap t r=>cases r<;>first|exact some_val hi|exact pure_val hi
    case mapUpdate=>exact ofHeap_val hi
    case insert=>exact ofHeap_val hi
    case store=>
     split at hi
     ·exact ofHeap_val hi
     ·exact none_val hi
    case convert=>
     split at hi
     ·exact some_val hi
     ·exact pure_val hi
    case call c=>
     unfold icall0 at hi
     split at hi
     ·rename_i hc;simp [hc] at hm
     ·rename_i hc;simp [hc] at hm
     ·rename_i hc;simp [hc] at hl
     ·split at hi
      ·exact ofPair_val hi
      ·exact none_val hi
     ·split at hi
      ·exact ofPair_val hi
      ·exact none_val hi
     ·split at hi
      ·exact ofPair_val hi
      ·exact none_val hi
     ·split at hi
      ·exact ofPair_val hi
      ·exact none_val hi
     ·split at hi
      ·exact ofVal_val hi
      ·exact none_val hi
     ·exact pure_val hi
   obtain ⟨v1,H1,rfl⟩:=hv
   simp [orStep] at h
theorem idraw_iops {call:CallR} {ops:Array Oper} (h:drawOk J ops=true) (T:Regs) (H:IH):idraw J call ops T H=iops J call ops ops.toList T H:=by
 unfold drawOk at h
 simp only [Bool.and_eq_true,List.isEmpty_iff] at h
 obtain ⟨h1,h2⟩:=h
 have key:∀(l:List Oper) (s:DSt),ops.toList.drop s.vs.length=l→
   match iops J call ops l s.T s.H with
   |some (.normal,T',H')=>∃vs hs,drun J call ops l s=some (⟨T',H',vs,hs⟩,none)
   |some (.pan v,T',H')=>∃vs hs,drun J call ops l s=some (⟨T',H',vs,hs⟩,some v)∧∃o,ops[vs.length]?=some o∧mayPan o=true
   |some _=>False
   |none=>drun J call ops l s=none:=by
  intro l
  induction l with
  |nil=>intro s _;exact ⟨s.vs,s.hs,rfl⟩
  |cons o l ih=>
   intro s hl
   have ho:ops[s.vs.length]?=some o:=by
    have:=congrArg (fun l=>l[0]?) hl
    simpa using this
   have hl':∀x:Regs×Value,ops.toList.drop (s.vs++[x]).length=l:=fun x=>by
    rw [List.length_append,List.length_singleton,←List.drop_drop,hl];rfl
   rw [iops_cons]
   simp only [drun]
   by_cases hw:wantedR ops s.T o=true
   ·rw [if_pos hw,if_pos hw]
    cases he:iexec J call o s.T s.H with
    |none=>simp [opStep]
    |some y=>
     obtain ⟨e,H'⟩:=y
     cases e with
     |ret v=>exact ih ⟨putR s.T o.dst v,H',s.vs++[(s.T,v)],if isEff J o then s.hs++[H'] else s.hs⟩ (hl' _)
     |pan v=>exact ⟨s.vs,s.hs,rfl,o,ho,pan_may he⟩
   ·rw [if_neg hw,if_neg hw]
    exact ih ⟨putR s.T o.dst undef,s.H,s.vs++[(s.T,undef)],if isEff J o then s.hs++[s.H] else s.hs⟩ (hl' _)
 have k0:=key ops.toList ⟨T,H,[],[H]⟩ (by simp)
 dsimp only at k0
 unfold idraw
 cases hi:iops J call ops ops.toList T H with
 |none=>rw [hi] at k0;rw [k0]
 |some y=>
  obtain ⟨x,T',H'⟩:=y
  rw [hi] at k0
  cases x with
  |normal=>
   obtain ⟨vs,hs,hd⟩:=k0
   rw [hd]
   simp [dcheck_nil J h1]
  |pan v=>
   obtain ⟨vs,hs,hd,o,ho,hp⟩:=k0
   rw [hd]
   have hlt:=(Array.getElem?_eq_some_iff.1 ho).1
   have:=List.all_eq_true.1 h2 vs.length (List.mem_range.2 hlt)
   rw [ho] at this
   simp only [hp,Bool.not_true,Bool.false_or,Bool.and_eq_true] at this
   simp only [dcheck_nil J h1,this.1,this.2,Bool.and_self,if_true]
  |_=>exact absurd k0 (by simp)
theorem icode_er (call:CallR):∀(k:Nat) (c:Code) (T:Regs) (H:IH),icode J call k (erC J c) T H=icode J call k c T H:=by
 intro k
 induction k with
 |zero=>intro c T H;rfl
 |succ k ih=>
  intro c T H
  cases c with
  |region id ops draw=>
   cases draw with
   |true=>
    simp only [erC,if_true]
    split
    ·rename_i h
     simp only [icode,Bool.false_eq_true,if_false,if_true]
     rw [idraw_iops h,Array.toList_map,iops_er]
    ·rfl
   |false=>
    simp only [erC,Bool.false_eq_true,if_false,icode]
    rw [Array.toList_map,iops_er]
  |seq a b=>
   rw [erC,icode_seq,icode_seq,ih a]
   unfold andThen
   split
   ·exact ih b _ _
   ·rfl
  |cond c x y=>rw [erC,icode_cond,icode_cond,ih x,ih y]
  |block id c=>rw [erC,icode_block,icode_block,ih c]
  |scope c=>exact ih c T H
  |loop c=>
   have hl:∀T H,icode J call k (.loop (erC J c)) T H=icode J call k (.loop c) T H:=fun T H=>ih (.loop c) T H
   rw [erC,icode_loop,icode_loop,ih c]
   unfold andThen
   split
   ·exact hl _ _
   ·rfl
  |_=>rfl
end
theorem icall_er (J:Env) (k:Nat) (H:IH) (okf:FuncId→Bool) (f:FuncId) (args:Array Value) (fn:Func) (c c':Code) (h0:okf f=true) (h1:J.fn f=some fn) (h2:fn.body=some c) (hc:erC J c=c') (h3:args.size≤fn.ntmps) (h4:J.hook f args.toList=none) (h5:J.dfr f=false):
  icall J okf (k+1) f args H=finish J fn.results.toList (icode J (icall J okf k) k c' (regsOf args.toList 0 .leaf) H):=by
 rw [icall_body J k H okf f args fn c h0 h1 h2 h3 h4 h5,←hc,icode_er]
theorem cal_er (J:Env) (H:IH) (okf:FuncId→Bool) (f:FuncId) (args:Array Value) (fn:Func) (c c':Code) (rs:List ResultVar) (h0:okf f=true) (h1:J.fn f=some fn) (h2:fn.body=some c) (hc:erC J c=c') (hr:fn.results.toList=rs) (h3:args.size≤fn.ntmps) (h4:J.hook f args.toList=none) (h5:J.dfr f=false):
  cal J okf f args H=finish J rs (run J okf c' (regsOf args.toList 0 .leaf) H):=by
 subst hr
 exact cal_body J okf H f args _ c' fun k=>icall_er J k H okf f args fn c c' h0 h1 h2 hc h3 h4 h5
def findReg (i:Nat):Code→Option (Array Oper)
 | .region id ops true=>if id==i then some ops else none
 | .seq a b=>match findReg i a with
  |some r=>some r
  |none=>findReg i b
 | .cond _ x y=>match findReg i x with
  |some r=>some r
  |none=>findReg i y
 | .block _ c=>findReg i c
 | .loop c=>findReg i c
 | .scope c=>findReg i c
 |_=>none
def regOf (fn:Func) (i:Nat):List Oper:=match fn.body with
 |some c=>((findReg i c).getD #[]).toList
 |none=>[]
/-! Short forms for printed code. -/
abbrev o (d:Tmp) (op:Op) (t:TypeId):Oper:=⟨some d,op,t,"",#[],none⟩
abbrev oz (op:Op) (t:TypeId):Oper:=⟨none,op,t,"",#[],none⟩
abbrev og (d:Tmp) (op:Op) (t:TypeId) (j:Nat) (b:Bool):Oper:=⟨some d,op,t,"",#[],some (j,b)⟩
abbrev xi (n:Int):Operand:=.const (.int .i64 n)
structure Ann where
 o:Oper
 eff:Bool
 pan:Bool
 st:List Nat
def panAt (J:Env) (A:Array Oper) (i:Nat):Bool:=effAt J A i&&(List.range A.size).all fun j=>decide (j≤i)||waitsFor (waits A) j i
def stagesOf (ps:List (Nat×Nat)) (i:Nat):List Nat:=(ps.filter fun p=>p.1==i).map (·.2)
def annOf (J:Env) (A:Array Oper):List Ann:=let ps:=pairs J A;A.toList.zipIdx.map fun p=>⟨erO p.1,isEff J p.1,panAt J A p.2,stagesOf ps p.2⟩
def lateB (J:Env) (A:Array Oper):Bool:=(pairs J A).all fun p=>decide (E J A p.1<p.2)
abbrev Pend:=List (Oper×Regs×Value×List Nat)
def pendOk (J:Env) (P:Pend) (k:Nat) (H:IH):Bool:=
 P.all fun p=> !p.2.2.2.contains k||(match iop J p.1 p.2.1 H with
  |some (.val v _)=>veq 8 p.2.2.1 v
  |_=>false)
def pendAdd (a:Ann) (T:Regs) (v:Value) (P:Pend):Pend:=
 match a.st with
 | []=>P
 |st=>(a.o,T,v,st)::P
def eRun (J:Env) (call:CallR) (ops:Array Oper):List Ann→Regs→IH→Nat→Pend→Option (IX×Regs×IH)
 | [],T,H,_,_=>some (.normal,T,H)
 |a::r,T,H,k,P=>
  if wantedR ops T a.o then
   match iexec J call a.o T H with
   |some (.ret v,H')=>
    if a.eff then (if pendOk J P (k+1) H' then eRun J call ops r (putR T a.o.dst v) H' (k+1) P else none)
    else eRun J call ops r (putR T a.o.dst v) H' k (pendAdd a T v P)
   |some (.pan v,H')=>if a.pan then some (.pan v,T,H') else none
   |none=>none
  else if a.eff then (if pendOk J P (k+1) H then eRun J call ops r (putR T a.o.dst undef) H (k+1) P else none)
   else eRun J call ops r (putR T a.o.dst undef) H k P
section
variable {J:Env}
theorem oblig_er {A:Array Oper} {vs:List (Regs×Value)} {hs:List IH} {p:Nat×Nat} {o:Oper} {q:Regs×Value} {H:IH} (h1:A[p.1]?=some o) (h2:vs[p.1]?=some q) (h3:hs[p.2]?=some H):
  oblig J A vs hs p=(!wantedR A q.1 o||(match iop J (erO o) q.1 H with
   |some (.val v _)=>veq 8 q.2 v
   |_=>false)):=by
 unfold oblig
 rw [h1,h2,h3]
 dsimp only
 rw [iop_er]
 cases iop J o q.1 H with
 |none=>rfl
 |some y=>cases y<;>rfl
structure EInv (J:Env) (A:Array Oper) (s:DSt) (k:Nat) (P:Pend):Prop where
 len:s.vs.length≤A.size
 hl:s.hs.length=k+1
 kE:k=E J A s.vs.length
 ob:∀p∈pairs J A,p.1<s.vs.length→p.2≤k→oblig J A s.vs s.hs p=true
 pd:∀p∈pairs J A,p.1<s.vs.length→k<p.2→∀o q,A[p.1]?=some o→s.vs[p.1]?=some q→wantedR A q.1 o=true→∃st,p.2∈st∧(erO o,q.1,q.2,st)∈P
theorem oblig_app {A:Array Oper} {vs vs':List (Regs×Value)} {hs hs':List IH} {p:Nat×Nat} (h1:p.1<vs.length) (h2:p.2<hs.length) (h:oblig J A vs hs p=true):oblig J A (vs++vs') (hs++hs') p=true:=by
 unfold oblig at h ⊢
 rw [List.getElem?_append_left h1,List.getElem?_append_left h2]
 exact h
theorem pend_use {P:Pend} {k:Nat} {H:IH} (h:pendOk J P k H=true) {o:Oper} {T:Regs} {v:Value} {st:List Nat} (hm:(o,T,v,st)∈P) (hk:k∈st):(match iop J o T H with
  |some (.val u _)=>veq 8 v u
  |_=>false)=true:=by
 have:=List.all_eq_true.1 h _ hm
 simp only [Bool.or_eq_true,Bool.not_eq_true'] at this
 rcases this with h1|h1
 ·have:st.contains k=true:=by simpa using hk
  rw [this] at h1;cases h1
 ·exact h1
theorem EInv.step {A:Array Oper} (hlate:lateB J A=true) {s:DSt} {k:Nat} {P:Pend} (h:EInv J A s k P) {o:Oper} (ho:A[s.vs.length]?=some o) {v:Value} {H':IH} {k':Nat} {P':Pend} {hs':List IH}
  (he:(isEff J o=true∧k'=k+1∧hs'=s.hs++[H']∧P'=P∧pendOk J P (k+1) H'=true)∨(isEff J o=false∧k'=k∧hs'=s.hs∧(∀x∈P,x∈P')∧(wantedR A s.T o=true→∀kk∈stagesOf (pairs J A) s.vs.length,∃st,kk∈st∧(erO o,s.T,v,st)∈P'))):
  EInv J A ⟨putR s.T o.dst v,H',s.vs++[(s.T,v)],hs'⟩ k' P':=by
 have hlt:=(Array.getElem?_eq_some_iff.1 ho).1
 have heff:effAt J A s.vs.length=isEff J o:=by simp [effAt,ho]
 have hE:E J A (s.vs.length+1)=E J A s.vs.length+if isEff J o then 1 else 0:=by rw [E_succ,heff]
 have hlast:(s.vs++[(s.T,v)])[s.vs.length]?=some (s.T,v):=by simp
 have old:∀{i:Nat},i<s.vs.length→(s.vs++[(s.T,v)])[i]?=s.vs[i]?:=fun hi=>List.getElem?_append_left hi
 have hlt2:∀p∈pairs J A,E J A p.1<p.2:=fun p hp=>by simpa using List.all_eq_true.1 hlate p hp
 rcases he with ⟨e1,rfl,rfl,rfl,e5⟩|⟨e1,rfl,rfl,e4,e5⟩
 ·refine ⟨by simp;omega,by simp [h.hl],?_,fun p hp hi hk=>?_,fun p hp hi hk o' q ho' hq hw=>?_⟩
  ·show k+1=E J A (s.vs++[(s.T,v)]).length
   rw [List.length_append,List.length_singleton,hE,if_pos e1,h.kE]
  ·simp only [List.length_append,List.length_singleton] at hi
   have hps:=hlt2 p hp
   by_cases hil:p.1<s.vs.length
   ·by_cases hkk:p.2≤k
    ·exact oblig_app hil (by have:=h.hl;omega) (h.ob p hp hil hkk)
    ·have hk2:p.2=k+1:=by omega
     obtain ⟨o',ho'⟩:∃o',A[p.1]?=some o':=⟨_,Array.getElem?_eq_getElem (by omega)⟩
     obtain ⟨q,hq⟩:∃q,s.vs[p.1]?=some q:=⟨_,List.getElem?_eq_getElem hil⟩
     have hh:(s.hs++[H'])[p.2]?=some H':=by rw [List.getElem?_append_right (by have:=h.hl;omega),h.hl,hk2];simp
     rw [oblig_er ho' (by rw [old hil];exact hq) hh]
     cases hw:wantedR A q.1 o' with
     |false=>rfl
     |true=>
      obtain ⟨st,s1,s2⟩:=h.pd p hp hil (by omega) o' q ho' hq hw
      rw [hk2] at s1
      simp only [Bool.not_true,Bool.false_or]
      exact pend_use e5 s2 s1
   ·have:p.1=s.vs.length:=by omega
    rw [this] at hps
    have h6:=E_mono (J:=J) (ops:=A) (Nat.le_refl s.vs.length)
    have:isEff J o=false:=by
     have hp2:=hp
     unfold pairs at hp2
     rw [List.mem_flatMap] at hp2
     obtain ⟨i,_,hi2⟩:=hp2
     cases hoi:A[i]? with
     |none=>rw [hoi] at hi2;simp at hi2
     |some oi=>
      rw [hoi] at hi2
      dsimp only at hi2
      split at hi2
      ·simp at hi2
      ·rename_i hne
       rw [List.mem_map] at hi2
       obtain ⟨kk,_,rfl⟩:=hi2
       have hii:i=s.vs.length:=by assumption
       rw [hii,ho] at hoi
       cases hoi
       simp only [Bool.or_eq_true,not_or,Bool.not_eq_true] at hne
       exact hne.1
    rw [e1] at this
    cases this
  ·simp only [List.length_append,List.length_singleton] at hi
   by_cases hil:p.1<s.vs.length
   ·rw [old hil] at hq
    exact h.pd p hp hil (by omega) o' q ho' hq hw
   ·have hii:p.1=s.vs.length:=by omega
    exfalso
    have hp2:=hp
    unfold pairs at hp2
    rw [List.mem_flatMap] at hp2
    obtain ⟨i,_,hi2⟩:=hp2
    cases hoi:A[i]? with
    |none=>rw [hoi] at hi2;simp at hi2
    |some oi=>
     rw [hoi] at hi2
     dsimp only at hi2
     split at hi2
     ·simp at hi2
     ·rename_i hne
      rw [List.mem_map] at hi2
      obtain ⟨kk,_,rfl⟩:=hi2
      have hii2:i=s.vs.length:=hii
      rw [hii2,ho] at hoi
      cases hoi
      simp only [Bool.or_eq_true,not_or,Bool.not_eq_true] at hne
      rw [hne.1] at e1
      cases e1
 ·refine ⟨by simp;omega,h.hl,?_,fun p hp hi hk=>?_,fun p hp hi hk o' q ho' hq hw=>?_⟩
  ·show k'=E J A (s.vs++[(s.T,v)]).length
   rw [List.length_append,List.length_singleton,hE,if_neg (by simp [e1]),h.kE]
   rfl
  ·simp only [List.length_append,List.length_singleton] at hi
   by_cases hil:p.1<s.vs.length
   ·have:=oblig_app (vs':=[(s.T,v)]) (hs':=[]) hil (by have:=h.hl;omega) (h.ob p hp hil hk)
    rwa [List.append_nil] at this
   ·exfalso
    have hii:p.1=s.vs.length:=by omega
    have hps:=hlt2 p hp
    rw [hii,←h.kE] at hps
    omega
  ·simp only [List.length_append,List.length_singleton] at hi
   by_cases hil:p.1<s.vs.length
   ·rw [old hil] at hq
    obtain ⟨st,s1,s2⟩:=h.pd p hp hil hk o' q ho' hq hw
    exact ⟨st,s1,e4 _ s2⟩
   ·have hii:p.1=s.vs.length:=by omega
    rw [hii] at ho' hq
    rw [ho] at ho'
    cases ho'
    rw [hlast] at hq
    cases hq
    exact e5 hw p.2 (List.mem_map.2 ⟨p,List.mem_filter.2 ⟨hp,by simp [hii]⟩,rfl⟩)
theorem ann_get (A:Array Oper) (i:Nat):(annOf J A)[i]?=(A[i]?).map fun o=>⟨erO o,isEff J o,panAt J A i,stagesOf (pairs J A) i⟩:=by
 unfold annOf
 simp only [List.getElem?_map,List.getElem?_zipIdx,Array.getElem?_toList,Nat.zero_add,Option.map_map]
 rfl
theorem pairs_lt {A:Array Oper} {p:Nat×Nat} (hp:p∈pairs J A):p.1<A.size∧p.2≤E J A A.size:=by
 unfold pairs at hp
 rw [List.mem_flatMap] at hp
 obtain ⟨i,hi,hi2⟩:=hp
 cases hoi:A[i]? with
 |none=>rw [hoi] at hi2;simp at hi2
 |some oi=>
  rw [hoi] at hi2
  dsimp only at hi2
  split at hi2
  ·simp at hi2
  ·rw [List.mem_map] at hi2
   obtain ⟨kk,hkk,rfl⟩:=hi2
   have:=List.mem_range.1 (List.mem_filter.1 hkk).1
   refine ⟨List.mem_range.1 hi,?_⟩
   show kk≤_
   unfold E effs at*
   omega
theorem eRun_idraw {call:CallR} {A:Array Oper} (hlate:lateB J A=true):∀(l:List Ann) (s:DSt) (k:Nat) (P:Pend) (x:IX) (T':Regs) (H':IH),(annOf J A).drop s.vs.length=l→EInv J A s k P→
  eRun J call (A.map erO) l s.T s.H k P=some (x,T',H')→∃s',(drun J call A (A.toList.drop s.vs.length) s=some (s',none)∧x=.normal∨∃v,drun J call A (A.toList.drop s.vs.length) s=some (s',some v)∧x=.pan v∧panAt J A s'.vs.length=true)∧
   s'.T=T'∧s'.H=H'∧∀p∈pairs J A,oblig J A s'.vs s'.hs p=true:=by
 intro l
 induction l with
 |nil=>
  intro s k P x T' H' hl hI h
  simp only [eRun,Option.some.injEq,Prod.mk.injEq] at h
  obtain ⟨rfl,rfl,rfl⟩:=h
  have hsz:A.size≤s.vs.length:=by
   have:=congrArg List.length hl
   simp [annOf] at this
   omega
  refine ⟨s,.inl ⟨by rw [List.drop_of_length_le (by simpa using hsz)];rfl,rfl⟩,rfl,rfl,fun p hp=>?_⟩
  obtain ⟨h1,h2⟩:=pairs_lt hp
  refine hI.ob p hp (by omega) ?_
  rw [hI.kE]
  exact Nat.le_trans h2 (E_mono hsz)
 |cons a l ih=>
  intro s k P x T' H' hl hI h
  have hget:(annOf J A)[s.vs.length]?=some a:=by
   have:=congrArg (fun l=>l[0]?) hl
   simpa using this
  rw [ann_get] at hget
  cases ho:A[s.vs.length]? with
  |none=>rw [ho] at hget;cases hget
  |some o=>
   rw [ho] at hget
   cases hget
   have hl':∀y:Regs×Value,(annOf J A).drop (s.vs++[y]).length=l:=fun y=>by
    rw [List.length_append,List.length_singleton,←List.drop_drop,hl];rfl
   have hd:A.toList.drop s.vs.length=o::A.toList.drop (s.vs.length+1):=by
    obtain ⟨hlt,he⟩:=Array.getElem?_eq_some_iff.1 ho
    rw [List.drop_eq_getElem_cons (by simpa using hlt)]
    simp [he]
   have hdst:(erO o).dst=o.dst:=rfl
   rw [hd]
   simp only [eRun,wanted_er,iexec_er,hdst] at h
   simp only [drun]
   have cont:∀(v:Value) (H1:IH) (k1:Nat) (P1:Pend),EInv J A ⟨putR s.T o.dst v,H1,s.vs++[(s.T,v)],if isEff J o then s.hs++[H1] else s.hs⟩ k1 P1→eRun J call (A.map erO) l (putR s.T o.dst v) H1 k1 P1=some (x,T',H')→
     ∃s',(drun J call A (A.toList.drop (s.vs.length+1)) ⟨putR s.T o.dst v,H1,s.vs++[(s.T,v)],if isEff J o then s.hs++[H1] else s.hs⟩=some (s',none)∧x=.normal∨∃u,drun J call A (A.toList.drop (s.vs.length+1)) ⟨putR s.T o.dst v,H1,s.vs++[(s.T,v)],if isEff J o then s.hs++[H1] else s.hs⟩=some (s',some u)∧x=.pan u∧panAt J A s'.vs.length=true)∧
      s'.T=T'∧s'.H=H'∧∀p∈pairs J A,oblig J A s'.vs s'.hs p=true:=fun v H1 k1 P1 h1 h2=>by
    have:=ih ⟨putR s.T o.dst v,H1,s.vs++[(s.T,v)],if isEff J o then s.hs++[H1] else s.hs⟩ k1 P1 x T' H' (hl' _) h1 h2
    simpa using this
   have addP:∀v (x:Oper×Regs×Value×List Nat),x∈P→x∈pendAdd ⟨erO o,isEff J o,panAt J A s.vs.length,stagesOf (pairs J A) s.vs.length⟩ s.T v P:=fun v x hx=>by
    unfold pendAdd
    dsimp only
    split
    ·exact hx
    ·exact List.mem_cons_of_mem _ hx
   have addN:∀v,∀kk∈stagesOf (pairs J A) s.vs.length,∃st,kk∈st∧(erO o,s.T,v,st)∈pendAdd ⟨erO o,isEff J o,panAt J A s.vs.length,stagesOf (pairs J A) s.vs.length⟩ s.T v P:=fun v kk hkk=>by
    unfold pendAdd
    dsimp only
    split
    ·rename_i e;rw [e] at hkk;simp at hkk
    ·exact ⟨_,hkk,List.mem_cons_self⟩
   by_cases hw:wantedR A s.T o=true
   ·rw [if_pos hw] at h ⊢
    cases he:iexec J call o s.T s.H with
    |none=>rw [he] at h;cases h
    |some y=>
     obtain ⟨e,H1⟩:=y
     rw [he] at h
     cases e with
     |ret v=>
      dsimp only at h ⊢
      by_cases hf:isEff J o=true
      ·rw [if_pos hf] at h
       split at h
       ·rename_i hpk
        refine cont v H1 (k+1) P (hI.step hlate ho (.inl ⟨hf,rfl,by rw [if_pos hf],rfl,hpk⟩)) h
       ·cases h
      ·rw [if_neg hf] at h
       exact cont v H1 k _ (hI.step hlate ho (.inr ⟨by simpa using hf,rfl,by rw [if_neg hf],addP v,fun _=>addN v⟩)) h
     |pan v=>
      dsimp only at h ⊢
      split at h
      ·rename_i hpn
       simp only [Option.some.injEq,Prod.mk.injEq] at h
       obtain ⟨rfl,rfl,rfl⟩:=h
       refine ⟨⟨s.T,H1,s.vs,s.hs⟩,.inr ⟨v,rfl,rfl,hpn⟩,rfl,rfl,fun p hp=>?_⟩
       dsimp only
       by_cases h1:p.1<s.vs.length
       ·by_cases h2:p.2≤k
        ·exact hI.ob p hp h1 h2
        ·unfold oblig
         rw [List.getElem?_eq_none (l:=s.hs) (by have:=hI.hl;omega)]
         split<;>simp_all
       ·unfold oblig
        rw [List.getElem?_eq_none (l:=s.vs) (by omega)]
        split<;>simp_all
      ·cases h
   ·rw [if_neg hw] at h ⊢
    by_cases hf:isEff J o=true
    ·rw [if_pos hf] at h
     split at h
     ·rename_i hpk
      exact cont undef s.H (k+1) P (hI.step hlate ho (.inl ⟨hf,rfl,by rw [if_pos hf],rfl,hpk⟩)) h
     ·cases h
    ·rw [if_neg hf] at h
     exact cont undef s.H k P (hI.step hlate ho (.inr ⟨by simpa using hf,rfl,by rw [if_neg hf],fun _ hx=>hx,fun hw'=>absurd hw' hw⟩)) h
theorem idraw_ann {call:CallR} {A:Array Oper} (hlate:lateB J A=true) {T:Regs} {H:IH} {r:IX×Regs×IH} (h:eRun J call (A.map erO) (annOf J A) T H 0 []=some r):idraw J call A T H=some r:=by
 obtain ⟨x,T',H'⟩:=r
 obtain ⟨s',h1,rfl,rfl,h3⟩:=eRun_idraw hlate (annOf J A) ⟨T,H,[],[H]⟩ 0 [] x T' H' rfl ⟨by simp,rfl,by simp [E],by simp,by simp⟩ h
 have hck:dcheck J A s'.vs s'.hs=true:=by
  unfold dcheck
  split
  ·rfl
  ·exact List.all_eq_true.2 h3
 unfold idraw
 rcases h1 with ⟨h1,rfl⟩|⟨v,h1,rfl,h2⟩
 ·rw [show drun J call A A.toList ⟨T,H,[],[H]⟩=some (s',none) from h1]
  simp [hck]
 ·rw [show drun J call A A.toList ⟨T,H,[],[H]⟩=some (s',some v) from h1]
  unfold panAt at h2
  simp only [Bool.and_eq_true] at h2
  simp [hck,h2.1,h2.2]
noncomputable def annSel (J:Env) (okf:FuncId→Bool) (D:Array Oper) (T:Regs) (H:IH) (r:Option (IX×Regs×IH)):Option (IX×Regs×IH):=
 match r with
 |some r=>some r
 |none=>idraw J (cal J okf) (arrange J D) T H
@[simp] theorem annSel_some (okf:FuncId→Bool) (D:Array Oper) (T:Regs) (H:IH) (r:IX×Regs×IH):annSel J okf D T H (some r)=some r:=rfl
theorem r_ann {okf:FuncId→Bool} {D:List Oper} {ann:List Ann} (h1:annOf J (arrange J D.toArray)=ann) (h2:lateB J (arrange J D.toArray)=true) (i:Nat) (T:Regs) (H:IH):
  run J okf (.region i D.toArray true) T H=annSel J okf D.toArray T H (eRun J (cal J okf) (ann.map (·.o)).toArray ann T H 0 []):=by
 rw [r_draw]
 have hops:(ann.map (·.o)).toArray=(arrange J D.toArray).map erO:=by
  rw [←h1]
  apply Array.ext'
  apply List.ext_getElem?
  intro i
  simp only [List.getElem?_map,ann_get,Array.toList_map,Array.getElem?_toList,Option.map_map]
  rfl
 cases h:eRun J (cal J okf) (ann.map (·.o)).toArray ann T H 0 [] with
 |none=>rfl
 |some r=>
  rw [annSel_some]
  rw [hops,←h1] at h
  exact idraw_ann h2 h
end
/-! Short forms for printed code. -/
abbrev a0 (o:Oper):Ann:=⟨o,false,false,[]⟩
abbrev al (o:Oper) (st:List Nat):Ann:=⟨o,false,false,st⟩
abbrev ae (o:Oper) (p:Bool):Ann:=⟨o,true,p,[]⟩
/-! ### Rules -/
section
variable (J:Env) (call:CallR) (ops:Array Oper) (T:Regs) (H:IH) (k:Nat) (P:Pend)
@[simp] theorem eRun_nil:eRun J call ops [] T H k P=some (.normal,T,H):=rfl
def eGo (J:Env) (call:CallR) (ops:Array Oper) (a:Ann) (r:List Ann) (T:Regs) (H:IH) (k:Nat) (P:Pend) (b:Bool):Option (IX×Regs×IH):=
 match b with
 |true=>match orStep call (iop J a.o T H) with
  |some (.ret v,H')=>
   if a.eff then (if pendOk J P (k+1) H' then eRun J call ops r (putR T a.o.dst v) H' (k+1) P else none)
   else eRun J call ops r (putR T a.o.dst v) H' k (pendAdd a T v P)
  |some (.pan v,H')=>if a.pan then some (.pan v,T,H') else none
  |none=>none
 |false=>if a.eff then (if pendOk J P (k+1) H then eRun J call ops r (putR T a.o.dst undef) H (k+1) P else none)
   else eRun J call ops r (putR T a.o.dst undef) H k P
def eRes (J:Env) (call:CallR) (ops:Array Oper) (a:Ann) (r:List Ann) (T:Regs) (k:Nat) (P:Pend) (x:Option (IE×IH)):Option (IX×Regs×IH):=
 match x with
 |some (.ret v,H')=>
  if a.eff then (if pendOk J P (k+1) H' then eRun J call ops r (putR T a.o.dst v) H' (k+1) P else none)
  else eRun J call ops r (putR T a.o.dst v) H' k (pendAdd a T v P)
 |some (.pan v,H')=>if a.pan then some (.pan v,T,H') else none
 |none=>none
@[simp] theorem eRun_cons (a:Ann) (r:List Ann):eRun J call ops (a::r) T H k P=eGo J call ops a r T H k P (wantedR ops T a.o):=by
 simp only [eRun]
 rw [iexec_eq]
 cases wantedR ops T a.o<;>rfl
@[simp] theorem eGo_true (a:Ann) (r:List Ann):eGo J call ops a r T H k P true=eRes J call ops a r T k P (orStep call (iop J a.o T H)):=id rfl
@[simp] theorem eGo_false (o:Oper) (e p:Bool) (st:List Nat) (r:List Ann):eGo J call ops ⟨o,e,p,st⟩ r T H k P false=if e then (if pendOk J P (k+1) H then eRun J call ops r (putR T o.dst undef) H (k+1) P else none) else eRun J call ops r (putR T o.dst undef) H k P:=id rfl
@[simp] theorem eRes_eff (o:Oper) (p:Bool) (st:List Nat) (r:List Ann) (v:Value):eRes J call ops ⟨o,true,p,st⟩ r T k P (some (.ret v,H))=if pendOk J P (k+1) H then eRun J call ops r (putR T o.dst v) H (k+1) P else none:=id rfl
@[simp] theorem eRes_light (o:Oper) (p:Bool) (r:List Ann) (v:Value):eRes J call ops ⟨o,false,p,[]⟩ r T k P (some (.ret v,H))=eRun J call ops r (putR T o.dst v) H k P:=id rfl
@[simp] theorem eRes_late (o:Oper) (p:Bool) (s:Nat) (st:List Nat) (r:List Ann) (v:Value):eRes J call ops ⟨o,false,p,s::st⟩ r T k P (some (.ret v,H))=eRun J call ops r (putR T o.dst v) H k ((o,T,v,s::st)::P):=id rfl
@[simp] theorem eRes_pan (o:Oper) (e:Bool) (st:List Nat) (r:List Ann) (v:Value):eRes J call ops ⟨o,e,true,st⟩ r T k P (some (.pan v,H))=some (.pan v,T,H):=id rfl
@[simp] theorem pendOk_nil:pendOk J [] k H=true:=rfl
def pendVal (v:Value) (x:Option OR):Bool:=
 match x with
 |some (.val u _)=>veq 8 v u
 |_=>false
@[simp] theorem pendVal_val (v u:Value):pendVal v (some (.val u H))=veq 8 v u:=id rfl
@[simp] theorem pendOk_cons (o:Oper) (T':Regs) (v:Value) (st:List Nat):pendOk J ((o,T',v,st)::P) k H=((!st.contains k||pendVal v (iop J o T' H))&&pendOk J P k H):=id rfl
end
@[simp] theorem bits_i64:IntKind.i64.bits=64:=id rfl
@[simp] theorem bits_u64:IntKind.u64.bits=64:=id rfl
@[simp] theorem bin_bneq (J:Env) (H:IH) (t:TypeId) (x y:Operand) (a b:Bool) (h:J.und t=some .bool):binR J .neq t x y (.bool a) (.bool b) H=some (.val (.bool (a !=b)) H):=binR_pure J H rfl rfl rfl (by
  simp only [binOp,Op.equal,Op.maxDepth]
  rw [pureRun_bind]
  have:pureRun J.P (Op.equalIn 10000 t (.bool a) (.bool b))=some (a==b):=by
   show pureRun J.P (Op.equalIn (9999+1) t (.bool a) (.bool b))=_
   unfold Op.equalIn
   rw [pureRun_bind]
   have:pureRun J.P (underlying t)=some .bool:=by
    unfold underlying
    rw [pureRun_bind]
    simp [program,pureRun,J.und_ok h,pure]
   rw [this];rfl
  rw [this];rfl) rfl
theorem wrapU (n:Int):IntKind.u64.wrap n=n%18446744073709551616:=by
 simp [IntKind.wrap,IntKind.bits,IntKind.signed]
theorem wrapU_nat (n:Nat) (h:n<18446744073709551616):IntKind.u64.wrap (n:Int)=(n:Int):=by rw [wrapU];omega
theorem wrapI (n:Int):IntKind.i64.wrap n=(n+9223372036854775808)%18446744073709551616-9223372036854775808:=by
 have e:IntKind.i64.wrap n=if n%18446744073709551616≥9223372036854775808 then n%18446744073709551616-18446744073709551616 else n%18446744073709551616:=by
  simp [IntKind.wrap,IntKind.bits,IntKind.signed]
 rw [e]
 split<;>omega
theorem ofInt_nat (n:Nat) (h:n<18446744073709551616):(BitVec.ofInt 64 (n:Int)).toNat=n:=by
 rw [BitVec.toNat_ofInt]
 have:((n:Int)%((2^64:Nat):Int))=n:=by
  rw [show ((2^64:Nat):Int)=18446744073709551616 from rfl]
  omega
 rw [this];simp
theorem orI_nat (a b:Nat) (ha:a<18446744073709551616) (hb:b<18446744073709551616):orI .u64 (a:Int) (b:Int)=((a ||| b:Nat):Int):=by
 unfold orI
 have:(BitVec.ofInt IntKind.u64.bits (a:Int) ||| BitVec.ofInt IntKind.u64.bits (b:Int)).toNat=a ||| b:=by
  rw [BitVec.toNat_or]
  rw [show IntKind.u64.bits=64 from rfl,ofInt_nat a ha,ofInt_nat b hb]
 rw [this]
 exact wrapU_nat _ (Nat.or_lt_two_pow (n:=64) ha hb)
theorem andI_nat (a b:Nat) (ha:a<18446744073709551616) (hb:b<18446744073709551616):andI .u64 (a:Int) (b:Int)=((a &&& b:Nat):Int):=by
 unfold andI
 have:(BitVec.ofInt IntKind.u64.bits (a:Int) &&& BitVec.ofInt IntKind.u64.bits (b:Int)).toNat=a &&& b:=by
  rw [BitVec.toNat_and]
  rw [show IntKind.u64.bits=64 from rfl,ofInt_nat a ha,ofInt_nat b hb]
 rw [this]
 exact wrapU_nat _ (Nat.lt_of_le_of_lt Nat.and_le_left ha)
theorem andnI_nat (a b:Nat) (ha:a<18446744073709551616) (hb:b<18446744073709551616):andnI .u64 (a:Int) (b:Int)=((a &&& (18446744073709551615-b):Nat):Int):=by
 unfold andnI
 have:(BitVec.ofInt IntKind.u64.bits (a:Int) &&& ~~~BitVec.ofInt IntKind.u64.bits (b:Int)).toNat=a &&& (18446744073709551615-b):=by
  rw [BitVec.toNat_and,BitVec.toNat_not]
  rw [show IntKind.u64.bits=64 from rfl,ofInt_nat a ha,ofInt_nat b hb]
 rw [this]
 exact wrapU_nat _ (Nat.lt_of_le_of_lt Nat.and_le_left ha)
/-! Masks. -/
theorem and_one (a:Nat) (ha:a<18446744073709551616):andI .u64 (a:Int) 1=((a%2:Nat):Int):=by
 have:=andI_nat a 1 ha (by omega)
 rw [Nat.and_one_is_mod] at this
 exact this
theorem and_low (a:Nat) (ha:a<18446744073709551616):andI .u64 (a:Int) 1048575=((a%1048576:Nat):Int):=by
 have:=andI_nat a 1048575 ha (by omega)
 rw [show (1048575:Nat)=2^20-1 from rfl,Nat.and_two_pow_sub_one_eq_mod] at this
 exact this
theorem or_add (a b i:Nat) (hb:b<2^i):(a*2^i) ||| b=a*2^i+b:=by
 have:=Nat.shiftLeft_add_eq_or_of_lt hb a
 rw [Nat.shiftLeft_eq] at this
 exact this.symm
theorem or_addI (a b i:Nat) (hb:b<2^i) (ha:a*2^i+b<18446744073709551616):orI .u64 ((a*2^i:Nat):Int) (b:Int)=((a*2^i+b:Nat):Int):=by
 rw [orI_nat _ _ (by omega) (by omega),or_add a b i hb]
theorem or_addI' (a b i:Nat) (hb:b<2^i) (ha:a*2^i+b<18446744073709551616):orI .u64 (b:Int) ((a*2^i:Nat):Int)=((a*2^i+b:Nat):Int):=by
 rw [orI_nat _ _ (by omega) (by omega),Nat.or_comm,or_add a b i hb]
theorem mask_out (a i k:Nat) (ha:a<2^64) (hik:i+k≤64):a &&& (2^64-1-(2^k-1)*2^i)=a%2^i+2^(i+k)*(a / 2^(i+k)):=by
 have hm:a%2^i<2^(i+k):=Nat.lt_of_lt_of_le (Nat.mod_lt _ (Nat.two_pow_pos i)) (Nat.pow_le_pow_right (by omega) (by omega))
 have e2:a%2^i+2^(i+k)*(a / 2^(i+k))=(a / 2^(i+k))*2^(i+k) ||| a%2^i:=by
  rw [or_add _ _ _ hm,Nat.add_comm,Nat.mul_comm]
 rw [e2]
 apply Nat.eq_of_testBit_eq
 intro j
 rw [Nat.testBit_and,Nat.testBit_or,Nat.testBit_mod_two_pow]
 have hsub:(2^64-1-(2^k-1)*2^i).testBit j=(decide (j<64)&& !((2^k-1)*2^i).testBit j):=by
  have hlt:(2^k-1)*2^i<2^64:=by
   have h1:(2^k-1)*2^i<2^k*2^i:=Nat.mul_lt_mul_of_pos_right (by have:=Nat.two_pow_pos k;omega) (Nat.two_pow_pos i)
   rw [←Nat.pow_add] at h1
   exact Nat.lt_of_lt_of_le h1 (Nat.pow_le_pow_right (by omega) (by omega))
  have:=Nat.testBit_two_pow_sub_succ hlt j
  rw [show 2^64-1-(2^k-1)*2^i=2^64-((2^k-1)*2^i+1) by omega]
  exact this
 have hmk:((2^k-1)*2^i).testBit j=(decide (i≤j)&&decide (j<i+k)):=by
  rw [Nat.mul_comm,Nat.testBit_two_pow_mul,Nat.testBit_two_pow_sub_one]
  by_cases h:i≤j
  ·simp only [h,decide_true,Bool.true_and]
   congr 1
   rw [eq_iff_iff];omega
  ·simp [h]
 have hhi:(a / 2^(i+k)*2^(i+k)).testBit j=(decide (i+k≤j)&&a.testBit j):=by
  rw [Nat.mul_comm,Nat.testBit_two_pow_mul,Nat.testBit_div_two_pow]
  by_cases h:i+k≤j
  ·simp only [h,decide_true,Bool.true_and]
   congr 1;omega
  ·simp [h]
 rw [hsub,hmk,hhi]
 by_cases hj:j<64
 ·by_cases h1:j<i
  ·simp [h1,hj,show ¬i≤j by omega,show ¬i+k≤j by omega]
  ·by_cases h2:j<i+k
   ·simp [h1,h2,hj,show i≤j by omega,show ¬i+k≤j by omega]
   ·simp [h1,h2,hj,show i+k≤j by omega]
 ·have:a.testBit j=false:=Nat.testBit_lt_two_pow (Nat.lt_of_lt_of_le ha (Nat.pow_le_pow_right (by omega) (by omega)))
  simp [this]
theorem fdiv_nat (a k:Nat):Int.fdiv (a:Int) (k:Int)=((a / k:Nat):Int):=by
 rw [Int.fdiv_eq_ediv_of_nonneg _ (by omega)];rfl
theorem or_one (a:Nat) (h:a%2=0) (ha:a<18446744073709551616):orI .u64 (a:Int) 1=((a+1:Nat):Int):=by
 obtain ⟨b,rfl⟩:∃b,a=b*2^1:=⟨a / 2,by omega⟩
 exact or_addI b 1 1 (by decide) (by omega)
theorem or_zero (a:Nat) (ha:a<18446744073709551616):orI .u64 (a:Int) 0=(a:Int):=by
 have:=orI_nat a 0 ha (by omega)
 rw [Nat.or_zero] at this
 exact this
end Go.Proofs.YtchlbfmjnhgpgaaGreat.Idl
namespace Go.Proofs.YtchlbfmjnhgpgaaGreat.Idl
open Go
set_option maxRecDepth 100000
def tyI0:TyI:=⟨(.tuple #[]),1,0,some (.tuple #[])⟩
theorem tyI0_ok:TyOk Tryz.prog 0 tyI0:=tyOk_mk (by kernel_rfl) (by kernel_rfl) (by kernel_rfl)
def tyI2:TyI:=⟨(.int .i64),1,8,some (.int .i64 0)⟩
theorem tyI2_ok:TyOk Tryz.prog 2 tyI2:=tyOk_mk (by kernel_rfl) (by kernel_rfl) (by kernel_rfl)
def tyI3:TyI:=⟨(.int .i64),1,8,some (.int .i64 0)⟩
theorem tyI3_ok:TyOk Tryz.prog 3 tyI3:=tyOk_mk (by kernel_rfl) (by kernel_rfl) (by kernel_rfl)
def tyI4:TyI:=⟨.bool,1,1,some (.bool false)⟩
theorem tyI4_ok:TyOk Tryz.prog 4 tyI4:=tyOk_mk (by kernel_rfl) (by kernel_rfl) (by kernel_rfl)
def tyI5:TyI:=⟨(.int .u8),1,1,some (.int .u8 0)⟩
theorem tyI5_ok:TyOk Tryz.prog 5 tyI5:=tyOk_mk (by kernel_rfl) (by kernel_rfl) (by kernel_rfl)
def tyI9:TyI:=⟨.string,1,16,some (.string ⟨#[]⟩)⟩
theorem tyI9_ok:TyOk Tryz.prog 9 tyI9:=tyOk_mk (by kernel_rfl) (by kernel_rfl) (by kernel_rfl)
def tyI20:TyI:=⟨(.interface #[]),1,16,some .nilIface⟩
theorem tyI20_ok:TyOk Tryz.prog 20 tyI20:=tyOk_mk (by kernel_rfl) (by kernel_rfl) (by kernel_rfl)
def tyI22:TyI:=⟨(.slice 88),1,24,some (.slice none 0 0)⟩
theorem tyI22_ok:TyOk Tryz.prog 22 tyI22:=tyOk_mk (by kernel_rfl) (by kernel_rfl) (by kernel_rfl)
def tyI23:TyI:=⟨(.slice 90),1,24,some (.slice none 0 0)⟩
theorem tyI23_ok:TyOk Tryz.prog 23 tyI23:=tyOk_mk (by kernel_rfl) (by kernel_rfl) (by kernel_rfl)
def tyI24:TyI:=⟨(.slice 9),1,24,some (.slice none 0 0)⟩
theorem tyI24_ok:TyOk Tryz.prog 24 tyI24:=tyOk_mk (by kernel_rfl) (by kernel_rfl) (by kernel_rfl)
def tyI25:TyI:=⟨(.slice 59),1,24,some (.slice none 0 0)⟩
theorem tyI25_ok:TyOk Tryz.prog 25 tyI25:=tyOk_mk (by kernel_rfl) (by kernel_rfl) (by kernel_rfl)
def tyI27:TyI:=⟨(.struct #[⟨"Types",22,0,false,"","",0⟩,⟨"Shapes",23,1,false,"","",24⟩,⟨"Strings",24,2,false,"","",48⟩,⟨"Names",24,3,false,"","",72⟩,⟨"Funcs",25,4,false,"","",96⟩,⟨"Main",3,5,false,"","",120⟩,⟨"Exn",3,6,false,"","",128⟩]),7,136,some (.agg #[(.slice none 0 0),(.slice none 0 0),(.slice none 0 0),(.slice none 0 0),(.slice none 0 0),(.int .i64 0),(.int .i64 0)])⟩
theorem tyI27_ok:TyOk Tryz.prog 27 tyI27:=tyOk_mk (by kernel_rfl) (by kernel_rfl) (by kernel_rfl)
def tyI28:TyI:=⟨(.slice 3),1,24,some (.slice none 0 0)⟩
theorem tyI28_ok:TyOk Tryz.prog 28 tyI28:=tyOk_mk (by kernel_rfl) (by kernel_rfl) (by kernel_rfl)
def tyI30:TyI:=⟨(.struct #[⟨"Op",3,0,false,"","",0⟩,⟨"D",3,1,false,"","",8⟩,⟨"A",3,2,false,"","",16⟩,⟨"B",3,3,false,"","",24⟩,⟨"C",3,4,false,"","",32⟩,⟨"N",2,5,false,"","",40⟩,⟨"L",28,6,false,"","",48⟩,⟨"M",28,7,false,"","",72⟩,⟨"Live",28,8,false,"","",96⟩]),9,120,some (.agg #[(.int .i64 0),(.int .i64 0),(.int .i64 0),(.int .i64 0),(.int .i64 0),(.int .i64 0),(.slice none 0 0),(.slice none 0 0),(.slice none 0 0)])⟩
theorem tyI30_ok:TyOk Tryz.prog 30 tyI30:=tyOk_mk (by kernel_rfl) (by kernel_rfl) (by kernel_rfl)
def tyI31:TyI:=⟨(.int .u64),1,8,some (.int .u64 0)⟩
theorem tyI31_ok:TyOk Tryz.prog 31 tyI31:=tyOk_mk (by kernel_rfl) (by kernel_rfl) (by kernel_rfl)
def tyI33:TyI:=⟨(.struct #[⟨"M",27,0,false,"","",0⟩,⟨"X",30,7,false,"","",136⟩,⟨"At",31,16,false,"","",256⟩]),17,264,some (.agg #[(.slice none 0 0),(.slice none 0 0),(.slice none 0 0),(.slice none 0 0),(.slice none 0 0),(.int .i64 0),(.int .i64 0),(.int .i64 0),(.int .i64 0),(.int .i64 0),(.int .i64 0),(.int .i64 0),(.int .i64 0),(.slice none 0 0),(.slice none 0 0),(.slice none 0 0),(.int .u64 0)])⟩
theorem tyI33_ok:TyOk Tryz.prog 33 tyI33:=tyOk_mk (by kernel_rfl) (by kernel_rfl) (by kernel_rfl)
def tyI34:TyI:=⟨(.slice 5),1,24,some (.slice none 0 0)⟩
theorem tyI34_ok:TyOk Tryz.prog 34 tyI34:=tyOk_mk (by kernel_rfl) (by kernel_rfl) (by kernel_rfl)
def tyI35:TyI:=⟨(.slice 4),1,24,some (.slice none 0 0)⟩
theorem tyI35_ok:TyOk Tryz.prog 35 tyI35:=tyOk_mk (by kernel_rfl) (by kernel_rfl) (by kernel_rfl)
def tyI37:TyI:=⟨(.struct #[⟨"Input",34,0,false,"","",0⟩,⟨"Fuel",3,1,false,"","",24⟩,⟨"Heap",3,2,false,"","",32⟩,⟨"Stack",3,3,false,"","",40⟩,⟨"Collect",35,4,false,"","",48⟩]),5,72,some (.agg #[(.slice none 0 0),(.int .i64 0),(.int .i64 0),(.int .i64 0),(.slice none 0 0)])⟩
theorem tyI37_ok:TyOk Tryz.prog 37 tyI37:=tyOk_mk (by kernel_rfl) (by kernel_rfl) (by kernel_rfl)
def tyI44:TyI:=⟨(.struct #[⟨"Kind",3,0,false,"","",0⟩,⟨"Output",34,1,false,"","",8⟩,⟨"Exn",9,2,false,"","",32⟩,⟨"Steps",3,3,false,"","",48⟩,⟨"Swept",3,4,false,"","",56⟩]),5,64,some (.agg #[(.int .i64 0),(.slice none 0 0),(.string ⟨#[]⟩),(.int .i64 0),(.int .i64 0)])⟩
theorem tyI44_ok:TyOk Tryz.prog 44 tyI44:=tyOk_mk (by kernel_rfl) (by kernel_rfl) (by kernel_rfl)
def tyI50:TyI:=⟨(.array 2 3),2,16,some (.agg #[(.int .i64 0),(.int .i64 0)])⟩
theorem tyI50_ok:TyOk Tryz.prog 50 tyI50:=tyOk_mk (by kernel_rfl) (by kernel_rfl) (by kernel_rfl)
def tyI54:TyI:=⟨(.slice 30),1,24,some (.slice none 0 0)⟩
theorem tyI54_ok:TyOk Tryz.prog 54 tyI54:=tyOk_mk (by kernel_rfl) (by kernel_rfl) (by kernel_rfl)
def tyI56:TyI:=⟨(.struct #[⟨"In",28,0,false,"","",0⟩,⟨"Code",54,1,false,"","",24⟩]),2,48,some (.agg #[(.slice none 0 0),(.slice none 0 0)])⟩
theorem tyI56_ok:TyOk Tryz.prog 56 tyI56:=tyOk_mk (by kernel_rfl) (by kernel_rfl) (by kernel_rfl)
def tyI57:TyI:=⟨(.slice 56),1,24,some (.slice none 0 0)⟩
theorem tyI57_ok:TyOk Tryz.prog 57 tyI57:=tyOk_mk (by kernel_rfl) (by kernel_rfl) (by kernel_rfl)
def tyI59:TyI:=⟨(.struct #[⟨"Params",28,0,false,"","",0⟩,⟨"Result",3,1,false,"","",24⟩,⟨"Slots",3,2,false,"","",32⟩,⟨"Blocks",57,3,false,"","",40⟩]),4,64,some (.agg #[(.slice none 0 0),(.int .i64 0),(.int .i64 0),(.slice none 0 0)])⟩
theorem tyI59_ok:TyOk Tryz.prog 59 tyI59:=tyOk_mk (by kernel_rfl) (by kernel_rfl) (by kernel_rfl)
def tyI62:TyI:=⟨(.int .u64),1,8,some (.int .u64 0)⟩
theorem tyI62_ok:TyOk Tryz.prog 62 tyI62:=tyOk_mk (by kernel_rfl) (by kernel_rfl) (by kernel_rfl)
def tyI64:TyI:=⟨(.tuple #[2,4]),1,0,some (.tuple #[(.int .i64 0),(.bool false)])⟩
theorem tyI64_ok:TyOk Tryz.prog 64 tyI64:=tyOk_mk (by kernel_rfl) (by kernel_rfl) (by kernel_rfl)
def tyI69:TyI:=⟨(.array 2 2),2,16,some (.agg #[(.int .i64 0),(.int .i64 0)])⟩
theorem tyI69_ok:TyOk Tryz.prog 69 tyI69:=tyOk_mk (by kernel_rfl) (by kernel_rfl) (by kernel_rfl)
def tyI72:TyI:=⟨(.int .i64),1,8,some (.int .i64 0)⟩
theorem tyI72_ok:TyOk Tryz.prog 72 tyI72:=tyOk_mk (by kernel_rfl) (by kernel_rfl) (by kernel_rfl)
def tyI73:TyI:=⟨(.tuple #[34,72]),1,0,some (.tuple #[(.slice none 0 0),(.int .i64 0)])⟩
theorem tyI73_ok:TyOk Tryz.prog 73 tyI73:=tyOk_mk (by kernel_rfl) (by kernel_rfl) (by kernel_rfl)
def tyI75:TyI:=⟨(.tuple #[27,72]),1,0,some (.tuple #[(.agg #[(.slice none 0 0),(.slice none 0 0),(.slice none 0 0),(.slice none 0 0),(.slice none 0 0),(.int .i64 0),(.int .i64 0)]),(.int .i64 0)])⟩
theorem tyI75_ok:TyOk Tryz.prog 75 tyI75:=tyOk_mk (by kernel_rfl) (by kernel_rfl) (by kernel_rfl)
def tyI77:TyI:=⟨(.tuple #[3,3,3,4]),1,0,some (.tuple #[(.int .i64 0),(.int .i64 0),(.int .i64 0),(.bool false)])⟩
theorem tyI77_ok:TyOk Tryz.prog 77 tyI77:=tyOk_mk (by kernel_rfl) (by kernel_rfl) (by kernel_rfl)
def tyI79:TyI:=⟨(.pointer 84),1,8,some (.pointer none)⟩
theorem tyI79_ok:TyOk Tryz.prog 79 tyI79:=tyOk_mk (by kernel_rfl) (by kernel_rfl) (by kernel_rfl)
def tyI80:TyI:=⟨(.pointer 27),1,8,some (.pointer none)⟩
theorem tyI80_ok:TyOk Tryz.prog 80 tyI80:=tyOk_mk (by kernel_rfl) (by kernel_rfl) (by kernel_rfl)
def tyI81:TyI:=⟨(.pointer 171),1,8,some (.pointer none)⟩
theorem tyI81_ok:TyOk Tryz.prog 81 tyI81:=tyOk_mk (by kernel_rfl) (by kernel_rfl) (by kernel_rfl)
def tyI82:TyI:=⟨(.slice 131),1,24,some (.slice none 0 0)⟩
theorem tyI82_ok:TyOk Tryz.prog 82 tyI82:=tyOk_mk (by kernel_rfl) (by kernel_rfl) (by kernel_rfl)
def tyI84:TyI:=⟨(.struct #[⟨"m",80,0,false,"","bellows/vm",0⟩,⟨"s",37,1,false,"","bellows/vm",8⟩,⟨"h",81,6,false,"","bellows/vm",80⟩,⟨"frames",82,7,false,"","bellows/vm",88⟩,⟨"words",3,8,false,"","bellows/vm",112⟩,⟨"in",3,9,false,"","bellows/vm",120⟩,⟨"made",3,10,false,"","bellows/vm",128⟩,⟨"out",44,11,false,"","bellows/vm",136⟩]),16,200,some (.agg #[(.pointer none),(.slice none 0 0),(.int .i64 0),(.int .i64 0),(.int .i64 0),(.slice none 0 0),(.pointer none),(.slice none 0 0),(.int .i64 0),(.int .i64 0),(.int .i64 0),(.int .i64 0),(.slice none 0 0),(.string ⟨#[]⟩),(.int .i64 0),(.int .i64 0)])⟩
theorem tyI84_ok:TyOk Tryz.prog 84 tyI84:=tyOk_mk (by kernel_rfl) (by kernel_rfl) (by kernel_rfl)
def tyI86:TyI:=⟨(.struct #[⟨"kind",3,0,false,"","bellows/vm",0⟩]),1,8,some (.agg #[(.int .i64 0)])⟩
theorem tyI86_ok:TyOk Tryz.prog 86 tyI86:=tyOk_mk (by kernel_rfl) (by kernel_rfl) (by kernel_rfl)
def tyI88:TyI:=⟨(.struct #[⟨"Imm",4,0,false,"","",0⟩,⟨"Shapes",28,1,false,"","",8⟩]),2,32,some (.agg #[(.bool false),(.slice none 0 0)])⟩
theorem tyI88_ok:TyOk Tryz.prog 88 tyI88:=tyOk_mk (by kernel_rfl) (by kernel_rfl) (by kernel_rfl)
def tyI90:TyI:=⟨(.struct #[⟨"Kind",3,0,false,"","",0⟩,⟨"Fields",28,1,false,"","",8⟩,⟨"Name",9,2,false,"","",32⟩]),3,48,some (.agg #[(.int .i64 0),(.slice none 0 0),(.string ⟨#[]⟩)])⟩
theorem tyI90_ok:TyOk Tryz.prog 90 tyI90:=tyOk_mk (by kernel_rfl) (by kernel_rfl) (by kernel_rfl)
def tyI92:TyI:=⟨(.pointer 94),1,8,some (.pointer none)⟩
theorem tyI92_ok:TyOk Tryz.prog 92 tyI92:=tyOk_mk (by kernel_rfl) (by kernel_rfl) (by kernel_rfl)
def tyI94:TyI:=⟨(.struct #[⟨"b",34,0,false,"","bellows/code",0⟩]),1,24,some (.agg #[(.slice none 0 0)])⟩
theorem tyI94_ok:TyOk Tryz.prog 94 tyI94:=tyOk_mk (by kernel_rfl) (by kernel_rfl) (by kernel_rfl)
def tyI104:TyI:=⟨(.pointer 106),1,8,some (.pointer none)⟩
theorem tyI104_ok:TyOk Tryz.prog 104 tyI104:=tyOk_mk (by kernel_rfl) (by kernel_rfl) (by kernel_rfl)
def tyI106:TyI:=⟨(.struct #[⟨"b",34,0,false,"","bellows/code",0⟩,⟨"at",3,1,false,"","bellows/code",24⟩,⟨"bad",4,2,false,"","bellows/code",32⟩]),3,40,some (.agg #[(.slice none 0 0),(.int .i64 0),(.bool false)])⟩
theorem tyI106_ok:TyOk Tryz.prog 106 tyI106:=tyOk_mk (by kernel_rfl) (by kernel_rfl) (by kernel_rfl)
def tyI117:TyI:=⟨(.pointer 121),1,8,some (.pointer none)⟩
theorem tyI117_ok:TyOk Tryz.prog 117 tyI117:=tyOk_mk (by kernel_rfl) (by kernel_rfl) (by kernel_rfl)
def tyI118:TyI:=⟨(.slice 207),1,24,some (.slice none 0 0)⟩
theorem tyI118_ok:TyOk Tryz.prog 118 tyI118:=tyOk_mk (by kernel_rfl) (by kernel_rfl) (by kernel_rfl)
def tyI119:TyI:=⟨(.slice 153),1,24,some (.slice none 0 0)⟩
theorem tyI119_ok:TyOk Tryz.prog 119 tyI119:=tyOk_mk (by kernel_rfl) (by kernel_rfl) (by kernel_rfl)
def tyI121:TyI:=⟨(.struct #[⟨"M",27,0,false,"","",0⟩,⟨"S",37,7,false,"","",136⟩,⟨"Objs",118,12,false,"","",208⟩,⟨"Frames",119,13,false,"","",232⟩,⟨"Used",3,14,false,"","",256⟩,⟨"In",3,15,false,"","",264⟩,⟨"Made",3,16,false,"","",272⟩,⟨"Out",44,17,false,"","",280⟩]),22,344,some (.agg #[(.slice none 0 0),(.slice none 0 0),(.slice none 0 0),(.slice none 0 0),(.slice none 0 0),(.int .i64 0),(.int .i64 0),(.slice none 0 0),(.int .i64 0),(.int .i64 0),(.int .i64 0),(.slice none 0 0),(.slice none 0 0),(.slice none 0 0),(.int .i64 0),(.int .i64 0),(.int .i64 0),(.int .i64 0),(.slice none 0 0),(.string ⟨#[]⟩),(.int .i64 0),(.int .i64 0)])⟩
theorem tyI121_ok:TyOk Tryz.prog 121 tyI121:=tyOk_mk (by kernel_rfl) (by kernel_rfl) (by kernel_rfl)
def tyI125:TyI:=⟨(.slice 127),1,24,some (.slice none 0 0)⟩
theorem tyI125_ok:TyOk Tryz.prog 125 tyI125:=tyOk_mk (by kernel_rfl) (by kernel_rfl) (by kernel_rfl)
def tyI127:TyI:=⟨(.struct #[⟨"Kind",3,0,false,"","",0⟩,⟨"N",3,1,false,"","",8⟩]),2,16,some (.agg #[(.int .i64 0),(.int .i64 0)])⟩
theorem tyI127_ok:TyOk Tryz.prog 127 tyI127:=tyOk_mk (by kernel_rfl) (by kernel_rfl) (by kernel_rfl)
def tyI128:TyI:=⟨(.tuple #[81,72]),1,0,some (.tuple #[(.pointer none),(.int .i64 0)])⟩
theorem tyI128_ok:TyOk Tryz.prog 128 tyI128:=tyOk_mk (by kernel_rfl) (by kernel_rfl) (by kernel_rfl)
def tyI131:TyI:=⟨(.pointer 138),1,8,some (.pointer none)⟩
theorem tyI131_ok:TyOk Tryz.prog 131 tyI131:=tyOk_mk (by kernel_rfl) (by kernel_rfl) (by kernel_rfl)
def tyI133:TyI:=⟨(.pointer 59),1,8,some (.pointer none)⟩
theorem tyI133_ok:TyOk Tryz.prog 133 tyI133:=tyOk_mk (by kernel_rfl) (by kernel_rfl) (by kernel_rfl)
def tyI135:TyI:=⟨(.struct #[⟨"f",133,0,false,"","bellows/vm",0⟩,⟨"block",3,1,false,"","bellows/vm",8⟩,⟨"at",3,2,false,"","bellows/vm",16⟩]),3,24,some (.agg #[(.pointer none),(.int .i64 0),(.int .i64 0)])⟩
theorem tyI135_ok:TyOk Tryz.prog 135 tyI135:=tyOk_mk (by kernel_rfl) (by kernel_rfl) (by kernel_rfl)
def tyI136:TyI:=⟨(.slice 62),1,24,some (.slice none 0 0)⟩
theorem tyI136_ok:TyOk Tryz.prog 136 tyI136:=tyOk_mk (by kernel_rfl) (by kernel_rfl) (by kernel_rfl)
def tyI138:TyI:=⟨(.struct #[⟨"spot",135,0,true,"","bellows/vm",0⟩,⟨"slots",136,3,false,"","bellows/vm",24⟩]),4,48,some (.agg #[(.pointer none),(.int .i64 0),(.int .i64 0),(.slice none 0 0)])⟩
theorem tyI138_ok:TyOk Tryz.prog 138 tyI138:=tyOk_mk (by kernel_rfl) (by kernel_rfl) (by kernel_rfl)
def tyI139:TyI:=⟨(.pointer 30),1,8,some (.pointer none)⟩
theorem tyI139_ok:TyOk Tryz.prog 139 tyI139:=tyOk_mk (by kernel_rfl) (by kernel_rfl) (by kernel_rfl)
def tyI151:TyI:=⟨(.slice 155),1,24,some (.slice none 0 0)⟩
theorem tyI151_ok:TyOk Tryz.prog 151 tyI151:=tyOk_mk (by kernel_rfl) (by kernel_rfl) (by kernel_rfl)
def tyI153:TyI:=⟨(.struct #[⟨"F",3,0,false,"","",0⟩,⟨"Block",3,1,false,"","",8⟩,⟨"At",3,2,false,"","",16⟩,⟨"Slots",151,3,false,"","",24⟩]),4,48,some (.agg #[(.int .i64 0),(.int .i64 0),(.int .i64 0),(.slice none 0 0)])⟩
theorem tyI153_ok:TyOk Tryz.prog 153 tyI153:=tyOk_mk (by kernel_rfl) (by kernel_rfl) (by kernel_rfl)
def tyI155:TyI:=⟨(.struct #[⟨"Imm",4,0,false,"","",0⟩,⟨"N",2,1,false,"","",8⟩,⟨"P",3,2,false,"","",16⟩]),3,24,some (.agg #[(.bool false),(.int .i64 0),(.int .i64 0)])⟩
theorem tyI155_ok:TyOk Tryz.prog 155 tyI155:=tyOk_mk (by kernel_rfl) (by kernel_rfl) (by kernel_rfl)
def tyI157:TyI:=⟨(.pointer 153),1,8,some (.pointer none)⟩
theorem tyI157_ok:TyOk Tryz.prog 157 tyI157:=tyOk_mk (by kernel_rfl) (by kernel_rfl) (by kernel_rfl)
def tyI163:TyI:=⟨(.slice 165),1,24,some (.slice none 0 0)⟩
theorem tyI163_ok:TyOk Tryz.prog 163 tyI163:=tyOk_mk (by kernel_rfl) (by kernel_rfl) (by kernel_rfl)
def tyI165:TyI:=⟨(.struct #[⟨"T",88,0,false,"","",0⟩,⟨"No",4,2,false,"","",32⟩]),3,40,some (.agg #[(.bool false),(.slice none 0 0),(.bool false)])⟩
theorem tyI165_ok:TyOk Tryz.prog 165 tyI165:=tyOk_mk (by kernel_rfl) (by kernel_rfl) (by kernel_rfl)
def tyI168:TyI:=⟨(.tuple #[163,4]),1,0,some (.tuple #[(.slice none 0 0),(.bool false)])⟩
theorem tyI168_ok:TyOk Tryz.prog 168 tyI168:=tyOk_mk (by kernel_rfl) (by kernel_rfl) (by kernel_rfl)
def tyI171:TyI:=⟨(.struct #[⟨"words",136,0,false,"","bellows/heap",0⟩,⟨"heads",136,1,false,"","bellows/heap",24⟩,⟨"layouts",125,2,false,"","bellows/heap",48⟩,⟨"top",3,3,false,"","bellows/heap",72⟩]),4,80,some (.agg #[(.slice none 0 0),(.slice none 0 0),(.slice none 0 0),(.int .i64 0)])⟩
theorem tyI171_ok:TyOk Tryz.prog 171 tyI171:=tyOk_mk (by kernel_rfl) (by kernel_rfl) (by kernel_rfl)
def tyI175:TyI:=⟨(.pointer 62),1,8,some (.pointer none)⟩
theorem tyI175_ok:TyOk Tryz.prog 175 tyI175:=tyOk_mk (by kernel_rfl) (by kernel_rfl) (by kernel_rfl)
def tyI193:TyI:=⟨(.pointer 3),1,8,some (.pointer none)⟩
theorem tyI193_ok:TyOk Tryz.prog 193 tyI193:=tyOk_mk (by kernel_rfl) (by kernel_rfl) (by kernel_rfl)
def tyI195:TyI:=⟨(.pointer 28),1,8,some (.pointer none)⟩
theorem tyI195_ok:TyOk Tryz.prog 195 tyI195:=tyOk_mk (by kernel_rfl) (by kernel_rfl) (by kernel_rfl)
def tyI202:TyI:=⟨(.tuple #[2,3,4]),1,0,some (.tuple #[(.int .i64 0),(.int .i64 0),(.bool false)])⟩
theorem tyI202_ok:TyOk Tryz.prog 202 tyI202:=tyOk_mk (by kernel_rfl) (by kernel_rfl) (by kernel_rfl)
def tyI207:TyI:=⟨(.struct #[⟨"Shape",3,0,false,"","",0⟩,⟨"Fields",151,1,false,"","",8⟩,⟨"Bytes",34,2,false,"","",32⟩]),3,56,some (.agg #[(.int .i64 0),(.slice none 0 0),(.slice none 0 0)])⟩
theorem tyI207_ok:TyOk Tryz.prog 207 tyI207:=tyOk_mk (by kernel_rfl) (by kernel_rfl) (by kernel_rfl)
def tyI219:TyI:=⟨(.tuple #[88,4,4]),1,0,some (.tuple #[(.agg #[(.bool false),(.slice none 0 0)]),(.bool false),(.bool false)])⟩
theorem tyI219_ok:TyOk Tryz.prog 219 tyI219:=tyOk_mk (by kernel_rfl) (by kernel_rfl) (by kernel_rfl)
def tyI222:TyI:=⟨(.tuple #[88,4]),1,0,some (.tuple #[(.agg #[(.bool false),(.slice none 0 0)]),(.bool false)])⟩
theorem tyI222_ok:TyOk Tryz.prog 222 tyI222:=tyOk_mk (by kernel_rfl) (by kernel_rfl) (by kernel_rfl)
def tyI227:TyI:=⟨(.tuple #[3,72]),1,0,some (.tuple #[(.int .i64 0),(.int .i64 0)])⟩
theorem tyI227_ok:TyOk Tryz.prog 227 tyI227:=tyOk_mk (by kernel_rfl) (by kernel_rfl) (by kernel_rfl)
def tyI231:TyI:=⟨(.tuple #[3,136]),1,0,some (.tuple #[(.int .i64 0),(.slice none 0 0)])⟩
theorem tyI231_ok:TyOk Tryz.prog 231 tyI231:=tyOk_mk (by kernel_rfl) (by kernel_rfl) (by kernel_rfl)
def tyI235:TyI:=⟨(.tuple #[3,3]),1,0,some (.tuple #[(.int .i64 0),(.int .i64 0)])⟩
theorem tyI235_ok:TyOk Tryz.prog 235 tyI235:=tyOk_mk (by kernel_rfl) (by kernel_rfl) (by kernel_rfl)
def tyI237:TyI:=⟨(.tuple #[5,72]),1,0,some (.tuple #[(.int .u8 0),(.int .i64 0)])⟩
theorem tyI237_ok:TyOk Tryz.prog 237 tyI237:=tyOk_mk (by kernel_rfl) (by kernel_rfl) (by kernel_rfl)
def tyI240:TyI:=⟨(.tuple #[9,72]),1,0,some (.tuple #[(.string ⟨#[]⟩),(.int .i64 0)])⟩
theorem tyI240_ok:TyOk Tryz.prog 240 tyI240:=tyOk_mk (by kernel_rfl) (by kernel_rfl) (by kernel_rfl)
def tyI244:TyI:=⟨(.tuple #[62,72]),1,0,some (.tuple #[(.int .u64 0),(.int .i64 0)])⟩
theorem tyI244_ok:TyOk Tryz.prog 244 tyI244:=tyOk_mk (by kernel_rfl) (by kernel_rfl) (by kernel_rfl)
def tyI246:TyI:=⟨(.slice 22),1,24,some (.slice none 0 0)⟩
theorem tyI246_ok:TyOk Tryz.prog 246 tyI246:=tyOk_mk (by kernel_rfl) (by kernel_rfl) (by kernel_rfl)
def tyI249:TyI:=⟨(.slice 23),1,24,some (.slice none 0 0)⟩
theorem tyI249_ok:TyOk Tryz.prog 249 tyI249:=tyOk_mk (by kernel_rfl) (by kernel_rfl) (by kernel_rfl)
def tyI252:TyI:=⟨(.slice 24),1,24,some (.slice none 0 0)⟩
theorem tyI252_ok:TyOk Tryz.prog 252 tyI252:=tyOk_mk (by kernel_rfl) (by kernel_rfl) (by kernel_rfl)
def tyI255:TyI:=⟨(.slice 25),1,24,some (.slice none 0 0)⟩
theorem tyI255_ok:TyOk Tryz.prog 255 tyI255:=tyOk_mk (by kernel_rfl) (by kernel_rfl) (by kernel_rfl)
def tyI260:TyI:=⟨(.slice 28),1,24,some (.slice none 0 0)⟩
theorem tyI260_ok:TyOk Tryz.prog 260 tyI260:=tyOk_mk (by kernel_rfl) (by kernel_rfl) (by kernel_rfl)
def tyI262:TyI:=⟨(.slice 57),1,24,some (.slice none 0 0)⟩
theorem tyI262_ok:TyOk Tryz.prog 262 tyI262:=tyOk_mk (by kernel_rfl) (by kernel_rfl) (by kernel_rfl)
def tyI265:TyI:=⟨(.tuple #[2,2,4]),1,0,some (.tuple #[(.int .i64 0),(.int .i64 0),(.bool false)])⟩
theorem tyI265_ok:TyOk Tryz.prog 265 tyI265:=tyOk_mk (by kernel_rfl) (by kernel_rfl) (by kernel_rfl)
def tyI272:TyI:=⟨(.tuple #[28,4]),1,0,some (.tuple #[(.slice none 0 0),(.bool false)])⟩
theorem tyI272_ok:TyOk Tryz.prog 272 tyI272:=tyOk_mk (by kernel_rfl) (by kernel_rfl) (by kernel_rfl)
def tyI287:TyI:=⟨(.tuple #[136,72]),1,0,some (.tuple #[(.slice none 0 0),(.int .i64 0)])⟩
theorem tyI287_ok:TyOk Tryz.prog 287 tyI287:=tyOk_mk (by kernel_rfl) (by kernel_rfl) (by kernel_rfl)
def tyI290:TyI:=⟨(.pointer 294),1,8,some (.pointer none)⟩
theorem tyI290_ok:TyOk Tryz.prog 290 tyI290:=tyOk_mk (by kernel_rfl) (by kernel_rfl) (by kernel_rfl)
def tyI291:TyI:=⟨(.tuple #[290,72]),1,0,some (.tuple #[(.pointer none),(.int .i64 0)])⟩
theorem tyI291_ok:TyOk Tryz.prog 291 tyI291:=tyOk_mk (by kernel_rfl) (by kernel_rfl) (by kernel_rfl)
def tyI294:TyI:=⟨(.struct #[⟨"h",81,0,false,"","bellows/gc",0⟩,⟨"roots",136,1,false,"","bellows/gc",8⟩,⟨"top",3,2,false,"","bellows/gc",32⟩]),3,40,some (.agg #[(.pointer none),(.slice none 0 0),(.int .i64 0)])⟩
theorem tyI294_ok:TyOk Tryz.prog 294 tyI294:=tyOk_mk (by kernel_rfl) (by kernel_rfl) (by kernel_rfl)
def tyT:Tr TyI:=(.node (some tyI0) (.node none (.node (some tyI3) (.node none (.node none (.node (some tyI31) (.node none (.node (some tyI127) (.node (some tyI255) .leaf .leaf) .leaf) .leaf) (.node none (.node none (.node (some tyI287) .leaf .leaf) .leaf) .leaf)) (.node none (.node (some tyI79) .leaf (.node (some tyI207) .leaf .leaf)) (.node none (.node (some tyI175) .leaf .leaf) .leaf))) (.node (some tyI23) (.node none (.node none (.node (some tyI135) .leaf .leaf) .leaf) (.node none .leaf (.node (some tyI231) .leaf .leaf))) (.node none (.node none (.node (some tyI151) .leaf .leaf) .leaf) (.node (some tyI119) .leaf .leaf)))) (.node none (.node none (.node (some tyI35) (.node none (.node (some tyI131) .leaf .leaf) (.node (some tyI195) .leaf .leaf)) (.node none (.node (some tyI163) (.node (some tyI291) .leaf .leaf) .leaf) (.node (some tyI227) .leaf .leaf))) .leaf) (.node (some tyI27) (.node none (.node (some tyI75) (.node (some tyI139) .leaf .leaf) .leaf) (.node none (.node (some tyI171) .leaf .leaf) (.node (some tyI235) .leaf .leaf))) (.node (some tyI59) (.node none (.node (some tyI155) .leaf .leaf) (.node (some tyI219) .leaf .leaf)) .leaf)))) (.node (some tyI5) (.node (some tyI9) (.node none (.node (some tyI33) (.node none .leaf (.node (some tyI193) .leaf .leaf)) .leaf) (.node none (.node (some tyI81) .leaf .leaf) .leaf)) (.node (some tyI25) (.node none (.node (some tyI73) (.node none (.node (some tyI265) .leaf .leaf) .leaf) .leaf) .leaf) (.node (some tyI57) (.node none (.node (some tyI153) .leaf .leaf) .leaf) (.node (some tyI121) .leaf (.node (some tyI249) .leaf .leaf))))) (.node none (.node none (.node (some tyI37) (.node (some tyI69) (.node (some tyI133) .leaf .leaf) .leaf) (.node none (.node (some tyI165) .leaf .leaf) .leaf)) (.node none .leaf (.node (some tyI117) .leaf .leaf))) (.node none (.node none (.node (some tyI77) .leaf .leaf) (.node none .leaf (.node (some tyI237) .leaf .leaf))) (.node none (.node none (.node (some tyI157) .leaf .leaf) .leaf) (.node (some tyI125) .leaf .leaf)))))) (.node (some tyI2) (.node (some tyI4) (.node none (.node none (.node none (.node (some tyI64) (.node (some tyI128) .leaf .leaf) .leaf) .leaf) (.node none (.node (some tyI80) (.node none (.node (some tyI272) .leaf .leaf) .leaf) .leaf) (.node none .leaf (.node (some tyI240) .leaf .leaf)))) (.node (some tyI24) (.node none (.node (some tyI72) (.node (some tyI136) .leaf .leaf) .leaf) (.node (some tyI104) (.node (some tyI168) .leaf .leaf) .leaf)) (.node (some tyI56) (.node (some tyI88) .leaf .leaf) .leaf))) (.node none (.node (some tyI20) (.node none (.node none (.node none (.node (some tyI260) .leaf .leaf) .leaf) .leaf) .leaf) (.node none (.node (some tyI84) .leaf .leaf) (.node none .leaf (.node (some tyI244) .leaf .leaf)))) (.node (some tyI28) (.node (some tyI44) .leaf .leaf) (.node none (.node (some tyI92) .leaf .leaf) (.node none .leaf (.node (some tyI252) .leaf .leaf)))))) (.node none (.node none (.node none (.node (some tyI34) .leaf (.node none (.node none (.node (some tyI290) .leaf .leaf) .leaf) .leaf)) (.node (some tyI50) (.node (some tyI82) .leaf .leaf) .leaf)) (.node none (.node none (.node none (.node (some tyI138) .leaf .leaf) (.node (some tyI202) .leaf .leaf)) (.node (some tyI106) .leaf .leaf)) (.node none (.node (some tyI90) .leaf .leaf) .leaf))) (.node none (.node (some tyI22) (.node none (.node none (.node none (.node (some tyI262) .leaf .leaf) .leaf) .leaf) (.node none (.node none (.node (some tyI294) .leaf .leaf) .leaf) .leaf)) (.node (some tyI54) (.node (some tyI86) .leaf .leaf) (.node (some tyI118) .leaf (.node (some tyI246) .leaf .leaf)))) (.node (some tyI30) .leaf (.node (some tyI62) (.node (some tyI94) .leaf (.node (some tyI222) .leaf .leaf)) .leaf))))))
theorem tyT_ok:∀t i,tyT.get t=some i→TyOk Tryz.prog t i:=Tr.allAt tyT id (show Tr.AllAt _ _ tyT from ⟨tyI0_ok,⟨trivial,⟨tyI3_ok,⟨trivial,⟨trivial,⟨tyI31_ok,⟨trivial,⟨tyI127_ok,⟨tyI255_ok,trivial,trivial⟩,trivial⟩,trivial⟩,⟨trivial,⟨trivial,⟨tyI287_ok,trivial,trivial⟩,trivial⟩,trivial⟩⟩,⟨trivial,⟨tyI79_ok,trivial,⟨tyI207_ok,trivial,trivial⟩⟩,⟨trivial,⟨tyI175_ok,trivial,trivial⟩,trivial⟩⟩⟩,⟨tyI23_ok,⟨trivial,⟨trivial,⟨tyI135_ok,trivial,trivial⟩,trivial⟩,⟨trivial,trivial,⟨tyI231_ok,trivial,trivial⟩⟩⟩,⟨trivial,⟨trivial,⟨tyI151_ok,trivial,trivial⟩,trivial⟩,⟨tyI119_ok,trivial,trivial⟩⟩⟩⟩,⟨trivial,⟨trivial,⟨tyI35_ok,⟨trivial,⟨tyI131_ok,trivial,trivial⟩,⟨tyI195_ok,trivial,trivial⟩⟩,⟨trivial,⟨tyI163_ok,⟨tyI291_ok,trivial,trivial⟩,trivial⟩,⟨tyI227_ok,trivial,trivial⟩⟩⟩,trivial⟩,⟨tyI27_ok,⟨trivial,⟨tyI75_ok,⟨tyI139_ok,trivial,trivial⟩,trivial⟩,⟨trivial,⟨tyI171_ok,trivial,trivial⟩,⟨tyI235_ok,trivial,trivial⟩⟩⟩,⟨tyI59_ok,⟨trivial,⟨tyI155_ok,trivial,trivial⟩,⟨tyI219_ok,trivial,trivial⟩⟩,trivial⟩⟩⟩⟩,⟨tyI5_ok,⟨tyI9_ok,⟨trivial,⟨tyI33_ok,⟨trivial,trivial,⟨tyI193_ok,trivial,trivial⟩⟩,trivial⟩,⟨trivial,⟨tyI81_ok,trivial,trivial⟩,trivial⟩⟩,⟨tyI25_ok,⟨trivial,⟨tyI73_ok,⟨trivial,⟨tyI265_ok,trivial,trivial⟩,trivial⟩,trivial⟩,trivial⟩,⟨tyI57_ok,⟨trivial,⟨tyI153_ok,trivial,trivial⟩,trivial⟩,⟨tyI121_ok,trivial,⟨tyI249_ok,trivial,trivial⟩⟩⟩⟩⟩,⟨trivial,⟨trivial,⟨tyI37_ok,⟨tyI69_ok,⟨tyI133_ok,trivial,trivial⟩,trivial⟩,⟨trivial,⟨tyI165_ok,trivial,trivial⟩,trivial⟩⟩,⟨trivial,trivial,⟨tyI117_ok,trivial,trivial⟩⟩⟩,⟨trivial,⟨trivial,⟨tyI77_ok,trivial,trivial⟩,⟨trivial,trivial,⟨tyI237_ok,trivial,trivial⟩⟩⟩,⟨trivial,⟨trivial,⟨tyI157_ok,trivial,trivial⟩,trivial⟩,⟨tyI125_ok,trivial,trivial⟩⟩⟩⟩⟩⟩,⟨tyI2_ok,⟨tyI4_ok,⟨trivial,⟨trivial,⟨trivial,⟨tyI64_ok,⟨tyI128_ok,trivial,trivial⟩,trivial⟩,trivial⟩,⟨trivial,⟨tyI80_ok,⟨trivial,⟨tyI272_ok,trivial,trivial⟩,trivial⟩,trivial⟩,⟨trivial,trivial,⟨tyI240_ok,trivial,trivial⟩⟩⟩⟩,⟨tyI24_ok,⟨trivial,⟨tyI72_ok,⟨tyI136_ok,trivial,trivial⟩,trivial⟩,⟨tyI104_ok,⟨tyI168_ok,trivial,trivial⟩,trivial⟩⟩,⟨tyI56_ok,⟨tyI88_ok,trivial,trivial⟩,trivial⟩⟩⟩,⟨trivial,⟨tyI20_ok,⟨trivial,⟨trivial,⟨trivial,⟨tyI260_ok,trivial,trivial⟩,trivial⟩,trivial⟩,trivial⟩,⟨trivial,⟨tyI84_ok,trivial,trivial⟩,⟨trivial,trivial,⟨tyI244_ok,trivial,trivial⟩⟩⟩⟩,⟨tyI28_ok,⟨tyI44_ok,trivial,trivial⟩,⟨trivial,⟨tyI92_ok,trivial,trivial⟩,⟨trivial,trivial,⟨tyI252_ok,trivial,trivial⟩⟩⟩⟩⟩⟩,⟨trivial,⟨trivial,⟨trivial,⟨tyI34_ok,trivial,⟨trivial,⟨trivial,⟨tyI290_ok,trivial,trivial⟩,trivial⟩,trivial⟩⟩,⟨tyI50_ok,⟨tyI82_ok,trivial,trivial⟩,trivial⟩⟩,⟨trivial,⟨trivial,⟨trivial,⟨tyI138_ok,trivial,trivial⟩,⟨tyI202_ok,trivial,trivial⟩⟩,⟨tyI106_ok,trivial,trivial⟩⟩,⟨trivial,⟨tyI90_ok,trivial,trivial⟩,trivial⟩⟩⟩,⟨trivial,⟨tyI22_ok,⟨trivial,⟨trivial,⟨trivial,⟨tyI262_ok,trivial,trivial⟩,trivial⟩,trivial⟩,⟨trivial,⟨trivial,⟨tyI294_ok,trivial,trivial⟩,trivial⟩,trivial⟩⟩,⟨tyI54_ok,⟨tyI86_ok,trivial,trivial⟩,⟨tyI118_ok,trivial,⟨tyI246_ok,trivial,trivial⟩⟩⟩⟩,⟨tyI30_ok,trivial,⟨tyI62_ok,⟨tyI94_ok,trivial,⟨tyI222_ok,trivial,trivial⟩⟩,trivial⟩⟩⟩⟩⟩⟩)
theorem fn3_ok:FnOk Tryz.prog 3 Tryz.f3:=⟨Tryz.func3,by kernel_rfl⟩
theorem fn4_ok:FnOk Tryz.prog 4 Tryz.f4:=⟨Tryz.func4,by kernel_rfl⟩
theorem fn5_ok:FnOk Tryz.prog 5 Tryz.f5:=⟨Tryz.func5,by kernel_rfl⟩
theorem fn6_ok:FnOk Tryz.prog 6 Tryz.f6:=⟨Tryz.func6,by kernel_rfl⟩
theorem fn7_ok:FnOk Tryz.prog 7 Tryz.f7:=⟨Tryz.func7,by kernel_rfl⟩
theorem fn8_ok:FnOk Tryz.prog 8 Tryz.f8:=⟨Tryz.func8,by kernel_rfl⟩
theorem fn9_ok:FnOk Tryz.prog 9 Tryz.f9:=⟨Tryz.func9,by kernel_rfl⟩
theorem fn10_ok:FnOk Tryz.prog 10 Tryz.f10:=⟨Tryz.func10,by kernel_rfl⟩
theorem fn11_ok:FnOk Tryz.prog 11 Tryz.f11:=⟨Tryz.func11,by kernel_rfl⟩
theorem fn12_ok:FnOk Tryz.prog 12 Tryz.f12:=⟨Tryz.func12,by kernel_rfl⟩
theorem fn13_ok:FnOk Tryz.prog 13 Tryz.f13:=⟨Tryz.func13,by kernel_rfl⟩
theorem fn14_ok:FnOk Tryz.prog 14 Tryz.f14:=⟨Tryz.func14,by kernel_rfl⟩
theorem fn15_ok:FnOk Tryz.prog 15 Tryz.f15:=⟨Tryz.func15,by kernel_rfl⟩
theorem fn16_ok:FnOk Tryz.prog 16 Tryz.f16:=⟨Tryz.func16,by kernel_rfl⟩
theorem fn17_ok:FnOk Tryz.prog 17 Tryz.f17:=⟨Tryz.func17,by kernel_rfl⟩
theorem fn18_ok:FnOk Tryz.prog 18 Tryz.f18:=⟨Tryz.func18,by kernel_rfl⟩
theorem fn19_ok:FnOk Tryz.prog 19 Tryz.f19:=⟨Tryz.func19,by kernel_rfl⟩
theorem fn20_ok:FnOk Tryz.prog 20 Tryz.f20:=⟨Tryz.func20,by kernel_rfl⟩
theorem fn21_ok:FnOk Tryz.prog 21 Tryz.f21:=⟨Tryz.func21,by kernel_rfl⟩
theorem fn22_ok:FnOk Tryz.prog 22 Tryz.f22:=⟨Tryz.func22,by kernel_rfl⟩
theorem fn23_ok:FnOk Tryz.prog 23 Tryz.f23:=⟨Tryz.func23,by kernel_rfl⟩
theorem fn24_ok:FnOk Tryz.prog 24 Tryz.f24:=⟨Tryz.func24,by kernel_rfl⟩
theorem fn25_ok:FnOk Tryz.prog 25 Tryz.f25:=⟨Tryz.func25,by kernel_rfl⟩
theorem fn26_ok:FnOk Tryz.prog 26 Tryz.f26:=⟨Tryz.func26,by kernel_rfl⟩
theorem fn27_ok:FnOk Tryz.prog 27 Tryz.f27:=⟨Tryz.func27,by kernel_rfl⟩
theorem fn28_ok:FnOk Tryz.prog 28 Tryz.f28:=⟨Tryz.func28,by kernel_rfl⟩
theorem fn29_ok:FnOk Tryz.prog 29 Tryz.f29:=⟨Tryz.func29,by kernel_rfl⟩
theorem fn30_ok:FnOk Tryz.prog 30 Tryz.f30:=⟨Tryz.func30,by kernel_rfl⟩
theorem fn31_ok:FnOk Tryz.prog 31 Tryz.f31:=⟨Tryz.func31,by kernel_rfl⟩
theorem fn32_ok:FnOk Tryz.prog 32 Tryz.f32:=⟨Tryz.func32,by kernel_rfl⟩
theorem fn33_ok:FnOk Tryz.prog 33 Tryz.f33:=⟨Tryz.func33,by kernel_rfl⟩
theorem fn34_ok:FnOk Tryz.prog 34 Tryz.f34:=⟨Tryz.func34,by kernel_rfl⟩
theorem fn35_ok:FnOk Tryz.prog 35 Tryz.f35:=⟨Tryz.func35,by kernel_rfl⟩
theorem fn36_ok:FnOk Tryz.prog 36 Tryz.f36:=⟨Tryz.func36,by kernel_rfl⟩
theorem fn37_ok:FnOk Tryz.prog 37 Tryz.f37:=⟨Tryz.func37,by kernel_rfl⟩
theorem fn38_ok:FnOk Tryz.prog 38 Tryz.f38:=⟨Tryz.func38,by kernel_rfl⟩
theorem fn39_ok:FnOk Tryz.prog 39 Tryz.f39:=⟨Tryz.func39,by kernel_rfl⟩
theorem fn40_ok:FnOk Tryz.prog 40 Tryz.f40:=⟨Tryz.func40,by kernel_rfl⟩
theorem fn41_ok:FnOk Tryz.prog 41 Tryz.f41:=⟨Tryz.func41,by kernel_rfl⟩
theorem fn42_ok:FnOk Tryz.prog 42 Tryz.f42:=⟨Tryz.func42,by kernel_rfl⟩
theorem fn43_ok:FnOk Tryz.prog 43 Tryz.f43:=⟨Tryz.func43,by kernel_rfl⟩
theorem fn44_ok:FnOk Tryz.prog 44 Tryz.f44:=⟨Tryz.func44,by kernel_rfl⟩
theorem fn45_ok:FnOk Tryz.prog 45 Tryz.f45:=⟨Tryz.func45,by kernel_rfl⟩
theorem fn46_ok:FnOk Tryz.prog 46 Tryz.f46:=⟨Tryz.func46,by kernel_rfl⟩
theorem fn47_ok:FnOk Tryz.prog 47 Tryz.f47:=⟨Tryz.func47,by kernel_rfl⟩
theorem fn48_ok:FnOk Tryz.prog 48 Tryz.f48:=⟨Tryz.func48,by kernel_rfl⟩
theorem fn49_ok:FnOk Tryz.prog 49 Tryz.f49:=⟨Tryz.func49,by kernel_rfl⟩
theorem fn50_ok:FnOk Tryz.prog 50 Tryz.f50:=⟨Tryz.func50,by kernel_rfl⟩
theorem fn51_ok:FnOk Tryz.prog 51 Tryz.f51:=⟨Tryz.func51,by kernel_rfl⟩
theorem fn52_ok:FnOk Tryz.prog 52 Tryz.f52:=⟨Tryz.func52,by kernel_rfl⟩
theorem fn53_ok:FnOk Tryz.prog 53 Tryz.f53:=⟨Tryz.func53,by kernel_rfl⟩
theorem fn54_ok:FnOk Tryz.prog 54 Tryz.f54:=⟨Tryz.func54,by kernel_rfl⟩
theorem fn55_ok:FnOk Tryz.prog 55 Tryz.f55:=⟨Tryz.func55,by kernel_rfl⟩
theorem fn56_ok:FnOk Tryz.prog 56 Tryz.f56:=⟨Tryz.func56,by kernel_rfl⟩
theorem fn57_ok:FnOk Tryz.prog 57 Tryz.f57:=⟨Tryz.func57,by kernel_rfl⟩
theorem fn58_ok:FnOk Tryz.prog 58 Tryz.f58:=⟨Tryz.func58,by kernel_rfl⟩
theorem fn59_ok:FnOk Tryz.prog 59 Tryz.f59:=⟨Tryz.func59,by kernel_rfl⟩
theorem fn60_ok:FnOk Tryz.prog 60 Tryz.f60:=⟨Tryz.func60,by kernel_rfl⟩
theorem fn61_ok:FnOk Tryz.prog 61 Tryz.f61:=⟨Tryz.func61,by kernel_rfl⟩
theorem fn62_ok:FnOk Tryz.prog 62 Tryz.f62:=⟨Tryz.func62,by kernel_rfl⟩
theorem fn63_ok:FnOk Tryz.prog 63 Tryz.f63:=⟨Tryz.func63,by kernel_rfl⟩
theorem fn64_ok:FnOk Tryz.prog 64 Tryz.f64:=⟨Tryz.func64,by kernel_rfl⟩
theorem fn65_ok:FnOk Tryz.prog 65 Tryz.f65:=⟨Tryz.func65,by kernel_rfl⟩
theorem fn66_ok:FnOk Tryz.prog 66 Tryz.f66:=⟨Tryz.func66,by kernel_rfl⟩
theorem fn67_ok:FnOk Tryz.prog 67 Tryz.f67:=⟨Tryz.func67,by kernel_rfl⟩
theorem fn68_ok:FnOk Tryz.prog 68 Tryz.f68:=⟨Tryz.func68,by kernel_rfl⟩
theorem fn69_ok:FnOk Tryz.prog 69 Tryz.f69:=⟨Tryz.func69,by kernel_rfl⟩
theorem fn70_ok:FnOk Tryz.prog 70 Tryz.f70:=⟨Tryz.func70,by kernel_rfl⟩
theorem fn71_ok:FnOk Tryz.prog 71 Tryz.f71:=⟨Tryz.func71,by kernel_rfl⟩
theorem fn72_ok:FnOk Tryz.prog 72 Tryz.f72:=⟨Tryz.func72,by kernel_rfl⟩
theorem fn73_ok:FnOk Tryz.prog 73 Tryz.f73:=⟨Tryz.func73,by kernel_rfl⟩
theorem fn74_ok:FnOk Tryz.prog 74 Tryz.f74:=⟨Tryz.func74,by kernel_rfl⟩
theorem fn75_ok:FnOk Tryz.prog 75 Tryz.f75:=⟨Tryz.func75,by kernel_rfl⟩
theorem fn76_ok:FnOk Tryz.prog 76 Tryz.f76:=⟨Tryz.func76,by kernel_rfl⟩
theorem fn77_ok:FnOk Tryz.prog 77 Tryz.f77:=⟨Tryz.func77,by kernel_rfl⟩
theorem fn78_ok:FnOk Tryz.prog 78 Tryz.f78:=⟨Tryz.func78,by kernel_rfl⟩
theorem fn79_ok:FnOk Tryz.prog 79 Tryz.f79:=⟨Tryz.func79,by kernel_rfl⟩
theorem fn80_ok:FnOk Tryz.prog 80 Tryz.f80:=⟨Tryz.func80,by kernel_rfl⟩
theorem fn81_ok:FnOk Tryz.prog 81 Tryz.f81:=⟨Tryz.func81,by kernel_rfl⟩
theorem fn82_ok:FnOk Tryz.prog 82 Tryz.f82:=⟨Tryz.func82,by kernel_rfl⟩
theorem fn83_ok:FnOk Tryz.prog 83 Tryz.f83:=⟨Tryz.func83,by kernel_rfl⟩
theorem fn84_ok:FnOk Tryz.prog 84 Tryz.f84:=⟨Tryz.func84,by kernel_rfl⟩
theorem fn85_ok:FnOk Tryz.prog 85 Tryz.f85:=⟨Tryz.func85,by kernel_rfl⟩
theorem fn86_ok:FnOk Tryz.prog 86 Tryz.f86:=⟨Tryz.func86,by kernel_rfl⟩
theorem fn87_ok:FnOk Tryz.prog 87 Tryz.f87:=⟨Tryz.func87,by kernel_rfl⟩
theorem fn88_ok:FnOk Tryz.prog 88 Tryz.f88:=⟨Tryz.func88,by kernel_rfl⟩
theorem fn89_ok:FnOk Tryz.prog 89 Tryz.f89:=⟨Tryz.func89,by kernel_rfl⟩
theorem fn90_ok:FnOk Tryz.prog 90 Tryz.f90:=⟨Tryz.func90,by kernel_rfl⟩
theorem fn91_ok:FnOk Tryz.prog 91 Tryz.f91:=⟨Tryz.func91,by kernel_rfl⟩
theorem fn92_ok:FnOk Tryz.prog 92 Tryz.f92:=⟨Tryz.func92,by kernel_rfl⟩
theorem fn93_ok:FnOk Tryz.prog 93 Tryz.f93:=⟨Tryz.func93,by kernel_rfl⟩
theorem fn94_ok:FnOk Tryz.prog 94 Tryz.f94:=⟨Tryz.func94,by kernel_rfl⟩
theorem fn95_ok:FnOk Tryz.prog 95 Tryz.f95:=⟨Tryz.func95,by kernel_rfl⟩
theorem fn96_ok:FnOk Tryz.prog 96 Tryz.f96:=⟨Tryz.func96,by kernel_rfl⟩
theorem fn97_ok:FnOk Tryz.prog 97 Tryz.f97:=⟨Tryz.func97,by kernel_rfl⟩
theorem fn98_ok:FnOk Tryz.prog 98 Tryz.f98:=⟨Tryz.func98,by kernel_rfl⟩
theorem fn99_ok:FnOk Tryz.prog 99 Tryz.f99:=⟨Tryz.func99,by kernel_rfl⟩
theorem fn100_ok:FnOk Tryz.prog 100 Tryz.f100:=⟨Tryz.func100,by kernel_rfl⟩
theorem fn101_ok:FnOk Tryz.prog 101 Tryz.f101:=⟨Tryz.func101,by kernel_rfl⟩
theorem fn102_ok:FnOk Tryz.prog 102 Tryz.f102:=⟨Tryz.func102,by kernel_rfl⟩
theorem fn103_ok:FnOk Tryz.prog 103 Tryz.f103:=⟨Tryz.func103,by kernel_rfl⟩
theorem fn104_ok:FnOk Tryz.prog 104 Tryz.f104:=⟨Tryz.func104,by kernel_rfl⟩
theorem fn105_ok:FnOk Tryz.prog 105 Tryz.f105:=⟨Tryz.func105,by kernel_rfl⟩
theorem fn106_ok:FnOk Tryz.prog 106 Tryz.f106:=⟨Tryz.func106,by kernel_rfl⟩
theorem fn107_ok:FnOk Tryz.prog 107 Tryz.f107:=⟨Tryz.func107,by kernel_rfl⟩
theorem fn108_ok:FnOk Tryz.prog 108 Tryz.f108:=⟨Tryz.func108,by kernel_rfl⟩
theorem fn109_ok:FnOk Tryz.prog 109 Tryz.f109:=⟨Tryz.func109,by kernel_rfl⟩
theorem fn110_ok:FnOk Tryz.prog 110 Tryz.f110:=⟨Tryz.func110,by kernel_rfl⟩
theorem fn111_ok:FnOk Tryz.prog 111 Tryz.f111:=⟨Tryz.func111,by kernel_rfl⟩
theorem fn112_ok:FnOk Tryz.prog 112 Tryz.f112:=⟨Tryz.func112,by kernel_rfl⟩
theorem fn113_ok:FnOk Tryz.prog 113 Tryz.f113:=⟨Tryz.func113,by kernel_rfl⟩
theorem fn114_ok:FnOk Tryz.prog 114 Tryz.f114:=⟨Tryz.func114,by kernel_rfl⟩
theorem fn115_ok:FnOk Tryz.prog 115 Tryz.f115:=⟨Tryz.func115,by kernel_rfl⟩
theorem fn116_ok:FnOk Tryz.prog 116 Tryz.f116:=⟨Tryz.func116,by kernel_rfl⟩
theorem fn117_ok:FnOk Tryz.prog 117 Tryz.f117:=⟨Tryz.func117,by kernel_rfl⟩
theorem fn118_ok:FnOk Tryz.prog 118 Tryz.f118:=⟨Tryz.func118,by kernel_rfl⟩
theorem fn119_ok:FnOk Tryz.prog 119 Tryz.f119:=⟨Tryz.func119,by kernel_rfl⟩
theorem fn120_ok:FnOk Tryz.prog 120 Tryz.f120:=⟨Tryz.func120,by kernel_rfl⟩
theorem fn121_ok:FnOk Tryz.prog 121 Tryz.f121:=⟨Tryz.func121,by kernel_rfl⟩
theorem fn122_ok:FnOk Tryz.prog 122 Tryz.f122:=⟨Tryz.func122,by kernel_rfl⟩
theorem fn123_ok:FnOk Tryz.prog 123 Tryz.f123:=⟨Tryz.func123,by kernel_rfl⟩
theorem fn124_ok:FnOk Tryz.prog 124 Tryz.f124:=⟨Tryz.func124,by kernel_rfl⟩
theorem fn125_ok:FnOk Tryz.prog 125 Tryz.f125:=⟨Tryz.func125,by kernel_rfl⟩
theorem fn126_ok:FnOk Tryz.prog 126 Tryz.f126:=⟨Tryz.func126,by kernel_rfl⟩
theorem fn127_ok:FnOk Tryz.prog 127 Tryz.f127:=⟨Tryz.func127,by kernel_rfl⟩
theorem fn128_ok:FnOk Tryz.prog 128 Tryz.f128:=⟨Tryz.func128,by kernel_rfl⟩
theorem fn129_ok:FnOk Tryz.prog 129 Tryz.f129:=⟨Tryz.func129,by kernel_rfl⟩
theorem fn130_ok:FnOk Tryz.prog 130 Tryz.f130:=⟨Tryz.func130,by kernel_rfl⟩
theorem fn131_ok:FnOk Tryz.prog 131 Tryz.f131:=⟨Tryz.func131,by kernel_rfl⟩
theorem fn132_ok:FnOk Tryz.prog 132 Tryz.f132:=⟨Tryz.func132,by kernel_rfl⟩
theorem fn133_ok:FnOk Tryz.prog 133 Tryz.f133:=⟨Tryz.func133,by kernel_rfl⟩
theorem fn134_ok:FnOk Tryz.prog 134 Tryz.f134:=⟨Tryz.func134,by kernel_rfl⟩
theorem fn135_ok:FnOk Tryz.prog 135 Tryz.f135:=⟨Tryz.func135,by kernel_rfl⟩
theorem fn136_ok:FnOk Tryz.prog 136 Tryz.f136:=⟨Tryz.func136,by kernel_rfl⟩
theorem fn137_ok:FnOk Tryz.prog 137 Tryz.f137:=⟨Tryz.func137,by kernel_rfl⟩
theorem fn138_ok:FnOk Tryz.prog 138 Tryz.f138:=⟨Tryz.func138,by kernel_rfl⟩
theorem fn139_ok:FnOk Tryz.prog 139 Tryz.f139:=⟨Tryz.func139,by kernel_rfl⟩
theorem fn140_ok:FnOk Tryz.prog 140 Tryz.f140:=⟨Tryz.func140,by kernel_rfl⟩
theorem fn141_ok:FnOk Tryz.prog 141 Tryz.f141:=⟨Tryz.func141,by kernel_rfl⟩
theorem fn142_ok:FnOk Tryz.prog 142 Tryz.f142:=⟨Tryz.func142,by kernel_rfl⟩
theorem fn143_ok:FnOk Tryz.prog 143 Tryz.f143:=⟨Tryz.func143,by kernel_rfl⟩
theorem fn144_ok:FnOk Tryz.prog 144 Tryz.f144:=⟨Tryz.func144,by kernel_rfl⟩
theorem fn145_ok:FnOk Tryz.prog 145 Tryz.f145:=⟨Tryz.func145,by kernel_rfl⟩
theorem fn146_ok:FnOk Tryz.prog 146 Tryz.f146:=⟨Tryz.func146,by kernel_rfl⟩
theorem fn147_ok:FnOk Tryz.prog 147 Tryz.f147:=⟨Tryz.func147,by kernel_rfl⟩
theorem fn148_ok:FnOk Tryz.prog 148 Tryz.f148:=⟨Tryz.func148,by kernel_rfl⟩
theorem fn149_ok:FnOk Tryz.prog 149 Tryz.f149:=⟨Tryz.func149,by kernel_rfl⟩
theorem fn150_ok:FnOk Tryz.prog 150 Tryz.f150:=⟨Tryz.func150,by kernel_rfl⟩
theorem fn151_ok:FnOk Tryz.prog 151 Tryz.f151:=⟨Tryz.func151,by kernel_rfl⟩
theorem fn152_ok:FnOk Tryz.prog 152 Tryz.f152:=⟨Tryz.func152,by kernel_rfl⟩
theorem fn153_ok:FnOk Tryz.prog 153 Tryz.f153:=⟨Tryz.func153,by kernel_rfl⟩
theorem fn154_ok:FnOk Tryz.prog 154 Tryz.f154:=⟨Tryz.func154,by kernel_rfl⟩
theorem fn155_ok:FnOk Tryz.prog 155 Tryz.f155:=⟨Tryz.func155,by kernel_rfl⟩
theorem fn156_ok:FnOk Tryz.prog 156 Tryz.f156:=⟨Tryz.func156,by kernel_rfl⟩
theorem fn157_ok:FnOk Tryz.prog 157 Tryz.f157:=⟨Tryz.func157,by kernel_rfl⟩
theorem fn158_ok:FnOk Tryz.prog 158 Tryz.f158:=⟨Tryz.func158,by kernel_rfl⟩
theorem fn159_ok:FnOk Tryz.prog 159 Tryz.f159:=⟨Tryz.func159,by kernel_rfl⟩
theorem fn160_ok:FnOk Tryz.prog 160 Tryz.f160:=⟨Tryz.func160,by kernel_rfl⟩
theorem fn161_ok:FnOk Tryz.prog 161 Tryz.f161:=⟨Tryz.func161,by kernel_rfl⟩
theorem fn162_ok:FnOk Tryz.prog 162 Tryz.f162:=⟨Tryz.func162,by kernel_rfl⟩
theorem fn163_ok:FnOk Tryz.prog 163 Tryz.f163:=⟨Tryz.func163,by kernel_rfl⟩
theorem fn164_ok:FnOk Tryz.prog 164 Tryz.f164:=⟨Tryz.func164,by kernel_rfl⟩
theorem fn165_ok:FnOk Tryz.prog 165 Tryz.f165:=⟨Tryz.func165,by kernel_rfl⟩
theorem fn166_ok:FnOk Tryz.prog 166 Tryz.f166:=⟨Tryz.func166,by kernel_rfl⟩
theorem fn167_ok:FnOk Tryz.prog 167 Tryz.f167:=⟨Tryz.func167,by kernel_rfl⟩
theorem fn168_ok:FnOk Tryz.prog 168 Tryz.f168:=⟨Tryz.func168,by kernel_rfl⟩
theorem fn169_ok:FnOk Tryz.prog 169 Tryz.f169:=⟨Tryz.func169,by kernel_rfl⟩
theorem fn170_ok:FnOk Tryz.prog 170 Tryz.f170:=⟨Tryz.func170,by kernel_rfl⟩
theorem fn171_ok:FnOk Tryz.prog 171 Tryz.f171:=⟨Tryz.func171,by kernel_rfl⟩
theorem fn172_ok:FnOk Tryz.prog 172 Tryz.f172:=⟨Tryz.func172,by kernel_rfl⟩
theorem fn173_ok:FnOk Tryz.prog 173 Tryz.f173:=⟨Tryz.func173,by kernel_rfl⟩
theorem fn174_ok:FnOk Tryz.prog 174 Tryz.f174:=⟨Tryz.func174,by kernel_rfl⟩
theorem fn175_ok:FnOk Tryz.prog 175 Tryz.f175:=⟨Tryz.func175,by kernel_rfl⟩
theorem fn176_ok:FnOk Tryz.prog 176 Tryz.f176:=⟨Tryz.func176,by kernel_rfl⟩
theorem fn177_ok:FnOk Tryz.prog 177 Tryz.f177:=⟨Tryz.func177,by kernel_rfl⟩
theorem fn178_ok:FnOk Tryz.prog 178 Tryz.f178:=⟨Tryz.func178,by kernel_rfl⟩
theorem fn179_ok:FnOk Tryz.prog 179 Tryz.f179:=⟨Tryz.func179,by kernel_rfl⟩
theorem fn180_ok:FnOk Tryz.prog 180 Tryz.f180:=⟨Tryz.func180,by kernel_rfl⟩
theorem fn181_ok:FnOk Tryz.prog 181 Tryz.f181:=⟨Tryz.func181,by kernel_rfl⟩
theorem fn182_ok:FnOk Tryz.prog 182 Tryz.f182:=⟨Tryz.func182,by kernel_rfl⟩
theorem fn183_ok:FnOk Tryz.prog 183 Tryz.f183:=⟨Tryz.func183,by kernel_rfl⟩
theorem fn184_ok:FnOk Tryz.prog 184 Tryz.f184:=⟨Tryz.func184,by kernel_rfl⟩
theorem fn185_ok:FnOk Tryz.prog 185 Tryz.f185:=⟨Tryz.func185,by kernel_rfl⟩
theorem fn186_ok:FnOk Tryz.prog 186 Tryz.f186:=⟨Tryz.func186,by kernel_rfl⟩
theorem fn187_ok:FnOk Tryz.prog 187 Tryz.f187:=⟨Tryz.func187,by kernel_rfl⟩
theorem fn188_ok:FnOk Tryz.prog 188 Tryz.f188:=⟨Tryz.func188,by kernel_rfl⟩
theorem fn189_ok:FnOk Tryz.prog 189 Tryz.f189:=⟨Tryz.func189,by kernel_rfl⟩
theorem fn190_ok:FnOk Tryz.prog 190 Tryz.f190:=⟨Tryz.func190,by kernel_rfl⟩
theorem fn191_ok:FnOk Tryz.prog 191 Tryz.f191:=⟨Tryz.func191,by kernel_rfl⟩
theorem fn192_ok:FnOk Tryz.prog 192 Tryz.f192:=⟨Tryz.func192,by kernel_rfl⟩
theorem fn193_ok:FnOk Tryz.prog 193 Tryz.f193:=⟨Tryz.func193,by kernel_rfl⟩
theorem fn194_ok:FnOk Tryz.prog 194 Tryz.f194:=⟨Tryz.func194,by kernel_rfl⟩
theorem fn195_ok:FnOk Tryz.prog 195 Tryz.f195:=⟨Tryz.func195,by kernel_rfl⟩
theorem fn196_ok:FnOk Tryz.prog 196 Tryz.f196:=⟨Tryz.func196,by kernel_rfl⟩
theorem fn197_ok:FnOk Tryz.prog 197 Tryz.f197:=⟨Tryz.func197,by kernel_rfl⟩
theorem fn198_ok:FnOk Tryz.prog 198 Tryz.f198:=⟨Tryz.func198,by kernel_rfl⟩
theorem fn199_ok:FnOk Tryz.prog 199 Tryz.f199:=⟨Tryz.func199,by kernel_rfl⟩
theorem fn200_ok:FnOk Tryz.prog 200 Tryz.f200:=⟨Tryz.func200,by kernel_rfl⟩
theorem fn201_ok:FnOk Tryz.prog 201 Tryz.f201:=⟨Tryz.func201,by kernel_rfl⟩
theorem fn202_ok:FnOk Tryz.prog 202 Tryz.f202:=⟨Tryz.func202,by kernel_rfl⟩
theorem fn203_ok:FnOk Tryz.prog 203 Tryz.f203:=⟨Tryz.func203,by kernel_rfl⟩
theorem fn204_ok:FnOk Tryz.prog 204 Tryz.f204:=⟨Tryz.func204,by kernel_rfl⟩
theorem fn205_ok:FnOk Tryz.prog 205 Tryz.f205:=⟨Tryz.func205,by kernel_rfl⟩
theorem fn206_ok:FnOk Tryz.prog 206 Tryz.f206:=⟨Tryz.func206,by kernel_rfl⟩
theorem fn207_ok:FnOk Tryz.prog 207 Tryz.f207:=⟨Tryz.func207,by kernel_rfl⟩
theorem fn208_ok:FnOk Tryz.prog 208 Tryz.f208:=⟨Tryz.func208,by kernel_rfl⟩
theorem fn209_ok:FnOk Tryz.prog 209 Tryz.f209:=⟨Tryz.func209,by kernel_rfl⟩
theorem fn210_ok:FnOk Tryz.prog 210 Tryz.f210:=⟨Tryz.func210,by kernel_rfl⟩
theorem fn211_ok:FnOk Tryz.prog 211 Tryz.f211:=⟨Tryz.func211,by kernel_rfl⟩
theorem fn212_ok:FnOk Tryz.prog 212 Tryz.f212:=⟨Tryz.func212,by kernel_rfl⟩
theorem fn213_ok:FnOk Tryz.prog 213 Tryz.f213:=⟨Tryz.func213,by kernel_rfl⟩
theorem fn214_ok:FnOk Tryz.prog 214 Tryz.f214:=⟨Tryz.func214,by kernel_rfl⟩
theorem fn215_ok:FnOk Tryz.prog 215 Tryz.f215:=⟨Tryz.func215,by kernel_rfl⟩
theorem fn216_ok:FnOk Tryz.prog 216 Tryz.f216:=⟨Tryz.func216,by kernel_rfl⟩
theorem fn217_ok:FnOk Tryz.prog 217 Tryz.f217:=⟨Tryz.func217,by kernel_rfl⟩
theorem fn218_ok:FnOk Tryz.prog 218 Tryz.f218:=⟨Tryz.func218,by kernel_rfl⟩
theorem fn219_ok:FnOk Tryz.prog 219 Tryz.f219:=⟨Tryz.func219,by kernel_rfl⟩
theorem fn220_ok:FnOk Tryz.prog 220 Tryz.f220:=⟨Tryz.func220,by kernel_rfl⟩
theorem fn221_ok:FnOk Tryz.prog 221 Tryz.f221:=⟨Tryz.func221,by kernel_rfl⟩
theorem fn222_ok:FnOk Tryz.prog 222 Tryz.f222:=⟨Tryz.func222,by kernel_rfl⟩
theorem fn223_ok:FnOk Tryz.prog 223 Tryz.f223:=⟨Tryz.func223,by kernel_rfl⟩
theorem fn224_ok:FnOk Tryz.prog 224 Tryz.f224:=⟨Tryz.func224,by kernel_rfl⟩
theorem fn226_ok:FnOk Tryz.prog 226 Tryz.f226:=⟨Tryz.func226,by kernel_rfl⟩
theorem fn227_ok:FnOk Tryz.prog 227 Tryz.f227:=⟨Tryz.func227,by kernel_rfl⟩
theorem fn228_ok:FnOk Tryz.prog 228 Tryz.f228:=⟨Tryz.func228,by kernel_rfl⟩
theorem fn229_ok:FnOk Tryz.prog 229 Tryz.f229:=⟨Tryz.func229,by kernel_rfl⟩
theorem fn230_ok:FnOk Tryz.prog 230 Tryz.f230:=⟨Tryz.func230,by kernel_rfl⟩
theorem fn231_ok:FnOk Tryz.prog 231 Tryz.f231:=⟨Tryz.func231,by kernel_rfl⟩
theorem fn232_ok:FnOk Tryz.prog 232 Tryz.f232:=⟨Tryz.func232,by kernel_rfl⟩
theorem fn233_ok:FnOk Tryz.prog 233 Tryz.f233:=⟨Tryz.func233,by kernel_rfl⟩
theorem fn234_ok:FnOk Tryz.prog 234 Tryz.f234:=⟨Tryz.func234,by kernel_rfl⟩
theorem fn235_ok:FnOk Tryz.prog 235 Tryz.f235:=⟨Tryz.func235,by kernel_rfl⟩
theorem fn236_ok:FnOk Tryz.prog 236 Tryz.f236:=⟨Tryz.func236,by kernel_rfl⟩
theorem fn237_ok:FnOk Tryz.prog 237 Tryz.f237:=⟨Tryz.func237,by kernel_rfl⟩
theorem fn238_ok:FnOk Tryz.prog 238 Tryz.f238:=⟨Tryz.func238,by kernel_rfl⟩
theorem fn239_ok:FnOk Tryz.prog 239 Tryz.f239:=⟨Tryz.func239,by kernel_rfl⟩
theorem fn240_ok:FnOk Tryz.prog 240 Tryz.f240:=⟨Tryz.func240,by kernel_rfl⟩
theorem fn241_ok:FnOk Tryz.prog 241 Tryz.f241:=⟨Tryz.func241,by kernel_rfl⟩
theorem fn242_ok:FnOk Tryz.prog 242 Tryz.f242:=⟨Tryz.func242,by kernel_rfl⟩
theorem fn243_ok:FnOk Tryz.prog 243 Tryz.f243:=⟨Tryz.func243,by kernel_rfl⟩
theorem fn244_ok:FnOk Tryz.prog 244 Tryz.f244:=⟨Tryz.func244,by kernel_rfl⟩
theorem fn245_ok:FnOk Tryz.prog 245 Tryz.f245:=⟨Tryz.func245,by kernel_rfl⟩
theorem fn246_ok:FnOk Tryz.prog 246 Tryz.f246:=⟨Tryz.func246,by kernel_rfl⟩
noncomputable def fnT:Tr Func:=(.node none (.node none (.node (some Tryz.f3) (.node (some Tryz.f7) (.node (some Tryz.f15) (.node (some Tryz.f31) (.node (some Tryz.f63) (.node (some Tryz.f127) .leaf .leaf) (.node (some Tryz.f191) .leaf .leaf)) (.node (some Tryz.f95) (.node (some Tryz.f159) .leaf .leaf) (.node (some Tryz.f223) .leaf .leaf))) (.node (some Tryz.f47) (.node (some Tryz.f79) (.node (some Tryz.f143) .leaf .leaf) (.node (some Tryz.f207) .leaf .leaf)) (.node (some Tryz.f111) (.node (some Tryz.f175) .leaf .leaf) (.node (some Tryz.f239) .leaf .leaf)))) (.node (some Tryz.f23) (.node (some Tryz.f39) (.node (some Tryz.f71) (.node (some Tryz.f135) .leaf .leaf) (.node (some Tryz.f199) .leaf .leaf)) (.node (some Tryz.f103) (.node (some Tryz.f167) .leaf .leaf) (.node (some Tryz.f231) .leaf .leaf))) (.node (some Tryz.f55) (.node (some Tryz.f87) (.node (some Tryz.f151) .leaf .leaf) (.node (some Tryz.f215) .leaf .leaf)) (.node (some Tryz.f119) (.node (some Tryz.f183) .leaf .leaf) .leaf)))) (.node (some Tryz.f11) (.node (some Tryz.f19) (.node (some Tryz.f35) (.node (some Tryz.f67) (.node (some Tryz.f131) .leaf .leaf) (.node (some Tryz.f195) .leaf .leaf)) (.node (some Tryz.f99) (.node (some Tryz.f163) .leaf .leaf) (.node (some Tryz.f227) .leaf .leaf))) (.node (some Tryz.f51) (.node (some Tryz.f83) (.node (some Tryz.f147) .leaf .leaf) (.node (some Tryz.f211) .leaf .leaf)) (.node (some Tryz.f115) (.node (some Tryz.f179) .leaf .leaf) (.node (some Tryz.f243) .leaf .leaf)))) (.node (some Tryz.f27) (.node (some Tryz.f43) (.node (some Tryz.f75) (.node (some Tryz.f139) .leaf .leaf) (.node (some Tryz.f203) .leaf .leaf)) (.node (some Tryz.f107) (.node (some Tryz.f171) .leaf .leaf) (.node (some Tryz.f235) .leaf .leaf))) (.node (some Tryz.f59) (.node (some Tryz.f91) (.node (some Tryz.f155) .leaf .leaf) (.node (some Tryz.f219) .leaf .leaf)) (.node (some Tryz.f123) (.node (some Tryz.f187) .leaf .leaf) .leaf))))) (.node (some Tryz.f5) (.node (some Tryz.f9) (.node (some Tryz.f17) (.node (some Tryz.f33) (.node (some Tryz.f65) (.node (some Tryz.f129) .leaf .leaf) (.node (some Tryz.f193) .leaf .leaf)) (.node (some Tryz.f97) (.node (some Tryz.f161) .leaf .leaf) .leaf)) (.node (some Tryz.f49) (.node (some Tryz.f81) (.node (some Tryz.f145) .leaf .leaf) (.node (some Tryz.f209) .leaf .leaf)) (.node (some Tryz.f113) (.node (some Tryz.f177) .leaf .leaf) (.node (some Tryz.f241) .leaf .leaf)))) (.node (some Tryz.f25) (.node (some Tryz.f41) (.node (some Tryz.f73) (.node (some Tryz.f137) .leaf .leaf) (.node (some Tryz.f201) .leaf .leaf)) (.node (some Tryz.f105) (.node (some Tryz.f169) .leaf .leaf) (.node (some Tryz.f233) .leaf .leaf))) (.node (some Tryz.f57) (.node (some Tryz.f89) (.node (some Tryz.f153) .leaf .leaf) (.node (some Tryz.f217) .leaf .leaf)) (.node (some Tryz.f121) (.node (some Tryz.f185) .leaf .leaf) .leaf)))) (.node (some Tryz.f13) (.node (some Tryz.f21) (.node (some Tryz.f37) (.node (some Tryz.f69) (.node (some Tryz.f133) .leaf .leaf) (.node (some Tryz.f197) .leaf .leaf)) (.node (some Tryz.f101) (.node (some Tryz.f165) .leaf .leaf) (.node (some Tryz.f229) .leaf .leaf))) (.node (some Tryz.f53) (.node (some Tryz.f85) (.node (some Tryz.f149) .leaf .leaf) (.node (some Tryz.f213) .leaf .leaf)) (.node (some Tryz.f117) (.node (some Tryz.f181) .leaf .leaf) (.node (some Tryz.f245) .leaf .leaf)))) (.node (some Tryz.f29) (.node (some Tryz.f45) (.node (some Tryz.f77) (.node (some Tryz.f141) .leaf .leaf) (.node (some Tryz.f205) .leaf .leaf)) (.node (some Tryz.f109) (.node (some Tryz.f173) .leaf .leaf) (.node (some Tryz.f237) .leaf .leaf))) (.node (some Tryz.f61) (.node (some Tryz.f93) (.node (some Tryz.f157) .leaf .leaf) (.node (some Tryz.f221) .leaf .leaf)) (.node (some Tryz.f125) (.node (some Tryz.f189) .leaf .leaf) .leaf)))))) (.node none (.node (some Tryz.f4) (.node (some Tryz.f8) (.node (some Tryz.f16) (.node (some Tryz.f32) (.node (some Tryz.f64) (.node (some Tryz.f128) .leaf .leaf) (.node (some Tryz.f192) .leaf .leaf)) (.node (some Tryz.f96) (.node (some Tryz.f160) .leaf .leaf) (.node (some Tryz.f224) .leaf .leaf))) (.node (some Tryz.f48) (.node (some Tryz.f80) (.node (some Tryz.f144) .leaf .leaf) (.node (some Tryz.f208) .leaf .leaf)) (.node (some Tryz.f112) (.node (some Tryz.f176) .leaf .leaf) (.node (some Tryz.f240) .leaf .leaf)))) (.node (some Tryz.f24) (.node (some Tryz.f40) (.node (some Tryz.f72) (.node (some Tryz.f136) .leaf .leaf) (.node (some Tryz.f200) .leaf .leaf)) (.node (some Tryz.f104) (.node (some Tryz.f168) .leaf .leaf) (.node (some Tryz.f232) .leaf .leaf))) (.node (some Tryz.f56) (.node (some Tryz.f88) (.node (some Tryz.f152) .leaf .leaf) (.node (some Tryz.f216) .leaf .leaf)) (.node (some Tryz.f120) (.node (some Tryz.f184) .leaf .leaf) .leaf)))) (.node (some Tryz.f12) (.node (some Tryz.f20) (.node (some Tryz.f36) (.node (some Tryz.f68) (.node (some Tryz.f132) .leaf .leaf) (.node (some Tryz.f196) .leaf .leaf)) (.node (some Tryz.f100) (.node (some Tryz.f164) .leaf .leaf) (.node (some Tryz.f228) .leaf .leaf))) (.node (some Tryz.f52) (.node (some Tryz.f84) (.node (some Tryz.f148) .leaf .leaf) (.node (some Tryz.f212) .leaf .leaf)) (.node (some Tryz.f116) (.node (some Tryz.f180) .leaf .leaf) (.node (some Tryz.f244) .leaf .leaf)))) (.node (some Tryz.f28) (.node (some Tryz.f44) (.node (some Tryz.f76) (.node (some Tryz.f140) .leaf .leaf) (.node (some Tryz.f204) .leaf .leaf)) (.node (some Tryz.f108) (.node (some Tryz.f172) .leaf .leaf) (.node (some Tryz.f236) .leaf .leaf))) (.node (some Tryz.f60) (.node (some Tryz.f92) (.node (some Tryz.f156) .leaf .leaf) (.node (some Tryz.f220) .leaf .leaf)) (.node (some Tryz.f124) (.node (some Tryz.f188) .leaf .leaf) .leaf))))) (.node (some Tryz.f6) (.node (some Tryz.f10) (.node (some Tryz.f18) (.node (some Tryz.f34) (.node (some Tryz.f66) (.node (some Tryz.f130) .leaf .leaf) (.node (some Tryz.f194) .leaf .leaf)) (.node (some Tryz.f98) (.node (some Tryz.f162) .leaf .leaf) (.node (some Tryz.f226) .leaf .leaf))) (.node (some Tryz.f50) (.node (some Tryz.f82) (.node (some Tryz.f146) .leaf .leaf) (.node (some Tryz.f210) .leaf .leaf)) (.node (some Tryz.f114) (.node (some Tryz.f178) .leaf .leaf) (.node (some Tryz.f242) .leaf .leaf)))) (.node (some Tryz.f26) (.node (some Tryz.f42) (.node (some Tryz.f74) (.node (some Tryz.f138) .leaf .leaf) (.node (some Tryz.f202) .leaf .leaf)) (.node (some Tryz.f106) (.node (some Tryz.f170) .leaf .leaf) (.node (some Tryz.f234) .leaf .leaf))) (.node (some Tryz.f58) (.node (some Tryz.f90) (.node (some Tryz.f154) .leaf .leaf) (.node (some Tryz.f218) .leaf .leaf)) (.node (some Tryz.f122) (.node (some Tryz.f186) .leaf .leaf) .leaf)))) (.node (some Tryz.f14) (.node (some Tryz.f22) (.node (some Tryz.f38) (.node (some Tryz.f70) (.node (some Tryz.f134) .leaf .leaf) (.node (some Tryz.f198) .leaf .leaf)) (.node (some Tryz.f102) (.node (some Tryz.f166) .leaf .leaf) (.node (some Tryz.f230) .leaf .leaf))) (.node (some Tryz.f54) (.node (some Tryz.f86) (.node (some Tryz.f150) .leaf .leaf) (.node (some Tryz.f214) .leaf .leaf)) (.node (some Tryz.f118) (.node (some Tryz.f182) .leaf .leaf) (.node (some Tryz.f246) .leaf .leaf)))) (.node (some Tryz.f30) (.node (some Tryz.f46) (.node (some Tryz.f78) (.node (some Tryz.f142) .leaf .leaf) (.node (some Tryz.f206) .leaf .leaf)) (.node (some Tryz.f110) (.node (some Tryz.f174) .leaf .leaf) (.node (some Tryz.f238) .leaf .leaf))) (.node (some Tryz.f62) (.node (some Tryz.f94) (.node (some Tryz.f158) .leaf .leaf) (.node (some Tryz.f222) .leaf .leaf)) (.node (some Tryz.f126) (.node (some Tryz.f190) .leaf .leaf) .leaf)))))))
theorem fnT_ok:∀f x,fnT.get f=some x→FnOk Tryz.prog f x:=Tr.allAt fnT id (show Tr.AllAt _ _ fnT from ⟨trivial,⟨trivial,⟨fn3_ok,⟨fn7_ok,⟨fn15_ok,⟨fn31_ok,⟨fn63_ok,⟨fn127_ok,trivial,trivial⟩,⟨fn191_ok,trivial,trivial⟩⟩,⟨fn95_ok,⟨fn159_ok,trivial,trivial⟩,⟨fn223_ok,trivial,trivial⟩⟩⟩,⟨fn47_ok,⟨fn79_ok,⟨fn143_ok,trivial,trivial⟩,⟨fn207_ok,trivial,trivial⟩⟩,⟨fn111_ok,⟨fn175_ok,trivial,trivial⟩,⟨fn239_ok,trivial,trivial⟩⟩⟩⟩,⟨fn23_ok,⟨fn39_ok,⟨fn71_ok,⟨fn135_ok,trivial,trivial⟩,⟨fn199_ok,trivial,trivial⟩⟩,⟨fn103_ok,⟨fn167_ok,trivial,trivial⟩,⟨fn231_ok,trivial,trivial⟩⟩⟩,⟨fn55_ok,⟨fn87_ok,⟨fn151_ok,trivial,trivial⟩,⟨fn215_ok,trivial,trivial⟩⟩,⟨fn119_ok,⟨fn183_ok,trivial,trivial⟩,trivial⟩⟩⟩⟩,⟨fn11_ok,⟨fn19_ok,⟨fn35_ok,⟨fn67_ok,⟨fn131_ok,trivial,trivial⟩,⟨fn195_ok,trivial,trivial⟩⟩,⟨fn99_ok,⟨fn163_ok,trivial,trivial⟩,⟨fn227_ok,trivial,trivial⟩⟩⟩,⟨fn51_ok,⟨fn83_ok,⟨fn147_ok,trivial,trivial⟩,⟨fn211_ok,trivial,trivial⟩⟩,⟨fn115_ok,⟨fn179_ok,trivial,trivial⟩,⟨fn243_ok,trivial,trivial⟩⟩⟩⟩,⟨fn27_ok,⟨fn43_ok,⟨fn75_ok,⟨fn139_ok,trivial,trivial⟩,⟨fn203_ok,trivial,trivial⟩⟩,⟨fn107_ok,⟨fn171_ok,trivial,trivial⟩,⟨fn235_ok,trivial,trivial⟩⟩⟩,⟨fn59_ok,⟨fn91_ok,⟨fn155_ok,trivial,trivial⟩,⟨fn219_ok,trivial,trivial⟩⟩,⟨fn123_ok,⟨fn187_ok,trivial,trivial⟩,trivial⟩⟩⟩⟩⟩,⟨fn5_ok,⟨fn9_ok,⟨fn17_ok,⟨fn33_ok,⟨fn65_ok,⟨fn129_ok,trivial,trivial⟩,⟨fn193_ok,trivial,trivial⟩⟩,⟨fn97_ok,⟨fn161_ok,trivial,trivial⟩,trivial⟩⟩,⟨fn49_ok,⟨fn81_ok,⟨fn145_ok,trivial,trivial⟩,⟨fn209_ok,trivial,trivial⟩⟩,⟨fn113_ok,⟨fn177_ok,trivial,trivial⟩,⟨fn241_ok,trivial,trivial⟩⟩⟩⟩,⟨fn25_ok,⟨fn41_ok,⟨fn73_ok,⟨fn137_ok,trivial,trivial⟩,⟨fn201_ok,trivial,trivial⟩⟩,⟨fn105_ok,⟨fn169_ok,trivial,trivial⟩,⟨fn233_ok,trivial,trivial⟩⟩⟩,⟨fn57_ok,⟨fn89_ok,⟨fn153_ok,trivial,trivial⟩,⟨fn217_ok,trivial,trivial⟩⟩,⟨fn121_ok,⟨fn185_ok,trivial,trivial⟩,trivial⟩⟩⟩⟩,⟨fn13_ok,⟨fn21_ok,⟨fn37_ok,⟨fn69_ok,⟨fn133_ok,trivial,trivial⟩,⟨fn197_ok,trivial,trivial⟩⟩,⟨fn101_ok,⟨fn165_ok,trivial,trivial⟩,⟨fn229_ok,trivial,trivial⟩⟩⟩,⟨fn53_ok,⟨fn85_ok,⟨fn149_ok,trivial,trivial⟩,⟨fn213_ok,trivial,trivial⟩⟩,⟨fn117_ok,⟨fn181_ok,trivial,trivial⟩,⟨fn245_ok,trivial,trivial⟩⟩⟩⟩,⟨fn29_ok,⟨fn45_ok,⟨fn77_ok,⟨fn141_ok,trivial,trivial⟩,⟨fn205_ok,trivial,trivial⟩⟩,⟨fn109_ok,⟨fn173_ok,trivial,trivial⟩,⟨fn237_ok,trivial,trivial⟩⟩⟩,⟨fn61_ok,⟨fn93_ok,⟨fn157_ok,trivial,trivial⟩,⟨fn221_ok,trivial,trivial⟩⟩,⟨fn125_ok,⟨fn189_ok,trivial,trivial⟩,trivial⟩⟩⟩⟩⟩⟩,⟨trivial,⟨fn4_ok,⟨fn8_ok,⟨fn16_ok,⟨fn32_ok,⟨fn64_ok,⟨fn128_ok,trivial,trivial⟩,⟨fn192_ok,trivial,trivial⟩⟩,⟨fn96_ok,⟨fn160_ok,trivial,trivial⟩,⟨fn224_ok,trivial,trivial⟩⟩⟩,⟨fn48_ok,⟨fn80_ok,⟨fn144_ok,trivial,trivial⟩,⟨fn208_ok,trivial,trivial⟩⟩,⟨fn112_ok,⟨fn176_ok,trivial,trivial⟩,⟨fn240_ok,trivial,trivial⟩⟩⟩⟩,⟨fn24_ok,⟨fn40_ok,⟨fn72_ok,⟨fn136_ok,trivial,trivial⟩,⟨fn200_ok,trivial,trivial⟩⟩,⟨fn104_ok,⟨fn168_ok,trivial,trivial⟩,⟨fn232_ok,trivial,trivial⟩⟩⟩,⟨fn56_ok,⟨fn88_ok,⟨fn152_ok,trivial,trivial⟩,⟨fn216_ok,trivial,trivial⟩⟩,⟨fn120_ok,⟨fn184_ok,trivial,trivial⟩,trivial⟩⟩⟩⟩,⟨fn12_ok,⟨fn20_ok,⟨fn36_ok,⟨fn68_ok,⟨fn132_ok,trivial,trivial⟩,⟨fn196_ok,trivial,trivial⟩⟩,⟨fn100_ok,⟨fn164_ok,trivial,trivial⟩,⟨fn228_ok,trivial,trivial⟩⟩⟩,⟨fn52_ok,⟨fn84_ok,⟨fn148_ok,trivial,trivial⟩,⟨fn212_ok,trivial,trivial⟩⟩,⟨fn116_ok,⟨fn180_ok,trivial,trivial⟩,⟨fn244_ok,trivial,trivial⟩⟩⟩⟩,⟨fn28_ok,⟨fn44_ok,⟨fn76_ok,⟨fn140_ok,trivial,trivial⟩,⟨fn204_ok,trivial,trivial⟩⟩,⟨fn108_ok,⟨fn172_ok,trivial,trivial⟩,⟨fn236_ok,trivial,trivial⟩⟩⟩,⟨fn60_ok,⟨fn92_ok,⟨fn156_ok,trivial,trivial⟩,⟨fn220_ok,trivial,trivial⟩⟩,⟨fn124_ok,⟨fn188_ok,trivial,trivial⟩,trivial⟩⟩⟩⟩⟩,⟨fn6_ok,⟨fn10_ok,⟨fn18_ok,⟨fn34_ok,⟨fn66_ok,⟨fn130_ok,trivial,trivial⟩,⟨fn194_ok,trivial,trivial⟩⟩,⟨fn98_ok,⟨fn162_ok,trivial,trivial⟩,⟨fn226_ok,trivial,trivial⟩⟩⟩,⟨fn50_ok,⟨fn82_ok,⟨fn146_ok,trivial,trivial⟩,⟨fn210_ok,trivial,trivial⟩⟩,⟨fn114_ok,⟨fn178_ok,trivial,trivial⟩,⟨fn242_ok,trivial,trivial⟩⟩⟩⟩,⟨fn26_ok,⟨fn42_ok,⟨fn74_ok,⟨fn138_ok,trivial,trivial⟩,⟨fn202_ok,trivial,trivial⟩⟩,⟨fn106_ok,⟨fn170_ok,trivial,trivial⟩,⟨fn234_ok,trivial,trivial⟩⟩⟩,⟨fn58_ok,⟨fn90_ok,⟨fn154_ok,trivial,trivial⟩,⟨fn218_ok,trivial,trivial⟩⟩,⟨fn122_ok,⟨fn186_ok,trivial,trivial⟩,trivial⟩⟩⟩⟩,⟨fn14_ok,⟨fn22_ok,⟨fn38_ok,⟨fn70_ok,⟨fn134_ok,trivial,trivial⟩,⟨fn198_ok,trivial,trivial⟩⟩,⟨fn102_ok,⟨fn166_ok,trivial,trivial⟩,⟨fn230_ok,trivial,trivial⟩⟩⟩,⟨fn54_ok,⟨fn86_ok,⟨fn150_ok,trivial,trivial⟩,⟨fn214_ok,trivial,trivial⟩⟩,⟨fn118_ok,⟨fn182_ok,trivial,trivial⟩,⟨fn246_ok,trivial,trivial⟩⟩⟩⟩,⟨fn30_ok,⟨fn46_ok,⟨fn78_ok,⟨fn142_ok,trivial,trivial⟩,⟨fn206_ok,trivial,trivial⟩⟩,⟨fn110_ok,⟨fn174_ok,trivial,trivial⟩,⟨fn238_ok,trivial,trivial⟩⟩⟩,⟨fn62_ok,⟨fn94_ok,⟨fn158_ok,trivial,trivial⟩,⟨fn222_ok,trivial,trivial⟩⟩,⟨fn126_ok,⟨fn190_ok,trivial,trivial⟩,trivial⟩⟩⟩⟩⟩⟩⟩)
theorem identT_ok:∀f:FuncId,(false)=true→∃fn,Tryz.prog.funcs[f]?=some fn∧(fn.name== "runtime.NumGoroutine")=false∧fn.body.isNone=true∧Extern.findNext fn=none∧Extern.find fn=some Extern.AbiNoEscape.same:=by
 intro f h
 simp at h
noncomputable def J:Env:={ P:=Tryz.prog,ty:=tyT.get,ty_ok:=tyT_ok,fn:=fnT.get,fn_ok:=fnT_ok,dfr:=fun f=>decide (f=19),ident:=fun f=>false,ident_ok:=identT_ok,inv:=fun _=>True,hook:=fun _ _=>none,hook_ok:=fun _ _ _ h=>by cases h }
abbrev okAll:FuncId→Bool:=fun _=>true
theorem code3_ok:bodyOk J Tryz.f3=true:=by kernel_rfl
theorem code4_ok:bodyOk J Tryz.f4=true:=by kernel_rfl
theorem code5_ok:bodyOk J Tryz.f5=true:=by kernel_rfl
theorem code6_ok:bodyOk J Tryz.f6=true:=by kernel_rfl
theorem code7_ok:bodyOk J Tryz.f7=true:=by kernel_rfl
theorem code8_ok:bodyOk J Tryz.f8=true:=by kernel_rfl
theorem code9_ok:bodyOk J Tryz.f9=true:=by kernel_rfl
theorem code10_ok:bodyOk J Tryz.f10=true:=by kernel_rfl
theorem code11_ok:bodyOk J Tryz.f11=true:=by kernel_rfl
theorem code12_ok:bodyOk J Tryz.f12=true:=by kernel_rfl
theorem code13_ok:bodyOk J Tryz.f13=true:=by kernel_rfl
theorem code14_ok:bodyOk J Tryz.f14=true:=by kernel_rfl
theorem code15_ok:bodyOk J Tryz.f15=true:=by kernel_rfl
theorem code16_ok:bodyOk J Tryz.f16=true:=by kernel_rfl
theorem code17_ok:bodyOk J Tryz.f17=true:=by kernel_rfl
theorem code18_ok:bodyOk J Tryz.f18=true:=by kernel_rfl
theorem code19_ok:bodyOk J Tryz.f19=true:=by kernel_rfl
theorem code20_ok:bodyOk J Tryz.f20=true:=by kernel_rfl
theorem code21_ok:bodyOk J Tryz.f21=true:=by kernel_rfl
theorem code22_ok:bodyOk J Tryz.f22=true:=by kernel_rfl
theorem code23_ok:bodyOk J Tryz.f23=true:=by kernel_rfl
theorem code24_ok:bodyOk J Tryz.f24=true:=by kernel_rfl
theorem code25_ok:bodyOk J Tryz.f25=true:=by kernel_rfl
theorem code26_ok:bodyOk J Tryz.f26=true:=by kernel_rfl
theorem code27_ok:bodyOk J Tryz.f27=true:=by kernel_rfl
theorem code28_ok:bodyOk J Tryz.f28=true:=by kernel_rfl
theorem code29_ok:bodyOk J Tryz.f29=true:=by kernel_rfl
theorem code30_ok:bodyOk J Tryz.f30=true:=by kernel_rfl
theorem code31_ok:bodyOk J Tryz.f31=true:=by kernel_rfl
theorem code32_ok:bodyOk J Tryz.f32=true:=by kernel_rfl
theorem code33_ok:bodyOk J Tryz.f33=true:=by kernel_rfl
theorem code34_ok:bodyOk J Tryz.f34=true:=by kernel_rfl
theorem code35_ok:bodyOk J Tryz.f35=true:=by kernel_rfl
theorem code36_ok:bodyOk J Tryz.f36=true:=by kernel_rfl
theorem code37_ok:bodyOk J Tryz.f37=true:=by kernel_rfl
theorem code38_ok:bodyOk J Tryz.f38=true:=by kernel_rfl
theorem code39_ok:bodyOk J Tryz.f39=true:=by kernel_rfl
theorem code40_ok:bodyOk J Tryz.f40=true:=by kernel_rfl
theorem code41_ok:bodyOk J Tryz.f41=true:=by kernel_rfl
theorem code42_ok:bodyOk J Tryz.f42=true:=by kernel_rfl
theorem code43_ok:bodyOk J Tryz.f43=true:=by kernel_rfl
theorem code44_ok:bodyOk J Tryz.f44=true:=by kernel_rfl
theorem code45_ok:bodyOk J Tryz.f45=true:=by kernel_rfl
theorem code46_ok:bodyOk J Tryz.f46=true:=by kernel_rfl
theorem code47_ok:bodyOk J Tryz.f47=true:=by kernel_rfl
theorem code48_ok:bodyOk J Tryz.f48=true:=by kernel_rfl
theorem code49_ok:bodyOk J Tryz.f49=true:=by kernel_rfl
theorem code50_ok:bodyOk J Tryz.f50=true:=by kernel_rfl
theorem code51_ok:bodyOk J Tryz.f51=true:=by kernel_rfl
theorem code52_ok:bodyOk J Tryz.f52=true:=by kernel_rfl
theorem code53_ok:bodyOk J Tryz.f53=true:=by kernel_rfl
theorem code54_ok:bodyOk J Tryz.f54=true:=by kernel_rfl
theorem code55_ok:bodyOk J Tryz.f55=true:=by kernel_rfl
theorem code56_ok:bodyOk J Tryz.f56=true:=by kernel_rfl
theorem code57_ok:bodyOk J Tryz.f57=true:=by kernel_rfl
theorem code58_ok:bodyOk J Tryz.f58=true:=by kernel_rfl
theorem code59_ok:bodyOk J Tryz.f59=true:=by kernel_rfl
theorem code60_ok:bodyOk J Tryz.f60=true:=by kernel_rfl
theorem code61_ok:bodyOk J Tryz.f61=true:=by kernel_rfl
theorem code62_ok:bodyOk J Tryz.f62=true:=by kernel_rfl
theorem code63_ok:bodyOk J Tryz.f63=true:=by kernel_rfl
theorem code64_ok:bodyOk J Tryz.f64=true:=by kernel_rfl
theorem code65_ok:bodyOk J Tryz.f65=true:=by kernel_rfl
theorem code66_ok:bodyOk J Tryz.f66=true:=by kernel_rfl
theorem code67_ok:bodyOk J Tryz.f67=true:=by kernel_rfl
theorem code68_ok:bodyOk J Tryz.f68=true:=by kernel_rfl
theorem code69_ok:bodyOk J Tryz.f69=true:=by kernel_rfl
theorem code70_ok:bodyOk J Tryz.f70=true:=by kernel_rfl
theorem code71_ok:bodyOk J Tryz.f71=true:=by kernel_rfl
theorem code72_ok:bodyOk J Tryz.f72=true:=by kernel_rfl
theorem code73_ok:bodyOk J Tryz.f73=true:=by kernel_rfl
theorem code74_ok:bodyOk J Tryz.f74=true:=by kernel_rfl
theorem code75_ok:bodyOk J Tryz.f75=true:=by kernel_rfl
theorem code76_ok:bodyOk J Tryz.f76=true:=by kernel_rfl
theorem code77_ok:bodyOk J Tryz.f77=true:=by kernel_rfl
theorem code78_ok:bodyOk J Tryz.f78=true:=by kernel_rfl
theorem code79_ok:bodyOk J Tryz.f79=true:=by kernel_rfl
theorem code80_ok:bodyOk J Tryz.f80=true:=by kernel_rfl
theorem code81_ok:bodyOk J Tryz.f81=true:=by kernel_rfl
theorem code82_ok:bodyOk J Tryz.f82=true:=by kernel_rfl
theorem code83_ok:bodyOk J Tryz.f83=true:=by kernel_rfl
theorem code84_ok:bodyOk J Tryz.f84=true:=by kernel_rfl
theorem code85_ok:bodyOk J Tryz.f85=true:=by kernel_rfl
theorem code86_ok:bodyOk J Tryz.f86=true:=by kernel_rfl
theorem code87_ok:bodyOk J Tryz.f87=true:=by kernel_rfl
theorem code88_ok:bodyOk J Tryz.f88=true:=by kernel_rfl
theorem code89_ok:bodyOk J Tryz.f89=true:=by kernel_rfl
theorem code90_ok:bodyOk J Tryz.f90=true:=by kernel_rfl
theorem code91_ok:bodyOk J Tryz.f91=true:=by kernel_rfl
theorem code92_ok:bodyOk J Tryz.f92=true:=by kernel_rfl
theorem code93_ok:bodyOk J Tryz.f93=true:=by kernel_rfl
theorem code94_ok:bodyOk J Tryz.f94=true:=by kernel_rfl
theorem code95_ok:bodyOk J Tryz.f95=true:=by kernel_rfl
theorem code96_ok:bodyOk J Tryz.f96=true:=by kernel_rfl
theorem code97_ok:bodyOk J Tryz.f97=true:=by kernel_rfl
theorem code98_ok:bodyOk J Tryz.f98=true:=by kernel_rfl
theorem code99_ok:bodyOk J Tryz.f99=true:=by kernel_rfl
theorem code100_ok:bodyOk J Tryz.f100=true:=by kernel_rfl
theorem code101_ok:bodyOk J Tryz.f101=true:=by kernel_rfl
theorem code102_ok:bodyOk J Tryz.f102=true:=by kernel_rfl
theorem code103_ok:bodyOk J Tryz.f103=true:=by kernel_rfl
theorem code104_ok:bodyOk J Tryz.f104=true:=by kernel_rfl
theorem code105_ok:bodyOk J Tryz.f105=true:=by kernel_rfl
theorem code106_ok:bodyOk J Tryz.f106=true:=by kernel_rfl
theorem code107_ok:bodyOk J Tryz.f107=true:=by kernel_rfl
theorem code108_ok:bodyOk J Tryz.f108=true:=by kernel_rfl
theorem code109_ok:bodyOk J Tryz.f109=true:=by kernel_rfl
theorem code110_ok:bodyOk J Tryz.f110=true:=by kernel_rfl
theorem code111_ok:bodyOk J Tryz.f111=true:=by kernel_rfl
theorem code112_ok:bodyOk J Tryz.f112=true:=by kernel_rfl
theorem code113_ok:bodyOk J Tryz.f113=true:=by kernel_rfl
theorem code114_ok:bodyOk J Tryz.f114=true:=by kernel_rfl
theorem code115_ok:bodyOk J Tryz.f115=true:=by kernel_rfl
theorem code116_ok:bodyOk J Tryz.f116=true:=by kernel_rfl
theorem code117_ok:bodyOk J Tryz.f117=true:=by kernel_rfl
theorem code118_ok:bodyOk J Tryz.f118=true:=by kernel_rfl
theorem code119_ok:bodyOk J Tryz.f119=true:=by kernel_rfl
theorem code120_ok:bodyOk J Tryz.f120=true:=by kernel_rfl
theorem code121_ok:bodyOk J Tryz.f121=true:=by kernel_rfl
theorem code122_ok:bodyOk J Tryz.f122=true:=by kernel_rfl
theorem code123_ok:bodyOk J Tryz.f123=true:=by kernel_rfl
theorem code124_ok:bodyOk J Tryz.f124=true:=by kernel_rfl
theorem code125_ok:bodyOk J Tryz.f125=true:=by kernel_rfl
theorem code126_ok:bodyOk J Tryz.f126=true:=by kernel_rfl
theorem code127_ok:bodyOk J Tryz.f127=true:=by kernel_rfl
theorem code128_ok:bodyOk J Tryz.f128=true:=by kernel_rfl
theorem code129_ok:bodyOk J Tryz.f129=true:=by kernel_rfl
theorem code130_ok:bodyOk J Tryz.f130=true:=by kernel_rfl
theorem code131_ok:bodyOk J Tryz.f131=true:=by kernel_rfl
theorem code132_ok:bodyOk J Tryz.f132=true:=by kernel_rfl
theorem code133_ok:bodyOk J Tryz.f133=true:=by kernel_rfl
theorem code134_ok:bodyOk J Tryz.f134=true:=by kernel_rfl
theorem code135_ok:bodyOk J Tryz.f135=true:=by kernel_rfl
theorem code136_ok:bodyOk J Tryz.f136=true:=by kernel_rfl
theorem code137_ok:bodyOk J Tryz.f137=true:=by kernel_rfl
theorem code138_ok:bodyOk J Tryz.f138=true:=by kernel_rfl
theorem code139_ok:bodyOk J Tryz.f139=true:=by kernel_rfl
theorem code140_ok:bodyOk J Tryz.f140=true:=by kernel_rfl
theorem code141_ok:bodyOk J Tryz.f141=true:=by kernel_rfl
theorem code142_ok:bodyOk J Tryz.f142=true:=by kernel_rfl
theorem code143_ok:bodyOk J Tryz.f143=true:=by kernel_rfl
theorem code144_ok:bodyOk J Tryz.f144=true:=by kernel_rfl
theorem code145_ok:bodyOk J Tryz.f145=true:=by kernel_rfl
theorem code146_ok:bodyOk J Tryz.f146=true:=by kernel_rfl
theorem code147_ok:bodyOk J Tryz.f147=true:=by kernel_rfl
theorem code148_ok:bodyOk J Tryz.f148=true:=by kernel_rfl
theorem code149_ok:bodyOk J Tryz.f149=true:=by kernel_rfl
theorem code150_ok:bodyOk J Tryz.f150=true:=by kernel_rfl
theorem code151_ok:bodyOk J Tryz.f151=true:=by kernel_rfl
theorem code152_ok:bodyOk J Tryz.f152=true:=by kernel_rfl
theorem code153_ok:bodyOk J Tryz.f153=true:=by kernel_rfl
theorem code154_ok:bodyOk J Tryz.f154=true:=by kernel_rfl
theorem code155_ok:bodyOk J Tryz.f155=true:=by kernel_rfl
theorem code156_ok:bodyOk J Tryz.f156=true:=by kernel_rfl
theorem code157_ok:bodyOk J Tryz.f157=true:=by kernel_rfl
theorem code158_ok:bodyOk J Tryz.f158=true:=by kernel_rfl
theorem code159_ok:bodyOk J Tryz.f159=true:=by kernel_rfl
theorem code160_ok:bodyOk J Tryz.f160=true:=by kernel_rfl
theorem code161_ok:bodyOk J Tryz.f161=true:=by kernel_rfl
theorem code162_ok:bodyOk J Tryz.f162=true:=by kernel_rfl
theorem code163_ok:bodyOk J Tryz.f163=true:=by kernel_rfl
theorem code164_ok:bodyOk J Tryz.f164=true:=by kernel_rfl
theorem code165_ok:bodyOk J Tryz.f165=true:=by kernel_rfl
theorem code166_ok:bodyOk J Tryz.f166=true:=by kernel_rfl
theorem code167_ok:bodyOk J Tryz.f167=true:=by kernel_rfl
theorem code168_ok:bodyOk J Tryz.f168=true:=by kernel_rfl
theorem code169_ok:bodyOk J Tryz.f169=true:=by kernel_rfl
theorem code170_ok:bodyOk J Tryz.f170=true:=by kernel_rfl
theorem code171_ok:bodyOk J Tryz.f171=true:=by kernel_rfl
theorem code172_ok:bodyOk J Tryz.f172=true:=by kernel_rfl
theorem code173_ok:bodyOk J Tryz.f173=true:=by kernel_rfl
theorem code174_ok:bodyOk J Tryz.f174=true:=by kernel_rfl
theorem code175_ok:bodyOk J Tryz.f175=true:=by kernel_rfl
theorem code176_ok:bodyOk J Tryz.f176=true:=by kernel_rfl
theorem code177_ok:bodyOk J Tryz.f177=true:=by kernel_rfl
theorem code178_ok:bodyOk J Tryz.f178=true:=by kernel_rfl
theorem code179_ok:bodyOk J Tryz.f179=true:=by kernel_rfl
theorem code180_ok:bodyOk J Tryz.f180=true:=by kernel_rfl
theorem code181_ok:bodyOk J Tryz.f181=true:=by kernel_rfl
theorem code182_ok:bodyOk J Tryz.f182=true:=by kernel_rfl
theorem code183_ok:bodyOk J Tryz.f183=true:=by kernel_rfl
theorem code184_ok:bodyOk J Tryz.f184=true:=by kernel_rfl
theorem code185_ok:bodyOk J Tryz.f185=true:=by kernel_rfl
theorem code186_ok:bodyOk J Tryz.f186=true:=by kernel_rfl
theorem code187_ok:bodyOk J Tryz.f187=true:=by kernel_rfl
theorem code188_ok:bodyOk J Tryz.f188=true:=by kernel_rfl
theorem code189_ok:bodyOk J Tryz.f189=true:=by kernel_rfl
theorem code190_ok:bodyOk J Tryz.f190=true:=by kernel_rfl
theorem code191_ok:bodyOk J Tryz.f191=true:=by kernel_rfl
theorem code192_ok:bodyOk J Tryz.f192=true:=by kernel_rfl
theorem code193_ok:bodyOk J Tryz.f193=true:=by kernel_rfl
theorem code194_ok:bodyOk J Tryz.f194=true:=by kernel_rfl
theorem code195_ok:bodyOk J Tryz.f195=true:=by kernel_rfl
theorem code196_ok:bodyOk J Tryz.f196=true:=by kernel_rfl
theorem code197_ok:bodyOk J Tryz.f197=true:=by kernel_rfl
theorem code198_ok:bodyOk J Tryz.f198=true:=by kernel_rfl
theorem code199_ok:bodyOk J Tryz.f199=true:=by kernel_rfl
theorem code200_ok:bodyOk J Tryz.f200=true:=by kernel_rfl
theorem code201_ok:bodyOk J Tryz.f201=true:=by kernel_rfl
theorem code202_ok:bodyOk J Tryz.f202=true:=by kernel_rfl
theorem code203_ok:bodyOk J Tryz.f203=true:=by kernel_rfl
theorem code204_ok:bodyOk J Tryz.f204=true:=by kernel_rfl
theorem code205_ok:bodyOk J Tryz.f205=true:=by kernel_rfl
theorem code206_ok:bodyOk J Tryz.f206=true:=by kernel_rfl
theorem code207_ok:bodyOk J Tryz.f207=true:=by kernel_rfl
theorem code208_ok:bodyOk J Tryz.f208=true:=by kernel_rfl
theorem code209_ok:bodyOk J Tryz.f209=true:=by kernel_rfl
theorem code210_ok:bodyOk J Tryz.f210=true:=by kernel_rfl
theorem code211_ok:bodyOk J Tryz.f211=true:=by kernel_rfl
theorem code212_ok:bodyOk J Tryz.f212=true:=by kernel_rfl
theorem code213_ok:bodyOk J Tryz.f213=true:=by kernel_rfl
theorem code214_ok:bodyOk J Tryz.f214=true:=by kernel_rfl
theorem code215_ok:bodyOk J Tryz.f215=true:=by kernel_rfl
theorem code216_ok:bodyOk J Tryz.f216=true:=by kernel_rfl
theorem code217_ok:bodyOk J Tryz.f217=true:=by kernel_rfl
theorem code218_ok:bodyOk J Tryz.f218=true:=by kernel_rfl
theorem code219_ok:bodyOk J Tryz.f219=true:=by kernel_rfl
theorem code220_ok:bodyOk J Tryz.f220=true:=by kernel_rfl
theorem code221_ok:bodyOk J Tryz.f221=true:=by kernel_rfl
theorem code222_ok:bodyOk J Tryz.f222=true:=by kernel_rfl
theorem code223_ok:bodyOk J Tryz.f223=true:=by kernel_rfl
theorem code224_ok:bodyOk J Tryz.f224=true:=by kernel_rfl
theorem code226_ok:bodyOk J Tryz.f226=true:=by kernel_rfl
theorem code227_ok:bodyOk J Tryz.f227=true:=by kernel_rfl
theorem code228_ok:bodyOk J Tryz.f228=true:=by kernel_rfl
theorem code229_ok:bodyOk J Tryz.f229=true:=by kernel_rfl
theorem code230_ok:bodyOk J Tryz.f230=true:=by kernel_rfl
theorem code231_ok:bodyOk J Tryz.f231=true:=by kernel_rfl
theorem code232_ok:bodyOk J Tryz.f232=true:=by kernel_rfl
theorem code233_ok:bodyOk J Tryz.f233=true:=by kernel_rfl
theorem code234_ok:bodyOk J Tryz.f234=true:=by kernel_rfl
theorem code235_ok:bodyOk J Tryz.f235=true:=by kernel_rfl
theorem code236_ok:bodyOk J Tryz.f236=true:=by kernel_rfl
theorem code237_ok:bodyOk J Tryz.f237=true:=by kernel_rfl
theorem code238_ok:bodyOk J Tryz.f238=true:=by kernel_rfl
theorem code239_ok:bodyOk J Tryz.f239=true:=by kernel_rfl
theorem code240_ok:bodyOk J Tryz.f240=true:=by kernel_rfl
theorem code241_ok:bodyOk J Tryz.f241=true:=by kernel_rfl
theorem code242_ok:bodyOk J Tryz.f242=true:=by kernel_rfl
theorem code243_ok:bodyOk J Tryz.f243=true:=by kernel_rfl
theorem code244_ok:bodyOk J Tryz.f244=true:=by kernel_rfl
theorem code245_ok:bodyOk J Tryz.f245=true:=by kernel_rfl
theorem code246_ok:bodyOk J Tryz.f246=true:=by kernel_rfl
theorem codeT_ok:∀f x,fnT.get f=some x→okAll f=true→bodyOk J x=true:=Tr.allAt (p:=fun f x=>okAll f=true→bodyOk J x=true) fnT id (show Tr.AllAt _ _ fnT from ⟨trivial,⟨trivial,⟨(fun _=>code3_ok),⟨(fun _=>code7_ok),⟨(fun _=>code15_ok),⟨(fun _=>code31_ok),⟨(fun _=>code63_ok),⟨(fun _=>code127_ok),trivial,trivial⟩,⟨(fun _=>code191_ok),trivial,trivial⟩⟩,⟨(fun _=>code95_ok),⟨(fun _=>code159_ok),trivial,trivial⟩,⟨(fun _=>code223_ok),trivial,trivial⟩⟩⟩,⟨(fun _=>code47_ok),⟨(fun _=>code79_ok),⟨(fun _=>code143_ok),trivial,trivial⟩,⟨(fun _=>code207_ok),trivial,trivial⟩⟩,⟨(fun _=>code111_ok),⟨(fun _=>code175_ok),trivial,trivial⟩,⟨(fun _=>code239_ok),trivial,trivial⟩⟩⟩⟩,⟨(fun _=>code23_ok),⟨(fun _=>code39_ok),⟨(fun _=>code71_ok),⟨(fun _=>code135_ok),trivial,trivial⟩,⟨(fun _=>code199_ok),trivial,trivial⟩⟩,⟨(fun _=>code103_ok),⟨(fun _=>code167_ok),trivial,trivial⟩,⟨(fun _=>code231_ok),trivial,trivial⟩⟩⟩,⟨(fun _=>code55_ok),⟨(fun _=>code87_ok),⟨(fun _=>code151_ok),trivial,trivial⟩,⟨(fun _=>code215_ok),trivial,trivial⟩⟩,⟨(fun _=>code119_ok),⟨(fun _=>code183_ok),trivial,trivial⟩,trivial⟩⟩⟩⟩,⟨(fun _=>code11_ok),⟨(fun _=>code19_ok),⟨(fun _=>code35_ok),⟨(fun _=>code67_ok),⟨(fun _=>code131_ok),trivial,trivial⟩,⟨(fun _=>code195_ok),trivial,trivial⟩⟩,⟨(fun _=>code99_ok),⟨(fun _=>code163_ok),trivial,trivial⟩,⟨(fun _=>code227_ok),trivial,trivial⟩⟩⟩,⟨(fun _=>code51_ok),⟨(fun _=>code83_ok),⟨(fun _=>code147_ok),trivial,trivial⟩,⟨(fun _=>code211_ok),trivial,trivial⟩⟩,⟨(fun _=>code115_ok),⟨(fun _=>code179_ok),trivial,trivial⟩,⟨(fun _=>code243_ok),trivial,trivial⟩⟩⟩⟩,⟨(fun _=>code27_ok),⟨(fun _=>code43_ok),⟨(fun _=>code75_ok),⟨(fun _=>code139_ok),trivial,trivial⟩,⟨(fun _=>code203_ok),trivial,trivial⟩⟩,⟨(fun _=>code107_ok),⟨(fun _=>code171_ok),trivial,trivial⟩,⟨(fun _=>code235_ok),trivial,trivial⟩⟩⟩,⟨(fun _=>code59_ok),⟨(fun _=>code91_ok),⟨(fun _=>code155_ok),trivial,trivial⟩,⟨(fun _=>code219_ok),trivial,trivial⟩⟩,⟨(fun _=>code123_ok),⟨(fun _=>code187_ok),trivial,trivial⟩,trivial⟩⟩⟩⟩⟩,⟨(fun _=>code5_ok),⟨(fun _=>code9_ok),⟨(fun _=>code17_ok),⟨(fun _=>code33_ok),⟨(fun _=>code65_ok),⟨(fun _=>code129_ok),trivial,trivial⟩,⟨(fun _=>code193_ok),trivial,trivial⟩⟩,⟨(fun _=>code97_ok),⟨(fun _=>code161_ok),trivial,trivial⟩,trivial⟩⟩,⟨(fun _=>code49_ok),⟨(fun _=>code81_ok),⟨(fun _=>code145_ok),trivial,trivial⟩,⟨(fun _=>code209_ok),trivial,trivial⟩⟩,⟨(fun _=>code113_ok),⟨(fun _=>code177_ok),trivial,trivial⟩,⟨(fun _=>code241_ok),trivial,trivial⟩⟩⟩⟩,⟨(fun _=>code25_ok),⟨(fun _=>code41_ok),⟨(fun _=>code73_ok),⟨(fun _=>code137_ok),trivial,trivial⟩,⟨(fun _=>code201_ok),trivial,trivial⟩⟩,⟨(fun _=>code105_ok),⟨(fun _=>code169_ok),trivial,trivial⟩,⟨(fun _=>code233_ok),trivial,trivial⟩⟩⟩,⟨(fun _=>code57_ok),⟨(fun _=>code89_ok),⟨(fun _=>code153_ok),trivial,trivial⟩,⟨(fun _=>code217_ok),trivial,trivial⟩⟩,⟨(fun _=>code121_ok),⟨(fun _=>code185_ok),trivial,trivial⟩,trivial⟩⟩⟩⟩,⟨(fun _=>code13_ok),⟨(fun _=>code21_ok),⟨(fun _=>code37_ok),⟨(fun _=>code69_ok),⟨(fun _=>code133_ok),trivial,trivial⟩,⟨(fun _=>code197_ok),trivial,trivial⟩⟩,⟨(fun _=>code101_ok),⟨(fun _=>code165_ok),trivial,trivial⟩,⟨(fun _=>code229_ok),trivial,trivial⟩⟩⟩,⟨(fun _=>code53_ok),⟨(fun _=>code85_ok),⟨(fun _=>code149_ok),trivial,trivial⟩,⟨(fun _=>code213_ok),trivial,trivial⟩⟩,⟨(fun _=>code117_ok),⟨(fun _=>code181_ok),trivial,trivial⟩,⟨(fun _=>code245_ok),trivial,trivial⟩⟩⟩⟩,⟨(fun _=>code29_ok),⟨(fun _=>code45_ok),⟨(fun _=>code77_ok),⟨(fun _=>code141_ok),trivial,trivial⟩,⟨(fun _=>code205_ok),trivial,trivial⟩⟩,⟨(fun _=>code109_ok),⟨(fun _=>code173_ok),trivial,trivial⟩,⟨(fun _=>code237_ok),trivial,trivial⟩⟩⟩,⟨(fun _=>code61_ok),⟨(fun _=>code93_ok),⟨(fun _=>code157_ok),trivial,trivial⟩,⟨(fun _=>code221_ok),trivial,trivial⟩⟩,⟨(fun _=>code125_ok),⟨(fun _=>code189_ok),trivial,trivial⟩,trivial⟩⟩⟩⟩⟩⟩,⟨trivial,⟨(fun _=>code4_ok),⟨(fun _=>code8_ok),⟨(fun _=>code16_ok),⟨(fun _=>code32_ok),⟨(fun _=>code64_ok),⟨(fun _=>code128_ok),trivial,trivial⟩,⟨(fun _=>code192_ok),trivial,trivial⟩⟩,⟨(fun _=>code96_ok),⟨(fun _=>code160_ok),trivial,trivial⟩,⟨(fun _=>code224_ok),trivial,trivial⟩⟩⟩,⟨(fun _=>code48_ok),⟨(fun _=>code80_ok),⟨(fun _=>code144_ok),trivial,trivial⟩,⟨(fun _=>code208_ok),trivial,trivial⟩⟩,⟨(fun _=>code112_ok),⟨(fun _=>code176_ok),trivial,trivial⟩,⟨(fun _=>code240_ok),trivial,trivial⟩⟩⟩⟩,⟨(fun _=>code24_ok),⟨(fun _=>code40_ok),⟨(fun _=>code72_ok),⟨(fun _=>code136_ok),trivial,trivial⟩,⟨(fun _=>code200_ok),trivial,trivial⟩⟩,⟨(fun _=>code104_ok),⟨(fun _=>code168_ok),trivial,trivial⟩,⟨(fun _=>code232_ok),trivial,trivial⟩⟩⟩,⟨(fun _=>code56_ok),⟨(fun _=>code88_ok),⟨(fun _=>code152_ok),trivial,trivial⟩,⟨(fun _=>code216_ok),trivial,trivial⟩⟩,⟨(fun _=>code120_ok),⟨(fun _=>code184_ok),trivial,trivial⟩,trivial⟩⟩⟩⟩,⟨(fun _=>code12_ok),⟨(fun _=>code20_ok),⟨(fun _=>code36_ok),⟨(fun _=>code68_ok),⟨(fun _=>code132_ok),trivial,trivial⟩,⟨(fun _=>code196_ok),trivial,trivial⟩⟩,⟨(fun _=>code100_ok),⟨(fun _=>code164_ok),trivial,trivial⟩,⟨(fun _=>code228_ok),trivial,trivial⟩⟩⟩,⟨(fun _=>code52_ok),⟨(fun _=>code84_ok),⟨(fun _=>code148_ok),trivial,trivial⟩,⟨(fun _=>code212_ok),trivial,trivial⟩⟩,⟨(fun _=>code116_ok),⟨(fun _=>code180_ok),trivial,trivial⟩,⟨(fun _=>code244_ok),trivial,trivial⟩⟩⟩⟩,⟨(fun _=>code28_ok),⟨(fun _=>code44_ok),⟨(fun _=>code76_ok),⟨(fun _=>code140_ok),trivial,trivial⟩,⟨(fun _=>code204_ok),trivial,trivial⟩⟩,⟨(fun _=>code108_ok),⟨(fun _=>code172_ok),trivial,trivial⟩,⟨(fun _=>code236_ok),trivial,trivial⟩⟩⟩,⟨(fun _=>code60_ok),⟨(fun _=>code92_ok),⟨(fun _=>code156_ok),trivial,trivial⟩,⟨(fun _=>code220_ok),trivial,trivial⟩⟩,⟨(fun _=>code124_ok),⟨(fun _=>code188_ok),trivial,trivial⟩,trivial⟩⟩⟩⟩⟩,⟨(fun _=>code6_ok),⟨(fun _=>code10_ok),⟨(fun _=>code18_ok),⟨(fun _=>code34_ok),⟨(fun _=>code66_ok),⟨(fun _=>code130_ok),trivial,trivial⟩,⟨(fun _=>code194_ok),trivial,trivial⟩⟩,⟨(fun _=>code98_ok),⟨(fun _=>code162_ok),trivial,trivial⟩,⟨(fun _=>code226_ok),trivial,trivial⟩⟩⟩,⟨(fun _=>code50_ok),⟨(fun _=>code82_ok),⟨(fun _=>code146_ok),trivial,trivial⟩,⟨(fun _=>code210_ok),trivial,trivial⟩⟩,⟨(fun _=>code114_ok),⟨(fun _=>code178_ok),trivial,trivial⟩,⟨(fun _=>code242_ok),trivial,trivial⟩⟩⟩⟩,⟨(fun _=>code26_ok),⟨(fun _=>code42_ok),⟨(fun _=>code74_ok),⟨(fun _=>code138_ok),trivial,trivial⟩,⟨(fun _=>code202_ok),trivial,trivial⟩⟩,⟨(fun _=>code106_ok),⟨(fun _=>code170_ok),trivial,trivial⟩,⟨(fun _=>code234_ok),trivial,trivial⟩⟩⟩,⟨(fun _=>code58_ok),⟨(fun _=>code90_ok),⟨(fun _=>code154_ok),trivial,trivial⟩,⟨(fun _=>code218_ok),trivial,trivial⟩⟩,⟨(fun _=>code122_ok),⟨(fun _=>code186_ok),trivial,trivial⟩,trivial⟩⟩⟩⟩,⟨(fun _=>code14_ok),⟨(fun _=>code22_ok),⟨(fun _=>code38_ok),⟨(fun _=>code70_ok),⟨(fun _=>code134_ok),trivial,trivial⟩,⟨(fun _=>code198_ok),trivial,trivial⟩⟩,⟨(fun _=>code102_ok),⟨(fun _=>code166_ok),trivial,trivial⟩,⟨(fun _=>code230_ok),trivial,trivial⟩⟩⟩,⟨(fun _=>code54_ok),⟨(fun _=>code86_ok),⟨(fun _=>code150_ok),trivial,trivial⟩,⟨(fun _=>code214_ok),trivial,trivial⟩⟩,⟨(fun _=>code118_ok),⟨(fun _=>code182_ok),trivial,trivial⟩,⟨(fun _=>code246_ok),trivial,trivial⟩⟩⟩⟩,⟨(fun _=>code30_ok),⟨(fun _=>code46_ok),⟨(fun _=>code78_ok),⟨(fun _=>code142_ok),trivial,trivial⟩,⟨(fun _=>code206_ok),trivial,trivial⟩⟩,⟨(fun _=>code110_ok),⟨(fun _=>code174_ok),trivial,trivial⟩,⟨(fun _=>code238_ok),trivial,trivial⟩⟩⟩,⟨(fun _=>code62_ok),⟨(fun _=>code94_ok),⟨(fun _=>code158_ok),trivial,trivial⟩,⟨(fun _=>code222_ok),trivial,trivial⟩⟩,⟨(fun _=>code126_ok),⟨(fun _=>code190_ok),trivial,trivial⟩,trivial⟩⟩⟩⟩⟩⟩⟩)
theorem mixed:J.P.follows .mixedOrders=true:=by kernel_rfl
theorem sound (B:Bd) (k:Nat):CallSound J B (icall J okAll k):=icall_sound mixed (fun f fn c hk hf hc=>by have:=codeT_ok f fn hf hk;unfold bodyOk at this;rw [hc] at this;exact this) k B
end Go.Proofs.YtchlbfmjnhgpgaaGreat.Idl
