/- vm: begin (2). -/
import Derived.Test.YtchlbfmjnhgpgaaGreatPack3
namespace Go.Proofs.YtchlbfmjnhgpgaaGreat.Idl
open Go
set_option maxHeartbeats 8000000
set_option maxRecDepth 100000
set_option linter.unusedSimpArgs false
section
variable {H:IH} {lo:Nat} {im:Img} {s:Scr}
theorem m_begin {p mp:Nat} {iv cv:Value} (hi:ImgAt H lo mp im) (hin:LAt lo 1 (CellAt H 5 byteV) iv s.input) (hcl:LAt lo 1 (CellAt H 4 Value.bool) cv s.collect) (hs:ScrOk s) (hsm:ImSm im) (hlo:lo≤H.next) (hp:lo≤p∧p<H.next)
  (ho:H.get p=some (.cells (cells0 mp iv cv s) 84 false)):
  (beginOk im=false→∃H',cal J okAll 36 #[ptrV p] H=some (.pan (overV 6),H')∧Fr H.next H H')∧
  (beginOk im=true→∀r σ',vCall im im.main [] (im.start s)=some (r,σ')→∃H' A' e,cal J okAll 36 #[ptrV p] H=some (e,H')∧A'.p=p∧VmAt H' lo im A' σ'∧H.next≤H'.next∧(∀x,x<H.next→x≠p→H'.get x=H.get x)∧RV UnitV H' A' r e∧(∀x∈A'.own,x=p∨H.next≤x)):=by
 rw [cal36 _ _ (by simp)]
 obtain ⟨hmp,u,pr,hg,hv⟩:=hi
 have hmpn:mp<H.next:=by omega
 obtain ⟨ta,tc,et,_⟩:=id hv.types
 obtain ⟨sa,sc,es,_⟩:=id hv.shapes
 obtain ⟨ga,gc,eg,_⟩:=id hv.strings
 obtain ⟨na,nc,en,_⟩:=id hv.names
 obtain ⟨fa,fc,ef,_⟩:=id hv.funcs
 obtain ⟨H1,f1,c1⟩:=c_Check hv hlo hsm
 have hm1:=fun G=>c_must (H:=G) (ptrV p) true
 have hm2:=fun G=>c_must (H:=G) (ptrV p) false
 simp only [ptrV] at hm1 hm2
 simp only [cells0,ptrV] at ho
 simp only [ImV.val,ImV.cells,et,es,eg,en,ef] at c1 hg
 have ho1:=(f1.2 p hp.2).trans ho
 have hg1:=(f1.2 mp hmpn).trans hg
 by_cases hc:checkF im=0
 ·rw [hc] at c1
  have hok:=checkF_ok hc hsm
  have hsl:=hok.shapes
  simp [C36,regsOf,ptrV,ho,hg,loadT_agg,c1,hm1,ho1,hg1]
  generalize hX:run J okAll (.loop L36_0) _ _=X
  obtain ⟨T1,hT,a0,a2,a24,a25,a26⟩:∃T1,run J okAll (.loop L36_0) T1 H1=X∧T1.at 0=ptrV p∧T1.at 2=.slice none 0 0∧T1.at 24=u.shapes∧T1.at 25=.int .i64 (im.shapes.length:Int)∧T1.at 26=.int .i64 ((0:Nat):Int):=⟨_,hX,by simp [ptrV],by simp,by simp [es],by simp,by simp⟩
  obtain ⟨T2,H2,f2,e2,k2,ly2⟩:=loop36 hv.shapes hlo (by omega) (fun t=>T1.at t) im.shapes 0 T1 H1 rfl (by omega) f1 (fun t ht=>rfl) (.inl ⟨a2,rfl⟩) a24 a25 a26
  have e2:=hT.symm.trans e2
  subst e2
  have b0:=(k2 0 (by omega)).trans a0
  have ho2:=(f2.2 p hp.2).trans ho
  have hg2:=(f2.2 mp hmpn).trans hg
  simp only [ptrV] at b0
  by_cases hly:(im.shapes.map Shp.ly).all lyOk=true
  ·obtain ⟨H3,a,c3,f3,hp3,q1,q2,q3,q4⟩:=c_New s.heap hs.heap (T2.at 2) (im.shapes.map Shp.ly) ly2.at (by simp;omega) hly
   have ho3:=(f3.2 p (by have:=f2.1;omega)).trans ho2
   have hg3:=(f3.2 mp (by have:=f2.1;omega)).trans hg2
   have ff3:Fr H.next H H3:=f2.trans (f3.of_le f2.1)
   simp only [HpA.ptr] at c3
   by_cases hmo:mainOk im=true
   ·refine ⟨fun hb=>by simp [beginOk,hc,hly,hmo] at hb,fun _ r σ' hx=>?_⟩
    have hmo2:=hmo
    simp only [mainOk,Bool.and_eq_true,decide_eq_true_eq] at hmo2
    obtain ⟨⟨m1,m2⟩,m3⟩:=hmo2
    have m1d:decide (0≤im.main)=true:=decide_eq_true m1
    have m2d:decide (im.main<im.funcs.length)=true:=decide_eq_true m2
    have hlt:im.main.toNat<im.funcs.length:=by omega
    rw [List.getElem?_eq_getElem hlt] at m3
    simp only [Option.map_some,Option.getD_some,List.isEmpty_iff] at m3
    obtain ⟨b,o,c,eq,hb,_,hfn⟩:=hv.funcs.get (List.getElem?_eq_getElem hlt)
    rw [ef] at eq
    simp only [Value.slice.injEq] at eq
    obtain ⟨rfl,_,rfl⟩:=eq
    obtain ⟨cs,pr2,vp,vb,g0,g1,g2,g3,g4,g5,g6⟩:=hfn.ex
    have g0':=(ff3.2 b (by omega)).trans g0
    obtain ⟨pa,pc,rfl,_⟩:=id g5
    rw [m3] at g1
    obtain ⟨H4,hH4⟩:∃H4,H4=H3.set p (.cells (({ p:=p,mp:=mp,hp:=a,iv:=iv,cv:=cv,fv:=.slice none 0 0,ov:=.slice none 0 0,fr:=[] }:VA).cells (im.start s)) 84 false):=⟨_,rfl⟩
    have hs4:∀x,x≠p→H4.get x=H3.get x:=fun x hx=>by rw [hH4,IH.get_set,if_neg hx]
    have n4:H4.next=H3.next:=by rw [hH4];rfl
    have sb4:SameB lo H H4:=fun x hx=>by rw [hs4 x (by omega)];exact ff3.2 x (by omega)
    have hf2n:=f2.1
    have hf3n:=f3.1
    have hap:∀x,H2.next≤x→x≠p:=fun x hx e=>by omega
    have hp4:HpAt H4 a (.new s.heap (im.shapes.map Shp.ly)):=hp3.mono (by omega) (hs4 _ (hap _ q1)) (hs4 _ (hap _ q2)) (hs4 _ (hap _ q3)) fun lb l c e=>hs4 _ (hap _ (q4 _ _ _ e))
    have hvm:VmAt H4 lo im { p:=p,mp:=mp,hp:=a,iv:=iv,cv:=cv,fv:=.slice none 0 0,ov:=.slice none 0 0,fr:=[] } (im.start s):=
     start_at (ImgAt.same ⟨hmp,u,pr,by simpa [ImV.cells,et,es,eg,en,ef] using hg,hv⟩ sb4) (hin.mono fun _ _ _ hb hx=>CellAt.same hx sb4 hb) (hcl.mono fun _ _ _ hb hx=>CellAt.same hx sb4 hb) hs hok (by omega) hp4 q1 q2 q3 q4 (by omega) (by omega) (by rw [hH4,IH.get_set,if_pos rfl])
    obtain ⟨H5,A5,e5,c5,h5,n5,rv5⟩:=m_call hvm im.main (u:=.slice none 0 0) (args:=[]) (.inl ⟨rfl,rfl⟩) (by simp) r σ' hx
    have hmpp:mp≠p:=by omega
    have hg4:=(hs4 mp hmpp).trans hg3
    have hown0:∀x∈({ p:=p,mp:=mp,hp:=a,iv:=iv,cv:=cv,fv:=.slice none 0 0,ov:=.slice none 0 0,fr:=[] }:VA).own,x=p∨H.next≤x:=by
     intro x hm
     simp only [VA.own,bOf,frOwn,List.append_nil,List.mem_cons] at hm
     rcases hm with hm|hm|hm|hm|hm
     ·exact .inl hm
     ·exact .inr (by omega)
     ·exact .inr (by omega)
     ·exact .inr (by omega)
     ·rcases hp4.ly with ⟨e,_⟩|⟨lb,e,_⟩
      ·rw [e] at hm;simp [bOf] at hm
      ·rw [e] at hm
       simp only [bOf_some,List.mem_singleton] at hm
       have:=q4 _ _ _ e
       exact .inr (by omega)
    refine ⟨H5,A5,e5,?_,n5.p,h5,by have:=n5.fx.1;omega,fun x hx hne=>?_,rv5,fun x hm=>(n5.own x hm).elim (hown0 x) (fun h1=>.inr (by omega))⟩
    ·simp only [VA.cells,Img.start,ptrV,Int.natCast_zero,Int.cast_ofNat_Int] at hH4 c5
     have hg4p:=congrArg (fun z=>z.get p) hH4
     simp only [IH.get_set,if_true] at hg4p
     cases r with
     |ok z=>
      obtain ⟨u5,rfl,rfl⟩:=rv5
      simp [b0,ho2,c3,ho3,hg3,m1,m1d,m2,m2d,iindexAddr,g0',g1,hm1,istore,Value.cells,plain1,overlay,←hH4,hg4p,hg4,c5,fin,iresult1]
     |error k=>
      have rv5:e5=.pan (overV k):=rv5
      subst rv5
      simp [b0,ho2,c3,ho3,hg3,m1,m1d,m2,m2d,iindexAddr,g0',g1,hm1,istore,Value.cells,plain1,overlay,←hH4,hg4p,hg4,c5,fin,iresult1]
    ·rw [n5.fx.2 x (by omega) (fun hm=>?_),hs4 x hne];exact ff3.2 x hx
     simp only [VA.own,bOf,frOwn,List.append_nil,List.mem_cons] at hm
     rcases hm with hm|hm|hm|hm|hm
     ·exact hne hm
     ·omega
     ·omega
     ·omega
     ·rcases hp4.ly with ⟨e,_⟩|⟨lb,e,_⟩
      ·rw [e] at hm;simp [bOf] at hm
      ·rw [e] at hm
       simp only [bOf_some,List.mem_singleton] at hm
       have:=q4 _ _ _ e
       omega
   ·refine ⟨fun _=>?_,fun hb=>by simp [beginOk,hmo] at hb⟩
    simp only [mainOk] at hmo
    cases m1d:decide (0≤im.main) with
    |false=>
     simp [b0,ho2,c3,ho3,hg3,m1d,hm2,fin,iresult1]
     exact ff3
    |true=>
     have m1:0≤im.main:=by simpa using m1d
     cases m2d:decide (im.main<im.funcs.length) with
     |false=>
      simp [b0,ho2,c3,ho3,hg3,m1,m1d,m2d,hm2,fin,iresult1]
      exact ff3
     |true=>
      have m2:im.main<im.funcs.length:=by simpa using m2d
      have hlt:im.main.toNat<im.funcs.length:=by omega
      rw [m1d,m2d,List.getElem?_eq_getElem hlt] at hmo
      simp only [Option.map_some,Option.getD_some,Bool.true_and,Bool.not_eq_true] at hmo
      obtain ⟨b,o,c,eq,hb,_,hfn⟩:=hv.funcs.get (List.getElem?_eq_getElem hlt)
      rw [ef] at eq
      simp only [Value.slice.injEq] at eq
      obtain ⟨rfl,_,rfl⟩:=eq
      obtain ⟨cs,pr2,vp,vb,g0,g1,g2,g3,g4,g5,g6⟩:=hfn.ex
      have g0':=(ff3.2 b (by omega)).trans g0
      obtain ⟨pa,pc,rfl,_⟩:=id g5
      have hnz:decide (im.funcs[im.main.toNat].params.length=0)=false:=by
       rw [decide_eq_false_iff_not]
       intro e
       rw [List.eq_nil_of_length_eq_zero e] at hmo
       simp at hmo
      obtain ⟨pl,hpl⟩:∃pl,pl=im.funcs[im.main.toNat].params.length:=⟨_,rfl⟩
      rw [←hpl] at g1 hnz
      have hnz2:¬pl=0:=by simpa using hnz
      simp [b0,ho2,c3,ho3,hg3,m1,m1d,m2,m2d,iindexAddr,g0',g1,hm2,hnz,hnz2,fin,iresult1]
      exact ff3
  ·obtain ⟨H3,c3,f3⟩:=c_New_bad s.heap hs.heap (T2.at 2) (im.shapes.map Shp.ly) ly2.at (by simp;omega) hly
   have ff3:Fr H.next H H3:=f2.trans (f3.of_le f2.1)
   have ho3:=(f3.2 p (by have:=f2.1;omega)).trans ho2
   refine ⟨fun _=>?_,fun hb=>by simp [beginOk,hly] at hb⟩
   simp [b0,ho2,c3,ho3,hm2,fin,iresult1]
   exact ff3
 ·refine ⟨fun _=>?_,fun hb=>by simp [beginOk,hc] at hb⟩
  have hcd:decide (checkF im=0)=false:=decide_eq_false hc
  simp [C36,regsOf,ptrV,ho,hg,loadT_agg,c1,hm2,hcd,fin,iresult1]
  exact f1
end
end Go.Proofs.YtchlbfmjnhgpgaaGreat.Idl
namespace Go.Proofs.YtchlbfmjnhgpgaaGreat.Idl
open Go Go.RowKit
set_option maxRecDepth 100000
set_option linter.unusedSimpArgs false
section
variable {J:Env}
theorem iopsD_er (call:CallR) (ops:Array Oper):∀(l:List Oper) (T:Regs) (H:IH) (D:Defs),iopsD J call (ops.map erO) (l.map erO) T H D=iopsD J call ops l T H D:=by
 intro l
 induction l with
 |nil=>intro T H D;rfl
 |cons o r ih=>
  intro T H D
  have h1:isDefer (erO o)=isDefer o:=rfl
  have h2:deferR T (erO o)=deferR T o:=rfl
  have h3:(erO o).dst=o.dst:=rfl
  simp only [List.map_cons,iopsD,wanted_er,h1,h2,h3,iexec_er,ih]
theorem iopsS_er (call:CallR) (ops:Array Oper):∀(l:List Oper) (T:Regs) (H:IH) (u:RS),iopsS J call (ops.map erO) (l.map erO) T H u=iopsS J call ops l T H u:=by
 intro l
 induction l with
 |nil=>intro T H u;rfl
 |cons o r ih=>
  intro T H u
  have h1:isRecover (erO o)=isRecover o:=rfl
  have h3:(erO o).dst=o.dst:=rfl
  simp only [List.map_cons,iopsS,wanted_er,h1,h3,iexec_er,ih]
def strD:Code→Bool
 | .seq a b=>strD a&&strD b
 | .region _ _ d=> !d
 | .ret=>true
 |_=>false
def strS:Code→Bool
 | .seq a b=>strS a&&strS b
 | .region _ _ d=> !d
 |_=>true
theorem icodeD_er (call:CallR) (k:Nat) (Ks:List Tmp):∀(c:Code),strD c=true→∀(T:Regs) (H:IH) (D:Defs),icodeD J call k Ks (erC J c) T H D=icodeD J call k Ks c T H D
 | .seq a b,h,T,H,D=>by
  simp only [strD,Bool.and_eq_true] at h
  simp only [erC,icodeD,icodeD_er call k Ks a h.1]
  split
  ·exact icodeD_er call k Ks b h.2 _ _ _
  ·rfl
 | .region i ops d,h,T,H,D=>by
  simp only [strD,Bool.not_eq_true'] at h
  subst h
  simp only [erC,Bool.false_eq_true,if_false,icodeD,Array.toList_map,iopsD_er]
 | .ret,_,_,_,_=>rfl
theorem icodeS_er (call:CallR) (k:Nat):∀(c:Code),strS c=true→∀(T:Regs) (H:IH) (u:RS),icodeS J call k (erC J c) T H u=icodeS J call k c T H u
 | .seq a b,h,T,H,u=>by
  simp only [strS,Bool.and_eq_true] at h
  simp only [erC,icodeS,icodeS_er call k a h.1]
  split
  ·exact icodeS_er call k b h.2 _ _ _
  ·rfl
 | .region i ops d,h,T,H,u=>by
  simp only [strS,Bool.not_eq_true'] at h
  subst h
  simp only [erC,Bool.false_eq_true,if_false,icodeS,Array.toList_map,iopsS_er]
 | .cond c x y,_,T,H,u=>by
  have:=icode_er (J:=J) call k (.cond c x y) T H
  simp only [erC] at this ⊢
  simp only [icodeS,this]
 | .block i c,_,T,H,u=>by
  have:=icode_er (J:=J) call k (.block i c) T H
  simp only [erC] at this ⊢
  simp only [icodeS,this]
 | .loop c,_,T,H,u=>by
  have:=icode_er (J:=J) call k (.loop c) T H
  simp only [erC] at this ⊢
  simp only [icodeS,this]
 | .scope c,_,T,H,u=>by
  have:=icode_er (J:=J) call k (.scope c) T H
  simp only [erC] at this ⊢
  simp only [icodeS,this]
 | .skip,_,_,_,_=>rfl
 | .ret,_,_,_,_=>rfl
 | .exit _,_,_,_,_=>rfl
 | .label _,_,_,_,_=>rfl
 | .rangeFunc _ _ _ _,_,_,_,_=>rfl
 | .goto _,_,_,_,_=>rfl
 | .refuse _,_,_,_,_=>rfl
end
end Go.Proofs.YtchlbfmjnhgpgaaGreat.Idl
namespace Go.Proofs.YtchlbfmjnhgpgaaGreat.Idl
open Go
set_option maxHeartbeats 8000000
set_option maxRecDepth 100000
set_option linter.unusedSimpArgs false
theorem body19:∃c,(Tryz.f19).body=some c∧strD c=true∧erC J c=C19:=⟨_,rfl,by kernel_rfl,by kernel_rfl⟩
theorem body35:∃c,(Tryz.f35).body=some c∧strS c=true∧erC J c=C35:=⟨_,rfl,by kernel_rfl,by kernel_rfl⟩
def minV:Value→Value→Option Value
 | .int k x,.int _ y=>some (.int k (if y<x then y else x))
 |_,_=>none
def maxV:Value→Value→Option Value
 | .int k x,.int _ y=>some (.int k (if x<y then y else x))
 |_,_=>none
theorem iop_min0 (T:Regs) (H:IH) (dst:Option Tmp) (type:TypeId) (pos:String) (after:Array Edge) (guard:Option (Nat×Bool)) (x y:Operand) (at_:Array TypeId) (k k':IntKind) (a b:Int) (hx:iev T x=.int k a) (hy:iev T y=.int k' b):
  iop J ⟨dst,.call ⟨.builtin .min,#[x,y],at_⟩,type,pos,after,guard⟩ T H=some (.val (.int k (if b<a then b else a)) H):=by
 show ipure J _ T H=_
 have e1:execOp (iev T) ⟨dst,.call ⟨.builtin .min,#[x,y],at_⟩,type,pos,after,guard⟩=(do pure (.value (←Builtin.min_ at_ type #[.int k a,.int k' b])):Sem Next):=by
  simp only [execOp,resolve]
  simp [hx,hy]
  rfl
 have e2:pureRun J.P (execOp (iev T) ⟨dst,.call ⟨.builtin .min,#[x,y],at_⟩,type,pos,after,guard⟩)=some (.value (.int k (if b<a then b else a))):=by
  rw [e1]
  rfl
 refine ipure_of (J:=J) (T:=T) (H:=H) ?_ e2 rfl
 simp [Op.operands,Call.operands,hx,hy,flat,flatN]
@[simp] theorem iop_min (T:Regs) (H:IH) (dst:Option Tmp) (type:TypeId) (pos:String) (after:Array Edge) (guard:Option (Nat×Bool)) (x y:Operand) (at_:Array TypeId):
  iop J ⟨dst,.call ⟨.builtin .min,#[x,y],at_⟩,type,pos,after,guard⟩ T H=lenQ (minV (iev T x) (iev T y)) H (iopP J ⟨dst,.call ⟨.builtin .min,#[x,y],at_⟩,type,pos,after,guard⟩ T H):=by
 cases hx:iev T x with
 |int k a=>
  cases hy:iev T y with
  |int k' b=>exact iop_min0 T H dst type pos after guard x y at_ k k' a b hx hy
  |_=>rfl
 |_=>rfl
theorem iop_max0 (T:Regs) (H:IH) (dst:Option Tmp) (type:TypeId) (pos:String) (after:Array Edge) (guard:Option (Nat×Bool)) (x y:Operand) (at_:Array TypeId) (k k':IntKind) (a b:Int) (hx:iev T x=.int k a) (hy:iev T y=.int k' b):
  iop J ⟨dst,.call ⟨.builtin .max,#[x,y],at_⟩,type,pos,after,guard⟩ T H=some (.val (.int k (if a<b then b else a)) H):=by
 show ipure J _ T H=_
 have e1:execOp (iev T) ⟨dst,.call ⟨.builtin .max,#[x,y],at_⟩,type,pos,after,guard⟩=(do pure (.value (←Builtin.max_ at_ type #[.int k a,.int k' b])):Sem Next):=by
  simp only [execOp,resolve]
  simp [hx,hy]
  rfl
 have e2:pureRun J.P (execOp (iev T) ⟨dst,.call ⟨.builtin .max,#[x,y],at_⟩,type,pos,after,guard⟩)=some (.value (.int k (if a<b then b else a))):=by
  rw [e1]
  rfl
 refine ipure_of (J:=J) (T:=T) (H:=H) ?_ e2 rfl
 simp [Op.operands,Call.operands,hx,hy,flat,flatN]
@[simp] theorem iop_max (T:Regs) (H:IH) (dst:Option Tmp) (type:TypeId) (pos:String) (after:Array Edge) (guard:Option (Nat×Bool)) (x y:Operand) (at_:Array TypeId):
  iop J ⟨dst,.call ⟨.builtin .max,#[x,y],at_⟩,type,pos,after,guard⟩ T H=lenQ (maxV (iev T x) (iev T y)) H (iopP J ⟨dst,.call ⟨.builtin .max,#[x,y],at_⟩,type,pos,after,guard⟩ T H):=by
 cases hx:iev T x with
 |int k a=>
  cases hy:iev T y with
  |int k' b=>exact iop_max0 T H dst type pos after guard x y at_ k k' a b hx hy
  |_=>rfl
 |_=>rfl
theorem LAt.up {α:Type} {lo lo' k:Nat} {P P':Nat→Nat→α→Prop} {v:Value} {l:List α} (h:LAt lo k P v l) (hl:lo≤lo') (hp:∀b o x,b<lo→P b o x→P' b o x):LAt lo' k P' v l:=by
 obtain ⟨a,c,h1,h2⟩:=h
 refine ⟨a,c,h1,fun hl'=>?_⟩
 obtain ⟨b,o,h3,h4,h5⟩:=h2 hl'
 exact ⟨b,o,h3,by omega,fun i hi=>hp _ _ _ h4 (h5 i hi)⟩
section
variable {H:IH} {lo lo':Nat}
theorem IntsAt.up {v:Value} {l:List Int} (h:IntsAt H lo v l) (hl:lo≤lo'):IntsAt H lo' v l:=LAt.up h hl fun _ _ _ _ hx=>hx
theorem InsAt.up {b o:Nat} {x:Ins} (h:InsAt H lo b o x) (hl:lo≤lo'):InsAt H lo' b o x:=by
 obtain ⟨cs,pr,vl,vm,vv,h1,h2,h3,h4,h5,h6,h7,h8,h9,h10,h11,h12,h13⟩:=h.ex
 exact ⟨cs,pr,vl,vm,vv,h1,h2,h3,h4,h5,h6,h7,h8,h9,h10,IntsAt.up h11 hl,IntsAt.up h12 hl,IntsAt.up h13 hl⟩
theorem BlAt.up {b o:Nat} {x:Bl} (h:BlAt H lo b o x) (hl:lo≤lo'):BlAt H lo' b o x:=by
 obtain ⟨cs,pr,vi,vc,h1,h2,h3,h4,h5⟩:=h.ex
 exact ⟨cs,pr,vi,vc,h1,h2,h3,IntsAt.up h4 hl,h5.up hl fun _ _ _ _ hx=>InsAt.up hx hl⟩
theorem FnAt.up {b o:Nat} {x:Fn} (h:FnAt H lo b o x) (hl:lo≤lo'):FnAt H lo' b o x:=by
 obtain ⟨cs,pr,vp,vb,h1,h2,h3,h4,h5,h6,h7⟩:=h.ex
 exact ⟨cs,pr,vp,vb,h1,h2,h3,h4,h5,IntsAt.up h6 hl,h7.up hl fun _ _ _ _ hx=>BlAt.up hx hl⟩
theorem ImvAt.up {u:ImV} {im:Img} (h:ImvAt H lo u im) (hl:lo≤lo'):ImvAt H lo' u im:=by
 refine ⟨h.types.up hl fun _ _ _ _ hx=>?_,h.shapes.up hl fun _ _ _ _ hx=>?_,h.strings.up hl fun _ _ _ _ hx=>hx,h.names.up hl fun _ _ _ _ hx=>hx,h.funcs.up hl fun _ _ _ _ hx=>FnAt.up hx hl⟩
 ·obtain ⟨cs,pr,vf,h1,h2,h3,h4⟩:=hx.ex
  exact ⟨cs,pr,vf,h1,h2,h3,IntsAt.up h4 hl⟩
 ·obtain ⟨cs,pr,vf,h1,h2,h3,h4,h5⟩:=hx.ex
  exact ⟨cs,pr,vf,h1,h2,h3,h4,IntsAt.up h5 hl⟩
end
theorem bl_machine (a b c:Option Addr) (n n' m m':Nat) (f h s:Int):ibuild J 84 [(0,.pointer a),(1,.agg #[.slice b n n',.int .i64 f,.int .i64 h,.int .i64 s,.slice c m m'])]=some (.agg #[.pointer a,.slice b n n',.int .i64 f,.int .i64 h,.int .i64 s,.slice c m m',.pointer none,.slice none 0 0,.int .i64 0,.int .i64 0,.int .i64 0,.int .i64 0,.slice none 0 0,.string ⟨#[]⟩,.int .i64 0,.int .i64 0]):=by kernel_rfl
def clampN (n:Int) (most:Nat):Nat:=(if (0:Int)<(if (most:Int)<n then (most:Int) else n) then (if (most:Int)<n then (most:Int) else n) else 0).toNat
theorem clamp_min (n:Int) (most:Nat):minV (.int .i64 n) (.int .i64 (most:Int))=some (.int .i64 (if (most:Int)<n then (most:Int) else n)):=rfl
theorem clamp_max (n:Int) (most:Nat):maxV (.int .i64 0) (.int .i64 (if (most:Int)<n then (most:Int) else n))=some (.int .i64 (clampN n most:Int)):=by
 unfold clampN
 simp only [maxV]
 congr 2
 split<;>omega
theorem clampN_le (n:Int) (most:Nat):clampN n most≤most:=by
 unfold clampN
 by_cases h:(most:Int)<n
 ·simp only [if_pos h];split<;>omega
 ·simp only [if_neg h];split<;>omega
theorem iexec_os (call:CallR) (o:Oper) (T:Regs) (H:IH):iexec J call o T H=orStep call (iop J o T H):=rfl
@[simp] theorem iop_typeAssert (J:Env) (T:Regs) (H:IH) (dst:Option Tmp) (type:TypeId) (pos:String) (after:Array Edge) (guard:Option (Nat×Bool)) (x:Operand) (xt t:TypeId) (ok:Bool):iop J ⟨dst,.typeAssert x xt t ok,type,pos,after,guard⟩ T H=OR.ofVal H (itypeAssert J (iev T x) t ok):=rfl
theorem ta_over (k:Int):itypeAssert J (.iface 86 (.agg #[.int .i64 k])) 86 true=some (.tuple #[.agg #[.int .i64 k],.bool true]):=by
 obtain ⟨fs,h⟩:=und_over
 simp only [itypeAssert,h,if_true]
def runOut (R:Rest) (im:Img) (s:Scr):Option (Int×Mst):=
 if beginOk im=false then some (6,im.start s) else
 match vCall im im.main [] (im.start s) with
 |some (.error k,σ)=>some (k,σ)
 |some (.ok _,σ)=>match vRunN R im (s.fuel+1) σ with
  |some (.error k,σ')=>some (k,σ')
  |_=>none
 |none=>none
def outV (k:Int) (ov:Value) (σ:Mst):Value:=.agg #[.int .i64 k,ov,.string σ.exn,.int .i64 (σ.steps:Int),.int .i64 (σ.swept:Int)]
section
variable {H:IH} {lo:Nat} {im:Img}
theorem d35 (vc oc mb:Nat) (kd:Int) (c0:List Value) (oa:Option Addr) (on oc':Nat) (ex:ByteArray) (st sw:Int) (h1:H.get vc=some (.cells [.pointer (some ⟨mb,0,none⟩)] 79 false)) (hc0:c0.length=11)
  (h2:H.get mb=some (.cells (c0++[.int .i64 0,.slice oa on oc',.string ex,.int .i64 st,.int .i64 sw]) 84 false)) {x0 x1 x2 x3 x4:Value} (h3:H.get oc=some (.cells [x0,x1,x2,x3,x4] 44 false)) (hlt:vc<H.next∧oc<H.next∧mb<H.next) (_hmo:mb≠oc) (_hvo:vc≠oc):
  ∃k0,∀k,k0≤k→∃H',icallD J okAll (icall J okAll k) k 35 [.pointer (some ⟨vc,0,none⟩),.pointer (some ⟨oc,0,none⟩)] (.pan (overV kd)) H=some (H',.reco (overV kd))∧Fr H.next (H.set oc (.cells [.int .i64 kd,.slice oa on oc',.string ex,.int .i64 st,.int .i64 sw] 44 false)) H':=by
 obtain ⟨c,hb,hs,he⟩:=body35
 obtain ⟨B,hB⟩:∃B,C35=.seq (.region 0 #[o 4 (.call ⟨.builtin .recover,#[],#[]⟩) 20] false) B:=⟨_,rfl⟩
 obtain ⟨T',H',hr,hF⟩:∃T' H',run J okAll B ((regsOf [.pointer (some ⟨vc,0,none⟩),.pointer (some ⟨oc,0,none⟩)] 0 .leaf).set 4 (overV kd)) H=some (.normal,T',H')∧Fr H.next (H.set oc (.cells [.int .i64 kd,.slice oa on oc',.string ex,.int .i64 st,.int .i64 sw] 44 false)) H':=by
  simp only [C35,Code.seq.injEq,true_and] at hB
  subst hB
  have hco:cellsOf (some (.cells (c0++[.int .i64 0,.slice oa on oc',.string ex,.int .i64 st,.int .i64 sw]) 84 false)) 11 5=some [.int .i64 0,.slice oa on oc',.string ex,.int .i64 st,.int .i64 sw]:=by
   rw [cellsOf_cells,if_pos (by simp [hc0])]
   rw [List.drop_append_of_le_length (by omega),List.drop_of_length_le (by omega)]
   rfl
  have n1:oc≠H.next:=by omega
  have n2:mb≠H.next:=by omega
  have n3:vc≠H.next:=by omega
  simp [regsOf,overV,ta_over,inew,Value.cells,istore,plain1,overlay,IH.get_push,IH.get_set,n1,n2,n3,h1,h2,h3,hco,loadT_agg,_hmo,_hvo,Ne.symm n1]
  refine ⟨_,_,⟨rfl,rfl⟩,by simp,fun z hz=>?_⟩
  have nz:z≠H.next:=by omega
  by_cases hzo:z=oc
  ·rw [hzo,IH.get_set,if_pos rfl,IH.get_set,if_pos rfl]
  ·rw [IH.get_set,if_neg hzo,IH.get_set,if_neg nz,IH.get_push_other _ _ _ hz,IH.get_set,if_neg hzo]
 obtain ⟨k0,hk⟩:=of_run hr
 refine ⟨k0,fun k hk0=>⟨H',?_,hF⟩⟩
 have hrun:=hk k k hk0 hk0
 have hcode:icodeS J (icall J okAll k) k c (regsOf [.pointer (some ⟨vc,0,none⟩),.pointer (some ⟨oc,0,none⟩)] 0 .leaf) H (.pan (overV kd))=some (.normal,T',H',.reco (overV kd)):=by
  rw [←icodeS_er _ _ c hs,he,hB]
  have e1:wantedR #[o 4 (.call ⟨.builtin .recover,#[],#[]⟩) 20] (regsOf [.pointer (some ⟨vc,0,none⟩),.pointer (some ⟨oc,0,none⟩)] 0 .leaf) (o 4 (.call ⟨.builtin .recover,#[],#[]⟩) 20)=true:=rfl
  have e2:isRecover (o 4 (.call ⟨.builtin .recover,#[],#[]⟩) 20)=true:=rfl
  have hB2:=hB
  simp only [C35,Code.seq.injEq,true_and] at hB2
  subst hB2
  simp only [icodeS,iopsS,List.toList_toArray]
  rw [if_pos e1,if_pos e2]
  simp only [put_some,hrun]
 have hfn:J.fn 35=some Tryz.f35:=id rfl
 have hlen:[Value.pointer (some ⟨vc,0,none⟩),Value.pointer (some ⟨oc,0,none⟩)].length≤(Tryz.f35).ntmps:=show 2≤(Tryz.f35).ntmps from by decide
 have hres:iresults J Tryz.f35 T' H'=some (.tuple #[]):=rfl
 unfold icallD
 have hok:okAll 35=true:=rfl
 rw [if_pos hok,hfn]
 simp only [hb]
 rw [if_pos hlen,hcode]
 simp only [hres,Option.map_some]
end
def scrV (iv:Option Addr×Nat×Nat) (f h s:Int) (cv:Option Addr×Nat×Nat):Value:=.agg #[slV iv,.int .i64 f,.int .i64 h,.int .i64 s,slV cv]
section
variable {H:IH} {lo:Nat} {im:Img}
theorem d19 {u:ImV} {iv cv:Option Addr×Nat×Nat} {f h st:Int} {s:Scr} {ta sa ga na fa:Option Addr} {tn sn gn nn fn tc sc gc nc fc:Nat} (hu:u=⟨.slice ta tn tc,.slice sa sn sc,.slice ga gn gc,.slice na nn nc,.slice fa fn fc⟩) (h1:s.fuel=clampN f 16777216) (h2:s.heap=clampN h 65536) (h3:s.stack=clampN st 65536):
  ∃M,Fr H.next H M∧M.next=H.next+5∧M.get H.next=some (.cells (ImV.cells u im) 27 false)∧M.get (H.next+1+1)=some (.cells [.int .i64 0,.slice none 0 0,.string ⟨#[]⟩,.int .i64 0,.int .i64 0] 44 false)∧M.get (H.next+1+1+1)=some (.cells (cells0 H.next (slV iv) (slV cv) s) 84 false)∧M.get (H.next+1+1+1+1)=some (.cells [ptrV (H.next+1+1+1)] 79 false)∧
   (∀(call:CallR) (k:Nat) (v:Value) (H1:IH),call 36 #[ptrV (H.next+1+1+1)] M=some (.pan v,H1)→∃T',icodeD J call k [4] C19 (regsOf [u.val im,scrV iv f h st cv] 0 .leaf) H []=some (.pan v,T',H1,[(35,[ptrV (H.next+1+1+1+1),ptrV (H.next+1+1)])])∧T'.at 4=ptrV (H.next+1+1))∧
   (∀(call:CallR) (k:Nat) (v:Value) (M1 H1:IH) (w:Value),call 36 #[ptrV (H.next+1+1+1)] M=some (.ret w,M1)→M1.get (H.next+1+1+1+1)=some (.cells [ptrV (H.next+1+1+1)] 79 false)→call 37 #[ptrV (H.next+1+1+1)] M1=some (.pan v,H1)→∃T',icodeD J call k [4] C19 (regsOf [u.val im,scrV iv f h st cv] 0 .leaf) H []=some (.pan v,T',H1,[(35,[ptrV (H.next+1+1+1+1),ptrV (H.next+1+1)])])∧T'.at 4=ptrV (H.next+1+1)):=by
 subst hu
 obtain ⟨ia,inn,ic⟩:=iv
 obtain ⟨ca,cn,cc⟩:=cv
 have e1:=clamp_min f 16777216
 have e1':=clamp_max f 16777216
 have e2:=clamp_min h 65536
 have e2':=clamp_max h 65536
 have e3:=clamp_min st 65536
 have e3':=clamp_max st 65536
 rw [←h1] at e1'
 rw [←h2] at e2'
 rw [←h3] at e3'
 simp only [Int.cast_ofNat_Int] at e1 e1' e2 e2' e3 e3'
 generalize (if (16777216:Int)<f then (16777216:Int) else f)=f0 at*
 generalize (if (65536:Int)<h then (65536:Int) else h)=h0 at*
 generalize (if (65536:Int)<st then (65536:Int) else st)=st0 at*
 obtain ⟨M,hM⟩:∃M,M=(((((((H.push (.cells [.slice ta tn tc,.slice sa sn sc,.slice ga gn gc,.slice na nn nc,.slice fa fn fc,.int .i64 im.main,.int .i64 im.exn] 27 false)).push (.cells [.slice ia inn ic,.int .i64 f,.int .i64 h,.int .i64 st,.slice ca cn cc] 37 false)).push (.cells [.int .i64 0,.slice none 0 0,.string ⟨#[]⟩,.int .i64 0,.int .i64 0] 44 false)).set (H.next+1) (.cells [.slice ia inn ic,.int .i64 (s.fuel:Int),.int .i64 (s.heap:Int),.int .i64 (s.stack:Int),.slice ca cn cc] 37 false)).push (.cells (cells0 H.next (.slice ia inn ic) (.slice ca cn cc) s) 84 false)).push (.cells [.pointer none] 79 false)).set (H.next+1+1+1+1) (.cells [ptrV (H.next+1+1+1)] 79 false)):=⟨_,rfl⟩
 have q1:¬H.next=H.next+1+1:=by omega
 have q2:¬H.next=H.next+1+1+1:=by omega
 have q3:¬H.next=H.next+1+1+1+1:=by omega
 have q4:¬H.next+1=H.next+1+1+1:=by omega
 have q5:¬H.next+1=H.next+1+1+1+1:=by omega
 have q6:¬H.next+1+1=H.next+1+1+1+1:=by omega
 refine ⟨M,?_,?_,?_,?_,?_,?_,?_,?_⟩
 ·rw [hM]
  repeat' first|exact Fr.refl _ _|apply Fr.push|apply Fr.set
  all_goals first|omega|(simp<;>omega)
 ·rw [hM];simp
 ·rw [hM];simp [IH.get_push,IH.get_set,ImV.cells,q1,q2,q3]
 ·rw [hM];simp [IH.get_push,IH.get_set,q4,q5,q6]
 ·rw [hM];simp [IH.get_push,IH.get_set,slV]
 ·rw [hM];simp [IH.get_push,IH.get_set]
 ·intro call k v H1 hc
  have gv:M.get (H.next+1+1+1+1)=some (.cells [.pointer (some ⟨H.next+1+1+1,0,none⟩)] 79 false):=by rw [hM];simp [IH.get_push,IH.get_set,ptrV]
  simp only [ptrV,cells0] at hc hM
  simp [C19,regsOf,ImV.val,ImV.cells,scrV,slV,icodeD,iopsD,iexec_os,isDefer,deferR,o,oz,inew,Value.cells,IH.get_push,IH.get_set,istore,plain1,overlay,e1,e1',e2,e2',e3,e3',loadT_agg,iparts,bl_machine,q1,q2,q3,q4,q5,q6,←hM,gv,hc]
  exact ⟨_,⟨rfl,rfl,rfl⟩,by simp [ptrV]⟩
 ·intro call k v M1 H1 w hc gw hc2
  have gv:M.get (H.next+1+1+1+1)=some (.cells [.pointer (some ⟨H.next+1+1+1,0,none⟩)] 79 false):=by rw [hM];simp [IH.get_push,IH.get_set,ptrV]
  simp only [ptrV,cells0] at hc hM gw hc2
  simp [C19,regsOf,ImV.val,ImV.cells,scrV,slV,icodeD,iopsD,iexec_os,isDefer,deferR,o,oz,inew,Value.cells,IH.get_push,IH.get_set,istore,plain1,overlay,e1,e1',e2,e2',e3,e3',loadT_agg,iparts,bl_machine,q1,q2,q3,q4,q5,q6,←hM,gv,hc,gw,hc2]
  exact ⟨_,⟨rfl,rfl,rfl⟩,by simp [ptrV]⟩
end
section
variable {H:IH} {lo:Nat} {im:Img}
theorem fin19 {args:Array Value} (hsz:args.size=2) {H5:IH} {vc oc mb:Nat} {kd:Int} {c0:List Value} {oa:Option Addr} {on oc':Nat} {ex:ByteArray} {st sw:Int} {k1:Nat}
  (hk:∀k,k1≤k→∃T',icodeD J (icall J okAll k) k [4] C19 (regsOf args.toList 0 .leaf) H []=some (.pan (overV kd),T',H5,[(35,[ptrV vc,ptrV oc])])∧T'.at 4=ptrV oc)
  (h1:H5.get vc=some (.cells [ptrV mb] 79 false)) (hc0:c0.length=11)
  (h2:H5.get mb=some (.cells (c0++[.int .i64 0,.slice oa on oc',.string ex,.int .i64 st,.int .i64 sw]) 84 false)) {x0 x1 x2 x3 x4:Value} (h3:H5.get oc=some (.cells [x0,x1,x2,x3,x4] 44 false)) (hlt:vc<H5.next∧oc<H5.next∧mb<H5.next) (hmo:mb≠oc) (hvo:vc≠oc):
  ∃H',cal J okAll 19 args H=some (.ret (.agg #[.int .i64 kd,.slice oa on oc',.string ex,.int .i64 st,.int .i64 sw]),H')∧Fr H5.next (H5.set oc (.cells [.int .i64 kd,.slice oa on oc',.string ex,.int .i64 st,.int .i64 sw] 44 false)) H':=by
 obtain ⟨k0,hd⟩:=d35 vc oc mb kd c0 oa on oc' ex st sw h1 hc0 h2 h3 hlt hmo hvo
 obtain ⟨c,hb,hs,he⟩:=body19
 have hfn:J.fn 19=some Tryz.f19:=id rfl
 obtain ⟨H',e1,f1⟩:=hd (max k0 k1) (Nat.le_max_left _ _)
 obtain ⟨T',e2,e3⟩:=hk (max k0 k1) (Nat.le_max_right _ _)
 refine ⟨H',?_,f1⟩
 apply cal_of (k:=max k0 k1+1)
 rw [icall_dfr J (max k0 k1) H okAll 19 args Tryz.f19 c rfl hfn hb (by rw [hsz];decide) rfl rfl]
 unfold icallF
 have hcr:cellRegs (Tryz.f19).results.toList= [4]:=rfl
 rw [hcr,←icodeD_er _ _ _ c hs,he,e2]
 simp only [idefers,ptrV] at e1 ⊢
 rw [e1]
 simp only [RS.settle,iend]
 have hall:allCells (Tryz.f19).results.toList=true:=rfl
 rw [hall]
 have hg:=f1.2 oc hlt.2.1
 rw [IH.get_set,if_pos rfl] at hg
 have hir:iresults J Tryz.f19 T' H'=fin J [.cell 4 44] T' H':=rfl
 simp only [if_true,hir]
 simp only [ptrV] at e3
 simp [fin,iresult1,e3,hg,loadT_agg]
end
section
variable {H:IH} {lo:Nat} {im:Img}
theorem c_Run {R:Rest} (hR:∀lo,RestOk lo im R) {u:ImV} (hv:ImvAt H lo u im) (hlo:lo≤H.next) (hsm:ImSm im) {iv cv:Option Addr×Nat×Nat} {f h st:Int} {s:Scr} (hin:LAt lo 1 (CellAt H 5 byteV) (slV iv) s.input) (hcl:LAt lo 1 (CellAt H 4 Value.bool) (slV cv) s.collect)
  (hib:s.input.length≤4611686018427387904∧∀c∈s.input,c<256) (s1:s.fuel=clampN f 16777216) (s2:s.heap=clampN h 65536) (s3:s.stack=clampN st 65536) {k:Int} {σ:Mst} (hr:runOut R im s=some (k,σ)):
  ∃H' ov,cal J okAll 19 #[u.val im,scrV iv f h st cv] H=some (.ret (outV k ov σ),H')∧Fr H.next H H'∧OvAt H' ov σ.out∧(∀x∈bOf ov,H.next≤x∧x<H'.next):=by
 have hs:ScrOk s:=⟨by rw [s1];exact clampN_le _ _,by rw [s2];exact clampN_le _ _,by rw [s3];exact clampN_le _ _,hib⟩
 obtain ⟨vt,vs,vst,vn,vf⟩:=id u
 obtain ⟨ta,tc,et,_⟩:=id hv.types
 obtain ⟨sa,sc,es,_⟩:=id hv.shapes
 obtain ⟨ga,gc,eg,_⟩:=id hv.strings
 obtain ⟨na,nc,en,_⟩:=id hv.names
 obtain ⟨fa,fc,ef,_⟩:=id hv.funcs
 have hu:u=⟨.slice ta im.types.length tc,.slice sa im.shapes.length sc,.slice ga im.strings.length gc,.slice na im.names.length nc,.slice fa im.funcs.length fc⟩:=by
  cases u
  simp only at et es eg en ef
  simp only [et,es,eg,en,ef]
 obtain ⟨M,fM,nM,gi,go,gm,gv,d1,d2⟩:=d19 (H:=H) (im:=im) (iv:=iv) (cv:=cv) (f:=f) (h:=h) (st:=st) (s:=s) hu s1 s2 s3
 have sM:SameB lo H M:=fun z hz=>fM.2 z (by omega)
 have hvM:=(hv.same sM).up (lo':=H.next+1+1+1) (by omega)
 have hiM:ImgAt M (H.next+1+1+1) H.next im:=⟨by omega,u,false,gi,hvM⟩
 have hinM:LAt (H.next+1+1+1) 1 (CellAt M 5 byteV) (slV iv) s.input:=hin.up (by omega) fun _ _ _ hb hx=>CellAt.same hx sM hb
 have hclM:LAt (H.next+1+1+1) 1 (CellAt M 4 Value.bool) (slV cv) s.collect:=hcl.up (by omega) fun _ _ _ hb hx=>CellAt.same hx sM hb
 obtain ⟨b1,b2⟩:=m_begin hiM hinM hclM hs hsm (by omega) (p:=H.next+1+1+1) (by omega) gm
 have done:∀(H5:IH) (A5:VA) (σ5:Mst) (kd:Int) (k1:Nat),A5.p=H.next+1+1+1→VmAt H5 (H.next+1+1+1) im A5 σ5→M.next≤H5.next→(∀x,x<M.next→x≠H.next+1+1+1→H5.get x=M.get x)→(∀x∈A5.own,x=H.next+1+1+1∨M.next≤x)→
   (∀k,k1≤k→∃T',icodeD J (icall J okAll k) k [4] C19 (regsOf [u.val im,scrV iv f h st cv] 0 .leaf) H []=some (.pan (overV kd),T',H5,[(35,[ptrV (H.next+1+1+1+1),ptrV (H.next+1+1)])])∧T'.at 4=ptrV (H.next+1+1))→
   ∃H' ov,cal J okAll 19 #[u.val im,scrV iv f h st cv] H=some (.ret (outV kd ov σ5),H')∧Fr H.next H H'∧OvAt H' ov σ5.out∧(∀x∈bOf ov,H.next≤x∧x<H'.next):=by
  intro H5 A5 σ5 kd k1 hp h5 hn hx hown hk
  have ho:=h5.obj
  rw [hp] at ho
  obtain ⟨oa,on,oc,hov⟩:∃oa on oc,A5.ov=.slice oa on oc:=by
   rcases h5.ov with ⟨e,_⟩|⟨b,e,_⟩
   ·exact ⟨_,_,_,e⟩
   ·exact ⟨_,_,_,e⟩
  have ho2:H5.get (H.next+1+1+1)=some (.cells ([ptrV A5.mp,A5.iv,.int .i64 σ5.fuel,.int .i64 σ5.heap,.int .i64 σ5.stack,A5.cv,ptrV A5.hp.p,A5.fv,.int .i64 σ5.words,.int .i64 (σ5.inn:Int),.int .i64 (σ5.made:Int)]++[.int .i64 0,.slice oa on oc,.string σ5.exn,.int .i64 (σ5.steps:Int),.int .i64 (σ5.swept:Int)]) 84 false):=by
   rw [ho];simp [VA.cells,hov]
  obtain ⟨H',c1,f1⟩:=fin19 (args:=#[u.val im,scrV iv f h st cv]) rfl hk ((hx _ (by omega) (by omega)).trans gv) rfl ho2 ((hx _ (by omega) (by omega)).trans go) (by omega) (by omega) (by omega)
  have hbo:∀x∈bOf A5.ov,M.next≤x∧x<H5.next:=by
   intro x hm
   have h1:=h5.own x (by simp [VA.own,hm])
   rcases hown x (by simp [VA.own,hm]) with e|e
   ·exfalso
    have h2:=h5.nd
    rw [VA.own,List.nodup_cons] at h2
    exact h2.1 (by rw [hp,←e];simp [hm])
   ·exact ⟨e,h1.2⟩
  have hn':H5.next≤H'.next:=by have:=f1.1;simpa using this
  refine ⟨H',A5.ov,by rw [c1,hov];rfl,⟨by omega,fun x hx'=>?_⟩,h5.ov.same fun x hm=>?_,fun x hm=>?_⟩
  ·rw [f1.2 x (by omega),IH.get_set,if_neg (by omega),hx x (by omega) (by omega)];exact fM.2 x hx'
  ·have:=hbo x hm
   rw [f1.2 x (by omega),IH.get_set,if_neg (by omega)]
  ·have:=hbo x hm;omega
 unfold runOut at hr
 cases hb:beginOk im with
 |false=>
  rw [if_pos hb] at hr
  simp only [Option.some.injEq,Prod.mk.injEq] at hr
  obtain ⟨rfl,rfl⟩:=hr
  obtain ⟨H1,c1,f1⟩:=b1 hb
  obtain ⟨k1,hk1⟩:=of_cal c1
  have hgm:=(f1.2 (H.next+1+1+1) (by omega)).trans gm
  obtain ⟨H',c2,f2⟩:=fin19 (args:=#[u.val im,scrV iv f h st cv]) (k1:=k1) rfl (fun k hk=>d1 (icall J okAll k) k _ H1 (hk1 k hk)) ((f1.2 _ (by omega)).trans gv) (c0:=[ptrV H.next,slV iv,.int .i64 (s.fuel:Int),.int .i64 (s.heap:Int),.int .i64 (s.stack:Int),slV cv,.pointer none,.slice none 0 0,.int .i64 0,.int .i64 0,.int .i64 0]) rfl (by rw [hgm];rfl) ((f1.2 _ (by omega)).trans go) (by have:=f1.1;omega) (by omega) (by omega)
  have hn1:=f1.1
  have hn':H1.next≤H'.next:=by have:=f2.1;simpa using this
  refine ⟨H',.slice none 0 0,c2,⟨by omega,fun x hx'=>?_⟩,.inl ⟨rfl,rfl⟩,fun x hm=>by simp [bOf] at hm⟩
  rw [f2.2 x (by omega),IH.get_set,if_neg (by omega),f1.2 x (by omega)];exact fM.2 x hx'
 |true=>
  rw [if_neg (by simp [hb])] at hr
  cases hc:vCall im im.main [] (im.start s) with
  |none=>rw [hc] at hr;simp at hr
  |some rc=>
   obtain ⟨r1,σ1⟩:=rc
   rw [hc] at hr
   obtain ⟨H1,A1,e1,c1,p1,v1,n1,x1,rv1,o1⟩:=b2 hb r1 σ1 hc
   obtain ⟨k1,hk1⟩:=of_cal c1
   cases r1 with
   |error kd=>
    simp only [Option.some.injEq,Prod.mk.injEq] at hr
    obtain ⟨rfl,rfl⟩:=hr
    have rv1:e1=.pan (overV kd):=rv1
    subst rv1
    exact done H1 A1 σ1 kd k1 p1 v1 n1 x1 o1 fun k hk=>d1 (icall J okAll k) k _ H1 (hk1 k hk)
   |ok a=>
    obtain ⟨w,rfl,rfl⟩:=rv1
    simp only at hr
    cases hq:vRunN R im (s.fuel+1) σ1 with
    |none=>rw [hq] at hr;simp at hr
    |some rq=>
     obtain ⟨r2,σ2⟩:=rq
     rw [hq] at hr
     obtain ⟨H2,A2,kd,e2,c2,v2,n2⟩:=m_run (hR _) v1 hq
     subst e2
     simp only [Option.some.injEq,Prod.mk.injEq] at hr
     obtain ⟨rfl,rfl⟩:=hr
     rw [p1] at c2
     obtain ⟨k2,hk2⟩:=of_cal c2
     have hx2:∀x,x<M.next→x≠H.next+1+1+1→H2.get x=H1.get x:=fun x hx hne=>n2.fx.2 x (by omega) fun hm=>by
      rcases o1 x hm with e|e
      ·exact hne e
      ·omega
     refine done H2 A2 σ2 kd (max k1 k2) (n2.p.trans p1) v2 (by have:=n2.fx.1;omega) (fun x hx hne=>(hx2 x hx hne).trans (x1 x hx hne)) (fun x hm=>(n2.own x hm).elim (o1 x) fun h1=>.inr (by omega)) fun k hk=>?_
     exact d2 (icall J okAll k) k _ H1 H2 _ (hk1 k (by omega)) ((x1 _ (by omega) (by omega)).trans gv) (hk2 k (by omega))
end
def ins (op d a b c n:Int):Ins:=⟨op,d,a,b,c,n,[],[],[]⟩
def insC (x:Ins):List Value:=[.int .i64 x.op,.int .i64 x.d,.int .i64 x.a,.int .i64 x.b,.int .i64 x.c,.int .i64 x.n,.slice none 0 0,.slice none 0 0,.slice none 0 0]
def leastIm (code:List Ins):Img:=⟨[⟨true,[]⟩,⟨false,[0]⟩],[⟨3,[],⟨#[]⟩⟩],[],[],[⟨[],0,1,[⟨[-1],code⟩]⟩],0,0⟩
theorem nn2 (a:Nat):(a=a+1+1)=False:=by simp only [eq_iff_iff,iff_false];omega
theorem nn3 (a:Nat):(a=a+1+1+1)=False:=by simp only [eq_iff_iff,iff_false];omega
theorem nn4 (a:Nat):(a=a+1+1+1+1)=False:=by simp only [eq_iff_iff,iff_false];omega
theorem nn5 (a:Nat):(a=a+1+1+1+1+1)=False:=by simp only [eq_iff_iff,iff_false];omega
theorem nn6 (a:Nat):(a=a+1+1+1+1+1+1)=False:=by simp only [eq_iff_iff,iff_false];omega
theorem nn7 (a:Nat):(a=a+1+1+1+1+1+1+1)=False:=by simp only [eq_iff_iff,iff_false];omega
theorem nn8 (a:Nat):(a=a+1+1+1+1+1+1+1+1)=False:=by simp only [eq_iff_iff,iff_false];omega
theorem nn9 (a:Nat):(a=a+1+1+1+1+1+1+1+1+1)=False:=by simp only [eq_iff_iff,iff_false];omega
theorem nn10 (a:Nat):(a=a+1+1+1+1+1+1+1+1+1+1)=False:=by simp only [eq_iff_iff,iff_false];omega
theorem nn11 (a:Nat):(a=a+1+1+1+1+1+1+1+1+1+1+1)=False:=by simp only [eq_iff_iff,iff_false];omega
section
variable {H:IH} {lo:Nat}
theorem LAt.mk {α:Type} {k:Nat} {P:Nat→Nat→α→Prop} {l:List α} {b o c n:Nat} (hn:l.length=n) (hb:b<lo) (h:∀i (h:i<l.length),P b (o+i*k) l[i]):LAt lo k P (.slice (some ⟨b,o,none⟩) n c) l:=
 ⟨_,c,by rw [hn],fun _=>⟨b,o,rfl,hb,h⟩⟩
theorem LAt.nil {α:Type} {k:Nat} {P:Nat→Nat→α→Prop} {a:Option Addr} {c:Nat}:LAt lo k P (.slice a 0 c) []:=⟨a,c,rfl,fun h=>by simp at h⟩
theorem CellAt.one {α:Type} {e:TypeId} {V:α→Value} {b o:Nat} {x:α} {cs:List Value} {pr:Bool} (hg:H.get b=some (.cells cs e pr)) (hc:cs[o]?=some (V x)):CellAt H e V b o x:=⟨cs,pr,hg,hc⟩
theorem InsAt.plain {b o:Nat} {x:Ins} {cs:List Value} {pr:Bool} (hg:H.get b=some (.cells cs 30 pr)) (h:∀j,j<9→cs[o+j]?=(insC x)[j]?) (h1:x.l= []) (h2:x.m= []) (h3:x.live= []):InsAt H lo b o x:=
 ⟨cs,pr,_,_,_,hg,by simpa [insC] using h 0 (by omega),by simpa [insC] using h 1 (by omega),by simpa [insC] using h 2 (by omega),by simpa [insC] using h 3 (by omega),by simpa [insC] using h 4 (by omega),by simpa [insC] using h 5 (by omega),
  by simpa [insC] using h 6 (by omega),by simpa [insC] using h 7 (by omega),by simpa [insC] using h 8 (by omega),by rw [h1];exact LAt.nil,by rw [h2];exact LAt.nil,by rw [h3];exact LAt.nil⟩
theorem code_at {b c n:Nat} {l:List Ins} {pr:Bool} (hn:l.length=n) (hb:b<lo) (hg:H.get b=some (.cells (l.flatMap insC) 30 pr)) (hp:∀x∈l,x.l= []∧x.m= []∧x.live= []):LAt lo 9 (InsAt H lo) (.slice (some ⟨b,0,none⟩) n c) l:=by
 refine LAt.mk hn hb fun i hi=>?_
 have hx:=hp _ (List.getElem_mem hi)
 refine InsAt.plain hg (fun j hj=>?_) hx.1 hx.2.1 hx.2.2
 have key:∀(l:List Ins) (i:Nat) (hi:i<l.length),(l.flatMap insC)[i*9+j]?=(insC l[i])[j]?:=by
  intro l
  induction l with
  |nil=>intro i hi;simp at hi
  |cons y l ih=>
   intro i hi
   rw [List.flatMap_cons]
   cases i with
   |zero=>
    rw [List.getElem?_append_left (by simp [insC];omega)];simp
   |succ i=>
    rw [List.getElem?_append_right (by simp [insC];omega)]
    have:=ih i (by simpa using hi)
    simp only [List.getElem_cons_succ]
    rw [←this]
    congr 1
    simp [insC];omega
 rw [Nat.zero_add]
 exact key l i hi
theorem bt1 (b:Bool):ibuild J 88 [(0,.bool b)]=some (.agg #[.bool b,.slice none 0 0]):=by kernel_rfl
theorem bt2 (a:Option Addr) (n c:Nat):ibuild J 88 [(1,.slice a n c)]=some (.agg #[.bool false,.slice a n c]):=by kernel_rfl
theorem bsi1 (H:IH) (x:Int):ibuildSlice J 28 1 [(0,.int .i64 x)] H=some (.slice (some ⟨H.next,0,none⟩) 1 1,H.push (.cells [.int .i64 x] 3 false)):=by kernel_rfl
theorem bst2 (H:IH) (a b:Bool) (x y:Option Addr) (n c m d:Nat):ibuildSlice J 22 2 [(0,.agg #[.bool a,.slice x n c]),(1,.agg #[.bool b,.slice y m d])] H=some (.slice (some ⟨H.next,0,none⟩) 2 2,H.push (.cells [.bool a,.slice x n c,.bool b,.slice y m d] 88 false)):=by kernel_rfl
theorem bsh (k:Int):ibuild J 90 [(0,.int .i64 k)]=some (.agg #[.int .i64 k,.slice none 0 0,.string ⟨#[]⟩]):=by kernel_rfl
theorem bss1 (H:IH) (k:Int) (x:Option Addr) (n c:Nat) (s:ByteArray):ibuildSlice J 23 1 [(0,.agg #[.int .i64 k,.slice x n c,.string s])] H=some (.slice (some ⟨H.next,0,none⟩) 1 1,H.push (.cells [.int .i64 k,.slice x n c,.string s] 90 false)):=by kernel_rfl
theorem bi0 (op:Int):ibuild J 30 [(0,.int .i64 op)]=some (.agg (insC (ins op 0 0 0 0 0)).toArray):=by kernel_rfl
theorem bi05 (op n:Int):ibuild J 30 [(0,.int .i64 op),(5,.int .i64 n)]=some (.agg (insC (ins op 0 0 0 0 n)).toArray):=by kernel_rfl
theorem bsc2 (H:IH) (x y:Ins):ibuildSlice J 54 2 [(0,.agg (insC x).toArray),(1,.agg (insC y).toArray)] H=some (.slice (some ⟨H.next,0,none⟩) 2 2,H.push (.cells (insC x++insC y) 30 false)):=by kernel_rfl
theorem bbl (a b:Option Addr) (n c m d:Nat):ibuild J 56 [(0,.slice a n c),(1,.slice b m d)]=some (.agg #[.slice a n c,.slice b m d]):=by kernel_rfl
theorem bsb1 (H:IH) (a b:Option Addr) (n c m d:Nat):ibuildSlice J 57 1 [(0,.agg #[.slice a n c,.slice b m d])] H=some (.slice (some ⟨H.next,0,none⟩) 1 1,H.push (.cells [.slice a n c,.slice b m d] 56 false)):=by kernel_rfl
theorem bfn (s:Int) (b:Option Addr) (m d:Nat):ibuild J 59 [(2,.int .i64 s),(3,.slice b m d)]=some (.agg #[.slice none 0 0,.int .i64 0,.int .i64 s,.slice b m d]):=by kernel_rfl
theorem bsf1 (H:IH) (r s:Int) (a b:Option Addr) (n c m d:Nat):ibuildSlice J 25 1 [(0,.agg #[.slice a n c,.int .i64 r,.int .i64 s,.slice b m d])] H=some (.slice (some ⟨H.next,0,none⟩) 1 1,H.push (.cells [.slice a n c,.int .i64 r,.int .i64 s,.slice b m d] 59 false)):=by kernel_rfl
theorem bim (a b e:Option Addr) (n c m d f g:Nat):ibuild J 27 [(0,.slice a n c),(1,.slice b m d),(4,.slice e f g)]=some (.agg #[.slice a n c,.slice b m d,.slice none 0 0,.slice none 0 0,.slice e f g,.int .i64 0,.int .i64 0]):=by kernel_rfl
structure LeastAt (H:IH) (n:Nat) (ca:Option Addr) (cn cc:Nat):Prop where
 g1:H.get (n+1)=some (.cells [.int .i64 0] 3 false)
 g2:H.get (n+2)=some (.cells [.bool true,.slice none 0 0,.bool false,.slice (some ⟨n+1,0,none⟩) 1 1] 88 false)
 g3:H.get (n+3)=some (.cells [.int .i64 3,.slice none 0 0,.string ⟨#[]⟩] 90 false)
 g4:H.get (n+4)=some (.cells [.int .i64 (-1)] 3 false)
 g6:H.get (n+6)=some (.cells [.slice (some ⟨n+4,0,none⟩) 1 1,.slice ca cn cc] 56 false)
 g7:H.get (n+7)=some (.cells [.slice none 0 0,.int .i64 0,.int .i64 1,.slice (some ⟨n+6,0,none⟩) 1 1] 59 false)
def leastU (n:Nat):ImV:=⟨.slice (some ⟨n+2,0,none⟩) 2 2,.slice (some ⟨n+3,0,none⟩) 1 1,.slice none 0 0,.slice none 0 0,.slice (some ⟨n+7,0,none⟩) 1 1⟩
theorem c_Least:∃H',cal J okAll 22 #[] H=some (.ret ((leastU H.next).val (leastIm [])),H')∧Fr H.next H H'∧H'.next=H.next+8∧LeastAt H' H.next (some ⟨H.next+5,0,none⟩) 2 2:=by
 rw [cal22 _ _ (by simp)]
 simp [C22,regsOf,fin,iresult1,inew,Value.cells,IH.get_push,IH.get_set,istore,plain1,overlay,iparts,bt1,bt2,bsi1,bst2,bsh,bss1,bi0,bi05,bsc2,bbl,bsb1,bfn,bsf1,bim,loadT_agg,nn2,nn3,nn4,nn5,nn6,nn7,nn8,nn9,nn10,nn11]
 refine ⟨_,⟨rfl,rfl⟩,?_,by simp,⟨?_,?_,?_,?_,?_,?_⟩⟩
 ·repeat' first|exact Fr.refl _ _|apply Fr.push|apply Fr.set
  all_goals first|omega|(simp<;>omega)
 all_goals simp [IH.get_push,IH.get_set]
end
def outB (l:List Nat):ByteArray:=strOf (l.map fun (n:Nat)=>(n:Int))
def scr0 (f st:Nat):Scr:=⟨[],f,0,st,[]⟩
def livesIm:Img:=leastIm [ins 1 0 0 0 0 72,ins 16 0 0 0 0 0,ins 22 0 0 0 0 0]
def endIs (o:Option (Int×Mst)) (p:Int→Mst→Bool):Bool:=match o with
 |some (k,σ)=>p k σ
 |none=>false
theorem endIs_ok {o:Option (Int×Mst)} {p:Int→Mst→Bool} (h:endIs o p=true):∃k σ,o=some (k,σ)∧p k σ=true:=by
 unfold endIs at h
 split at h
 ·exact ⟨_,_,rfl,h⟩
 ·simp at h
theorem lives1:endIs (runOut .none livesIm (scr0 9 9)) (fun k σ=>decide (k=1)&&decide (σ.out= [72])&&decide (σ.steps=3))=true:=by kernel_rfl
theorem lives2:endIs (runOut .none livesIm (scr0 2 9)) (fun k σ=>decide (k=3)&&decide (σ.out= [72]))=true:=by kernel_rfl
theorem lives3:endIs (runOut .none livesIm (scr0 9 2)) (fun k σ=>decide (k=5)&&decide (σ.steps=0))=true:=by kernel_rfl
section
variable {H:IH} {lo:Nat}
theorem bt_out:BT J 34 5:=⟨by simp,by simp,by simp,by simp,by simp⟩
theorem conv_out {ov:Value} {l:List Nat} (h:OvAt H ov l) (hb:∀x∈bOf ov,x<H.next):iconvert J 34 9 ov H=some (.string (outB l),H):=by
 refine conv_bytes (lo:=0) bt_out ?_ (by simp)
 rcases h with ⟨rfl,rfl⟩|⟨b,rfl,h2⟩
 ·exact .inl ⟨rfl,rfl⟩
 ·refine .inr ⟨b,Nat.zero_le _,hb b (by simp [bOf]),by simp,?_⟩
  rw [h2,List.map_map];rfl
theorem least_imv {n:Nat} {ca:Option Addr} {cn cc:Nat} {code:List Ins} (h:LeastAt H n ca cn cc) (hc:LAt lo 9 (InsAt H lo) (.slice ca cn cc) code) (hlo:n+8≤lo):ImvAt H lo (leastU n) (leastIm code):=by
 refine ⟨LAt.mk rfl (by omega) fun i hi=>?_,LAt.mk rfl (by omega) fun i hi=>?_,LAt.nil,LAt.nil,LAt.mk rfl (by omega) fun i hi=>?_⟩
 ·match i,hi with
  |0,_=>exact ⟨_,_,_,h.g2,rfl,rfl,LAt.nil⟩
  |1,_=>exact ⟨_,_,_,h.g2,rfl,rfl,LAt.mk rfl (by omega) fun i hi=>by
    match i,hi with
    |0,_=>exact CellAt.one h.g1 rfl⟩
 ·match i,hi with
  |0,_=>exact ⟨_,_,_,h.g3,rfl,rfl,rfl,LAt.nil⟩
 ·match i,hi with
  |0,_=>exact ⟨_,_,_,_,h.g7,rfl,rfl,rfl,rfl,LAt.nil,LAt.mk rfl (by omega) fun i hi=>by
    match i,hi with
    |0,_=>exact ⟨_,_,_,_,h.g6,rfl,rfl,LAt.mk rfl (by omega) fun i hi=>by
      match i,hi with
      |0,_=>exact CellAt.one h.g4 rfl,hc⟩⟩
end
theorem bsc3 (H:IH) (x y z:Ins):ibuildSlice J 54 3 [(0,.agg (insC x).toArray),(1,.agg (insC y).toArray),(2,.agg (insC z).toArray)] H=some (.slice (some ⟨H.next,0,none⟩) 3 3,H.push (.cells (insC x++insC y++insC z) 30 false)):=by kernel_rfl
theorem bscr (f s:Int):ibuild J 37 [(1,.int .i64 f),(3,.int .i64 s)]=some (.agg #[.slice none 0 0,.int .i64 f,.int .i64 0,.int .i64 s,.slice none 0 0]):=by kernel_rfl
theorem least_sm (code:List Ins) (h:∀x∈code,-9223372036854775808≤x.n∧x.n≤9223372036854775807) (hl:code.length≤1000):ImSm (leastIm code):=by
 refine ⟨fun x hx y hy=>?_,fun x hx y hy z hz=>?_⟩
 ·simp only [leastIm,List.mem_singleton] at hx
  subst hx
  simp only [List.mem_singleton] at hy
  subst hy
  simp only;omega
 ·simp only [leastIm,List.mem_singleton] at hx
  subst hx
  simp only [List.mem_singleton] at hy
  subst hy
  exact h z hz
section
variable {H:IH} {lo:Nat}
theorem run_least {n:Nat} {ca:Option Addr} {cn cc:Nat} {code:List Ins} (h:LeastAt H n ca cn cc) (hc:LAt H.next 9 (InsAt H H.next) (.slice ca cn cc) code) (hlo:n+8≤H.next) (hs:ImSm (leastIm code)) {f st:Nat} (hf:f≤1000000) (hst:st≤60000) {p:Int→Mst→Bool} (hp:endIs (runOut .none (leastIm code) (scr0 f st)) p=true):
  ∃k σ H' oa on oc,p k σ=true∧cal J okAll 19 #[(leastU n).val (leastIm code),.agg #[.slice none 0 0,.int .i64 f,.int .i64 0,.int .i64 st,.slice none 0 0]] H=some (.ret (.agg #[.int .i64 k,.slice oa on oc,.string σ.exn,.int .i64 (σ.steps:Int),.int .i64 (σ.swept:Int)]),H')∧Fr H.next H H'∧OvAt H' (.slice oa on oc) σ.out∧(∀x∈bOf (.slice oa on oc),H.next≤x∧x<H'.next):=by
 obtain ⟨k,σ,hr,hk⟩:=endIs_ok hp
 have e1:(scr0 f st).fuel=clampN f 16777216:=by simp [scr0,clampN];omega
 have e2:(scr0 f st).heap=clampN 0 65536:=by simp [scr0,clampN]
 have e3:(scr0 f st).stack=clampN st 65536:=by simp [scr0,clampN];omega
 obtain ⟨H',ov,c1,f1,o1,b1⟩:=c_Run (R:=.none) (fun lo=>Rest.none_ok lo _) (least_imv h hc hlo) (Nat.le_refl _) hs (iv:=(none,0,0)) (cv:=(none,0,0)) (f:=f) (h:=0) (st:=st) (s:=scr0 f st) LAt.nil LAt.nil ⟨by simp [scr0],by simp [scr0]⟩ e1 e2 e3 hr
 obtain ⟨oa,on,oc,rfl⟩:∃oa on oc,ov=.slice oa on oc:=by
  rcases o1 with ⟨e,_⟩|⟨b,e,_⟩
  ·exact ⟨_,_,_,e⟩
  ·exact ⟨_,_,_,e⟩
 exact ⟨k,σ,H',oa,on,oc,hk,c1,f1,o1,b1⟩
theorem LeastAt.fr {n:Nat} {ca:Option Addr} {cn cc:Nat} (h:LeastAt H n ca cn cc) {H':IH} {m:Nat} (f:Fr m H H') (hn:n+8≤m):LeastAt H' n ca cn cc:=
 ⟨(f.2 _ (by omega)).trans h.g1,(f.2 _ (by omega)).trans h.g2,(f.2 _ (by omega)).trans h.g3,(f.2 _ (by omega)).trans h.g4,(f.2 _ (by omega)).trans h.g6,(f.2 _ (by omega)).trans h.g7⟩
theorem c_lives:∃H',cal J okAll 18 #[] H=some (.ret (.bool true),H')∧Fr H.next H H':=by
 rw [cal18 _ _ (by simp)]
 obtain ⟨H1,c1,f1,n1,l1⟩:=c_Least (H:=H)
 obtain ⟨n,hn⟩:∃n,n=H.next:=⟨_,rfl⟩
 rw [←hn] at c1 n1 l1
 obtain ⟨G1,hG1⟩:∃G1,G1=((((H1.push (.cells [.slice none 0 0,.slice none 0 0,.slice none 0 0,.slice none 0 0,.slice none 0 0,.int .i64 0,.int .i64 0] 27 false)).set (n+8) (.cells ((leastU n).cells (leastIm [])) 27 false)).push (.cells (insC (ins 1 0 0 0 0 72)++(insC (ins 16 0 0 0 0 0)++insC (ins 22 0 0 0 0 0))) 30 false)).set (n+6) (.cells [.slice (some ⟨n+4,0,none⟩) 1 1,.slice (some ⟨n+8+1,0,none⟩) 3 3] 56 false)):=⟨_,rfl⟩
 have nG1:G1.next=n+10:=by rw [hG1];simp [n1]
 have gm:G1.get (n+8)=some (.cells ((leastU n).cells (leastIm [])) 27 false):=by rw [hG1];simp [IH.get_push,IH.get_set,n1]
 have gc:G1.get (n+9)=some (.cells ([ins 1 0 0 0 0 72,ins 16 0 0 0 0 0,ins 22 0 0 0 0 0].flatMap insC) 30 false):=by rw [hG1];simp [IH.get_push,IH.get_set,n1]
 have lG1:LeastAt G1 n (some ⟨n+9,0,none⟩) 3 3:=by
  have o:∀x,x<n+8→x≠n+6→G1.get x=H1.get x:=fun x hx hne=>by
   rw [hG1,IH.get_set,if_neg hne,IH.get_push_other _ _ _ (by simp [n1];omega),IH.get_set,if_neg (by omega),IH.get_push_other _ _ _ (by omega)]
  exact ⟨(o _ (by omega) (by omega)).trans l1.g1,(o _ (by omega) (by omega)).trans l1.g2,(o _ (by omega) (by omega)).trans l1.g3,(o _ (by omega) (by omega)).trans l1.g4,by rw [hG1,IH.get_set,if_pos rfl],(o _ (by omega) (by omega)).trans l1.g7⟩
 have fG1:Fr n H G1:=⟨by omega,fun x hx=>by
  rw [hG1,IH.get_set,if_neg (by omega),IH.get_push_other _ _ _ (by simp [n1];omega),IH.get_set,if_neg (by omega),IH.get_push_other _ _ _ (by omega)]
  exact f1.2 x (by omega)⟩
 have hsm:ImSm livesIm:=least_sm _ (by simp [ins]) (by simp)
 have hcode:∀(G:IH),G.get (n+9)=some (.cells ([ins 1 0 0 0 0 72,ins 16 0 0 0 0 0,ins 22 0 0 0 0 0].flatMap insC) 30 false)→n+10≤G.next→LAt G.next 9 (InsAt G G.next) (.slice (some ⟨n+9,0,none⟩) 3 3) [ins 1 0 0 0 0 72,ins 16 0 0 0 0 0,ins 22 0 0 0 0 0]:=fun G hg hn=>code_at rfl (by omega) hg (by simp [ins])
 obtain ⟨k1,σ1,R1,oa,on,oc,p1,r1,fr1,ov1,b1⟩:=run_least lG1 (hcode G1 gc (by omega)) (by omega) hsm (by omega) (by omega) lives1
 obtain ⟨G2,hG2⟩:∃G2,G2=(R1.push (.cells [.int .i64 0,.slice none 0 0,.string ⟨#[]⟩,.int .i64 0,.int .i64 0] 44 false)).set R1.next (.cells [.int .i64 k1,.slice oa on oc,.string σ1.exn,.int .i64 (σ1.steps:Int),.int .i64 (σ1.swept:Int)] 44 false):=⟨_,rfl⟩
 have fr1n:=fr1.1
 have nG2:G2.next=R1.next+1:=by rw [hG2];simp
 have fG2:Fr R1.next R1 G2:=by rw [hG2];exact ((Fr.refl _ _).push (Nat.le_refl _) _).set (Nat.le_refl _) _
 have f12:Fr (n+10) G1 G2:=(fr1.of_le (by omega)).trans (fG2.of_le (by omega))
 have lG2:=lG1.fr f12 (by omega)
 obtain ⟨k2,σ2,R2,oa2,on2,oc2,p2,r2,fr2,ov2,b2⟩:=run_least lG2 (hcode G2 ((f12.2 _ (by omega)).trans gc) (by omega)) (by omega) hsm (by omega) (by omega) lives2
 have fr2n:=fr2.1
 obtain ⟨G3,hG3⟩:∃G3,G3=(R2.push (.cells [.int .i64 0,.slice none 0 0,.string ⟨#[]⟩,.int .i64 0,.int .i64 0] 44 false)).set R2.next (.cells [.int .i64 k2,.slice oa2 on2 oc2,.string σ2.exn,.int .i64 (σ2.steps:Int),.int .i64 (σ2.swept:Int)] 44 false):=⟨_,rfl⟩
 have nG3:G3.next=R2.next+1:=by rw [hG3];simp
 have fG3:Fr R2.next R2 G3:=by rw [hG3];exact ((Fr.refl _ _).push (Nat.le_refl _) _).set (Nat.le_refl _) _
 have f23:Fr G2.next G2 G3:=fr2.trans (fG3.of_le fr2n)
 have lG3:=lG2.fr f23 (by omega)
 have f13:Fr (n+10) G1 G3:=f12.trans (f23.of_le (by omega))
 obtain ⟨k3,σ3,R3,oa3,on3,oc3,p3,r3,fr3,ov3,b3⟩:=run_least lG3 (hcode G3 ((f13.2 _ (by omega)).trans gc) (by omega)) (by omega) hsm (by omega) (by omega) lives3
 have fr3n:=fr3.1
 obtain ⟨G4,hG4⟩:∃G4,G4=(R3.push (.cells [.int .i64 0,.slice none 0 0,.string ⟨#[]⟩,.int .i64 0,.int .i64 0] 44 false)).set R3.next (.cells [.int .i64 k3,.slice oa3 on3 oc3,.string σ3.exn,.int .i64 (σ3.steps:Int),.int .i64 (σ3.swept:Int)] 44 false):=⟨_,rfl⟩
 have nG4:G4.next=R3.next+1:=by rw [hG4];simp
 have fG4:Fr R3.next R3 G4:=by rw [hG4];exact ((Fr.refl _ _).push (Nat.le_refl _) _).set (Nat.le_refl _) _
 have f34:Fr G3.next G3 G4:=fr3.trans (fG4.of_le fr3n)
 have f24:Fr G2.next G2 G4:=f23.trans (f34.of_le (by omega))
 have t2:G4.get R1.next=some (.cells [.int .i64 k1,.slice oa on oc,.string σ1.exn,.int .i64 (σ1.steps:Int),.int .i64 (σ1.swept:Int)] 44 false):=by
  rw [f24.2 _ (by omega),hG2,IH.get_set,if_pos rfl]
 have t3:G4.get R2.next=some (.cells [.int .i64 k2,.slice oa2 on2 oc2,.string σ2.exn,.int .i64 (σ2.steps:Int),.int .i64 (σ2.swept:Int)] 44 false):=by
  rw [f34.2 _ (by omega),hG3,IH.get_set,if_pos rfl]
 have t4:G4.get R3.next=some (.cells [.int .i64 k3,.slice oa3 on3 oc3,.string σ3.exn,.int .i64 (σ3.steps:Int),.int .i64 (σ3.swept:Int)] 44 false):=by
  rw [hG4,IH.get_set,if_pos rfl]
 have o1:OvAt G4 (.slice oa on oc) σ1.out:=ov1.same fun x hm=>by
  have:=(b1 x hm).2
  rw [f24.2 x (by omega),fG2.2 x (by omega)]
 have o2:OvAt G4 (.slice oa2 on2 oc2) σ2.out:=ov2.same fun x hm=>by
  have:=(b2 x hm).2
  rw [f34.2 x (by omega),fG3.2 x (by omega)]
 have v1:=conv_out o1 fun x hm=>by have:=(b1 x hm).2;omega
 have v2:=conv_out o2 fun x hm=>by have:=(b2 x hm).2;omega
 simp only [Bool.and_eq_true,decide_eq_true_eq] at p1 p2 p3
 obtain ⟨⟨rfl,p12⟩,p13⟩:=p1
 obtain ⟨rfl,p22⟩:=p2
 obtain ⟨rfl,p32⟩:=p3
 rw [p12] at v1
 rw [p22] at v2
 rw [p13] at t2
 rw [p32] at t4
 have hH:outB [72]=⟨#[72]⟩:=rfl
 rw [hH] at v1 v2
 have hfin:Fr H.next H G4:=by
  rw [←hn]
  exact (fG1.trans (f12.of_le (by omega))).trans (f24.of_le (by omega))
 have gm2:=(f12.2 (n+8) (by omega)).trans gm
 have gm3:=(f13.2 (n+8) (by omega)).trans gm
 simp only [ImV.val,ImV.cells,leastU,leastIm,Int.cast_ofNat_Int] at c1 gm gm2 gm3 hG1 r1 r2 r3
 refine ⟨G4,?_,hfin⟩
 simp [C18,regsOf,fin,iresult1,c1,inew,n1,Value.cells,IH.get_push,IH.get_set,istore,plain1,overlay,iparts,bi0,bi05,bsc3,bscr,loadT_agg,iindexAddr,l1.g7,l1.g6,←hG1,gm,gm2,gm3,r1,r2,r3,←hG2,←hG3,←hG4,t2,t3,t4,v1,v2]
end
theorem st_int:ST 28 3 1 8:=⟨by simp,by simp,by simp,⟨_,by simp;rfl,by simp [Value.cells]⟩,by decide,by decide⟩
theorem st_shape:ST 23 90 3 48:=⟨by simp,by simp,by simp,⟨_,by simp;rfl,by simp [Value.cells]⟩,by decide,by decide⟩
theorem st_instr:ST 54 30 9 120:=⟨by simp,by simp,by simp,⟨_,by simp;rfl,by simp [Value.cells]⟩,by decide,by decide⟩
theorem app_full {H:IH} {st e:TypeId} {k by_:Nat} (hT:ST st e k by_) {xb o m c b len cap:Nat} {new cs:List Value} {pr:Bool} (h1:icells H ⟨xb,o,none⟩ (m*k)=some new) (h2:new.length=m*k) (hm:0<m) (hb:len+m≤20000000)
  (hg:H.get b=some (.cells cs e pr)) (hl:len*k≤cs.length) (hp:new.all plain1=true) (hc:cap<capU) (hf:cap<len+m):
  iappend J #[st,st] (.slice (some ⟨b,0,none⟩) len cap) (.slice (some ⟨xb,o,none⟩) m c) H=some (.slice (some ⟨H.next,0,none⟩) (len+m) capU,H.push (.cells (cs.take (len*k)++new) e false)):=by
 obtain ⟨z,hz,hzk⟩:=hT.zero
 have e1:(len+m)*(3*by_)≤2^47:=by
  have:(len+m)*(3*by_)≤20000000*3000:=Nat.mul_le_mul hb (by have:=hT.big;omega)
  omega
 have e2:by_≤2^30:=by have:=hT.big;omega
 have e3:m≠0:=by omega
 have e5:cap≠capU:=by omega
 have e6:¬len+m≤cap:=by omega
 simp only [iappend,List.getElem?_toArray,List.getElem?_cons_zero,List.getElem?_cons_succ,hT.und,hT.size,hT.bytes,hz,ilenOf,ifirst,e3,if_false,e1,hT.pos,e2,hzk,true_and,and_self,if_true,h1,h2,hg,hp,Nat.zero_add,hl,List.drop_zero,e5,e6]
def intsC (l:List Int):List Value:=l.map intV
def WiAt (H:IH) (lo:Nat) (u:Value) (ws:List Int):Prop:=
 (u=.slice none 0 0∧ws= [])∨∃b,lo≤b∧b<H.next∧u=.slice (some ⟨b,0,none⟩) ws.length capU∧H.get b=some (.cells (intsC ws) 3 false)
theorem app_int {H:IH} {lo:Nat} {u:Value} {ws:List Int} (h:WiAt H lo u ws) (hlo:lo≤H.next) (hl:ws.length≤1000000) (w:Int):
  ∃u' H',iappend J #[28,28] u (.slice (some ⟨H.next,0,none⟩) 1 1) (H.push (.cells [.int .i64 w] 3 false))=some (u',H')∧WiAt H' lo u' (ws++[w])∧Fr lo H H':=by
 have h1:icells (H.push (.cells [.int .i64 w] 3 false)) ⟨H.next,0,none⟩ (1*1)=some [.int .i64 w]:=by simp [IH.get_push]
 have hn:(H.push (.cells [.int .i64 w] 3 false)).next=H.next+1:=by simp
 rcases h with ⟨rfl,rfl⟩|⟨b,b1,b2,rfl,b4⟩
 ·have:=app_nil st_int (c:=1) h1 (by simp) (by omega) (by omega)
  rw [hn] at this
  refine ⟨_,_,this,.inr ⟨H.next+1,by omega,by simp,by simp,?_⟩,((Fr.refl _ _).push hlo _).push (by simp;omega) _⟩
  rw [show H.next+1=(H.push (.cells [.int .i64 w] 3 false)).next by simp,IH.get_push_same];rfl
 ·have hg:(H.push (.cells [.int .i64 w] 3 false)).get b=some (.cells (intsC ws) 3 false):=by rw [IH.get_push_other _ _ _ b2];exact b4
  have hwl:(intsC ws).length=ws.length:=by simp [intsC]
  have:=app_some st_int (c:=1) (len:=ws.length) h1 (by simp) (by omega) (by omega) hg (by rw [hwl];omega) (by simp [plain1])
  rw [hn] at this
  refine ⟨_,_,this,.inr ⟨H.next+1,by omega,by simp,by simp,?_⟩,(((Fr.refl _ _).push hlo _).set b1 _).push (by simp;omega) _⟩
  rw [show H.next+1=((H.push (.cells [.int .i64 w] 3 false)).set b .dead).next by simp,IH.get_push_same]
  rw [List.take_of_length_le (by rw [hwl];omega)];simp [intsC,intV]
theorem WiAt.mono {H H':IH} {lo:Nat} {u:Value} {ws:List Int} (h:WiAt H lo u ws) (hn:H.next≤H'.next) (hx:∀x∈bOf u,H'.get x=H.get x):WiAt H' lo u ws:=by
 rcases h with h|⟨b,b1,b2,b3,b4⟩
 ·exact .inl h
 ·exact .inr ⟨b,b1,by omega,b3,(hx b (by simp [b3,bOf])).trans b4⟩
theorem WiAt.ints {H:IH} {lo lo':Nat} {u:Value} {ws:List Int} (h:WiAt H lo u ws) (hl:H.next≤lo'):IntsAt H lo' u ws:=by
 rcases h with ⟨rfl,rfl⟩|⟨b,b1,b2,rfl,b4⟩
 ·exact LAt.nil
 ·exact LAt.mk rfl (by omega) fun i hi=>CellAt.one b4 (by simp [intsC,hi])
section
variable {H:IH}
theorem loop29 (bb n:Nat) (vc:Value) (hn:n≤1000) (hbb:bb<H.next) (K:Nat→Value) (hvc:∃a m c,vc=.slice a m c):∀(d i:Nat) (T:Regs) (H':IH) (vi:Value),i+d=n→H.next≤H'.next→(∀x,x<H.next→x≠bb→H'.get x=H.get x)→H'.get bb=some (.cells [vi,vc] 56 false)→WiAt H' H.next vi (List.replicate i (-1))→
  (∀t,t<28→T.at t=K t)→K 8=ptrV bb→K 27=.int .i64 (n:Int)→T.at 28=.int .i64 (i:Int)→
  ∃T' H'' vi',run J okAll (.loop L29_0) T H'=some (.exit 0,T',H'')∧H.next≤H''.next∧(∀x,x<H.next→x≠bb→H''.get x=H.get x)∧H''.get bb=some (.cells [vi',vc] 56 false)∧WiAt H'' H.next vi' (List.replicate n (-1))∧(∀t,t<28→T'.at t=K t):=by
 intro d
 induction d with
 |zero=>
  intro i T H' vi hd hnx hx hg hw hK k8 k27 t28
  have:i=n:=by omega
  subst this
  have t27:=(hK 27 (by omega)).trans k27
  obtain ⟨T',key⟩:∃T',run J okAll (.loop L29_0) T H'=some (.exit 0,T',H')∧(∀t,t<28→T'.at t=K t):=by
   rw [r_loop]
   simp [L29_0,t27,t28]
   exact fun t ht=>by simp (disch:=omega) only [at_set_om];exact hK t ht
  exact ⟨T',H',vi,key.1,hnx,hx,hg,hw,key.2⟩
 |succ d ih=>
  intro i T H' vi hd hnx hx hg hw hK k8 k27 t28
  have hlt:i<n:=by omega
  have t27:=(hK 27 (by omega)).trans k27
  have t8:=(hK 8 (by omega)).trans k8
  have hw1:IntKind.i64.wrap ((i:Int)+1)=((i+1:Nat):Int):=by rw [wrap64 _ (by omega) (by omega)];simp
  obtain ⟨u',H2,a1,a2,a3⟩:=app_int hw hnx (by simp;omega) (-1)
  have hg2:=(a3.2 bb hbb).trans hg
  obtain ⟨ca,cm,cc,rfl⟩:=hvc
  obtain ⟨ua,um,uc,hu'⟩:∃a m c,u'=.slice a m c:=by
   rcases a2 with ⟨e,_⟩|⟨b,_,_,e,_⟩
   ·exact ⟨_,_,_,e⟩
   ·exact ⟨_,_,_,e⟩
  obtain ⟨T1,s1,s2,s3⟩:∃T1,run J okAll (.loop L29_0) T H'=run J okAll (.loop L29_0) T1 (H2.set bb (.cells [u',.slice ca cm cc] 56 false))∧(∀t,t<28→T1.at t=K t)∧T1.at 28=.int .i64 ((i+1:Nat):Int):=by
   subst hu'
   simp only [ptrV] at t8
   rw [r_loop]
   simp [L29_0,t8,t27,t28,hlt,hg,iparts,bsi1,a1,hg2,istore,Value.cells,plain1,overlay,hw1]
   exact ⟨_,rfl,fun t ht=>by simp (disch:=omega) only [at_set_om];exact hK t ht,by simp⟩
  rw [s1]
  have hnb:∀x∈bOf u',x≠bb:=fun x hm=>by
   rcases a2 with ⟨e,_⟩|⟨b,e1,_,e,_⟩
   ·rw [e] at hm;simp [bOf] at hm
   ·rw [e] at hm;simp [bOf] at hm;omega
  refine ih (i+1) T1 _ u' (by omega) (by have:=a3.1;simp;omega) (fun x hx1 hx2=>by rw [IH.get_set,if_neg hx2,a3.2 x hx1];exact hx x hx1 hx2) (by rw [IH.get_set,if_pos rfl]) ?_ s2 k8 k27 s3
  rw [List.replicate_succ']
  exact a2.mono (by simp) fun x hm=>by rw [IH.get_set,if_neg (hnb x hm)]
end
def nMatch:ByteArray:=⟨#[77,97,116,99,104]⟩
def nDiv:ByteArray:=⟨#[68,105,118]⟩
def nSub:ByteArray:=⟨#[83,117,98,115,99,114,105,112,116]⟩
def nSize:ByteArray:=⟨#[83,105,122,101]⟩
def mainIm (slots:Nat) (texts:List ByteArray) (code:List Ins):Img:=
 ⟨[⟨true,[]⟩,⟨false,[0]⟩],[⟨3,[],⟨#[]⟩⟩,⟨2,[0],⟨#[]⟩⟩],texts,[nMatch,nDiv,nSub,nSize],[⟨[],0,slots,[⟨List.replicate slots (-1),code++[ins 1 0 0 0 0 0,ins 22 0 0 0 0 0]⟩]⟩],0,0⟩
theorem bsh2 (k:Int) (a:Option Addr) (n c:Nat):ibuild J 90 [(0,.int .i64 k),(1,.slice a n c)]=some (.agg #[.int .i64 k,.slice a n c,.string ⟨#[]⟩]):=by kernel_rfl
theorem bnames (H:IH):ibuildSlice J 24 4 [(0,.string ⟨#[77,97,116,99,104]⟩),(1,.string ⟨#[68,105,118]⟩),(2,.string ⟨#[83,117,98,115,99,114,105,112,116]⟩),(3,.string ⟨#[83,105,122,101]⟩)] H=some (.slice (some ⟨H.next,0,none⟩) 4 4,H.push (.cells [.string nMatch,.string nDiv,.string nSub,.string nSize] 9 false)):=by kernel_rfl
theorem bbl1 (b:Option Addr) (m d:Nat):ibuild J 56 [(1,.slice b m d)]=some (.agg #[.slice none 0 0,.slice b m d]):=by kernel_rfl
section
variable {H:IH}
theorem code2_at {code:List Ins} {cs:List Value} {b lo lo':Nat} {pr:Bool} (_hcl:code.length≤1000) (hfl:cs.length=code.length*9) (hg:H.get b=some (.cells (cs++(insC (ins 1 0 0 0 0 0)++insC (ins 22 0 0 0 0 0))) 30 pr))
  (h:∀i (h:i<code.length),InsAt H lo b (i*9) code[i]) (hl:lo≤lo') (hb:b<lo'):LAt lo' 9 (InsAt H lo') (.slice (some ⟨b,0,none⟩) (code.length+2) capU) (code++[ins 1 0 0 0 0 0,ins 22 0 0 0 0 0]):=by
 refine LAt.mk (by simp) hb fun i hi=>?_
 rw [Nat.zero_add]
 by_cases h1:i<code.length
 ·rw [List.getElem_append_left h1];exact (h i h1).up hl
 ·rw [List.getElem_append_right (by omega)]
  simp only [List.length_append,List.length_cons,List.length_nil] at hi
  have h2:i=code.length∨i=code.length+1:=by omega
  have q:∀j,(cs++(insC (ins 1 0 0 0 0 0)++insC (ins 22 0 0 0 0 0)))[code.length*9+j]?=(insC (ins 1 0 0 0 0 0)++insC (ins 22 0 0 0 0 0))[j]?:=fun j=>by
   rw [List.getElem?_append_right (by omega)];congr 1;omega
  rcases h2 with rfl|rfl
  ·simp only [Nat.sub_self,List.getElem_cons_zero]
   refine InsAt.plain hg (fun j hj=>?_) rfl rfl rfl
   rw [q,List.getElem?_append_left (by simpa [insC] using hj)]
  ·simp only [Nat.add_sub_cancel_left,List.getElem_cons_succ,List.getElem_cons_zero]
   refine InsAt.plain hg (fun j hj=>?_) rfl rfl rfl
   rw [show (code.length+1)*9+j=code.length*9+(9+j) by omega,q,List.getElem?_append_right (by simp [insC])]
   congr 1
   simp [insC]
theorem c_main1g {slots:Nat} {texts:List ByteArray} {code:List Ins} {cs:List Value} {ta:Option Addr} {tc cb cc:Nat} (hsl:slots≤200) (ht:LAt H.next 1 (CellAt H 9 Value.string) (.slice ta texts.length tc) texts)
  (hcb:cb<H.next) (hcode:H.get cb=some (.cells cs 30 false)) (hfl:cs.length=code.length*9) (hins:∀(F:IH) (b:Nat) (cs':List Value),SameB H.next H F→F.get b=some (.cells (cs++cs') 30 false)→∀i (h:i<code.length),InsAt F H.next b (i*9) code[i]) (hcl:code.length≤1000) (hcc:cc=code.length):
  ∃H' u,cal J okAll 29 #[.int .i64 slots,.slice ta texts.length tc,.slice (some ⟨cb,0,none⟩) code.length cc] H=some (.ret (ImV.val u (mainIm slots texts code)),H')∧Fr H.next H H'∧ImvAt H' H'.next u (mainIm slots texts code):=by
 rw [cal29 _ _ (by simp)]
 obtain ⟨n,hn⟩:∃n,n=H.next:=⟨_,rfl⟩
 obtain ⟨B0,hB0⟩:∃B0,B0=H.push (.cells [.slice none 0 0,.slice none 0 0,.slice none 0 0,.slice none 0 0,.slice none 0 0,.int .i64 0,.int .i64 0] 27 false):=⟨_,rfl⟩
 have nB0:B0.next=n+1:=by rw [hB0];simp [hn]
 obtain ⟨H1,c1,f1,n1,l1⟩:=c_Least (H:=B0)
 rw [nB0] at c1 f1 l1 n1
 have fB0:Fr n H B0:=by rw [hB0,hn];exact (Fr.refl _ _).push (Nat.le_refl _) _
 obtain ⟨G1,hG1⟩:∃G1,G1=((((H1.push (.cells [.slice none 0 0,.slice none 0 0,.slice none 0 0,.slice none 0 0,.slice none 0 0,.int .i64 0,.int .i64 0] 27 false)).set (n+1+8) (.cells ((leastU (n+1)).cells (leastIm [])) 27 false)).push (.cells [.int .i64 0] 3 false)).push (.cells [.int .i64 2,.slice (some ⟨n+1+8+1,0,none⟩) 1 1,.string ⟨#[]⟩] 90 false)):=⟨_,rfl⟩
 have nG1:G1.next=n+12:=by rw [hG1];simp [n1]
 have oG1:∀x,x<n+1+8→G1.get x=H1.get x:=fun x hx=>by
  rw [hG1,IH.get_push_other _ _ _ (by simp [n1];omega),IH.get_push_other _ _ _ (by simp [n1];omega),IH.get_set,if_neg (by omega),IH.get_push_other _ _ _ (by omega)]
 have gsh:G1.get (n+1+8+1+1)=some (.cells [.int .i64 2,.slice (some ⟨n+1+8+1,0,none⟩) 1 1,.string ⟨#[]⟩] 90 false):=by rw [hG1];simp [IH.get_push,n1]
 have ash:=app_full st_shape (H:=G1) (xb:=n+1+8+1+1) (o:=0) (m:=1) (c:=1) (b:=n+1+3) (len:=1) (cap:=1) (new:=[.int .i64 2,.slice (some ⟨n+1+8+1,0,none⟩) 1 1,.string ⟨#[]⟩]) (by simp [gsh]) (by simp) (by omega) (by omega) ((oG1 _ (by omega)).trans l1.g3) (by simp) (by simp [plain1]) (by decide) (by omega)
 rw [nG1] at ash
 obtain ⟨G2,hG2⟩:∃G2,G2=((((G1.push (.cells [.int .i64 3,.slice none 0 0,.string ⟨#[]⟩,.int .i64 2,.slice (some ⟨n+1+8+1,0,none⟩) 1 1,.string ⟨#[]⟩] 90 false)).set (n+1+8) (.cells [.slice (some ⟨n+1+2,0,none⟩) 2 2,.slice (some ⟨n+12,0,none⟩) 2 capU,.slice ta texts.length tc,.slice none 0 0,.slice (some ⟨n+1+7,0,none⟩) 1 1,.int .i64 0,.int .i64 0] 27 false)).push (.cells [.string nMatch,.string nDiv,.string nSub,.string nSize] 9 false)).set (n+1+8) (.cells [.slice (some ⟨n+1+2,0,none⟩) 2 2,.slice (some ⟨n+12,0,none⟩) 2 capU,.slice ta texts.length tc,.slice (some ⟨n+12+1,0,none⟩) 4 4,.slice (some ⟨n+1+7,0,none⟩) 1 1,.int .i64 0,.int .i64 0] 27 false)):=⟨_,rfl⟩
 have nG2:G2.next=n+14:=by rw [hG2];simp [nG1]
 have oG2:∀x,x<n+12→x≠n+1+8→G2.get x=G1.get x:=fun x hx hne=>by
  rw [hG2,IH.get_set,if_neg hne,IH.get_push_other _ _ _ (by simp [nG1];omega),IH.get_set,if_neg hne,IH.get_push_other _ _ _ (by omega)]
 obtain ⟨G3,hG3⟩:∃G3,G3=G2.push (.cells (insC (ins 1 0 0 0 0 0)++insC (ins 22 0 0 0 0 0)) 30 false):=⟨_,rfl⟩
 have nG3:G3.next=n+15:=by rw [hG3];simp [nG2]
 have oG3:∀x,x<n+14→G3.get x=G2.get x:=fun x hx=>by rw [hG3,IH.get_push_other _ _ _ (by omega)]
 have hcb3:G3.get cb=some (.cells cs 30 false):=by
  rw [oG3 _ (by omega),oG2 _ (by omega) (by omega),oG1 _ (by omega),f1.2 _ (by omega),fB0.2 _ (by omega)];exact hcode
 have g14:G3.get (n+14)=some (.cells (insC (ins 1 0 0 0 0 0)++insC (ins 22 0 0 0 0 0)) 30 false):=by rw [hG3,←nG2,IH.get_push_same]
 have acd:=app_full st_instr (H:=G3) (xb:=n+14) (o:=0) (m:=2) (c:=2) (b:=cb) (len:=code.length) (cap:=cc) (new:=insC (ins 1 0 0 0 0 0)++insC (ins 22 0 0 0 0 0)) (by simp [g14,insC]) (by simp [insC]) (by omega) (by omega) hcb3 (by omega) (by simp [insC,plain1,ins]) (by rw [hcc];exact Nat.lt_of_le_of_lt hcl (by decide)) (by omega)
 rw [nG3,List.take_of_length_le (by omega)] at acd
 obtain ⟨G4,hG4⟩:∃G4,G4=((G3.push (.cells (cs++(insC (ins 1 0 0 0 0 0)++insC (ins 22 0 0 0 0 0))) 30 false)).push (.cells [.slice none 0 0,.slice none 0 0] 56 false)).set (n+15+1) (.cells [.slice none 0 0,.slice (some ⟨n+15,0,none⟩) (code.length+2) capU] 56 false):=⟨_,rfl⟩
 have nG4:G4.next=n+17:=by rw [hG4];simp [nG3]
 have gi1:G1.get (n+1+8)=some (.cells ((leastU (n+1)).cells (leastIm [])) 27 false):=by
  rw [hG1,IH.get_push_other _ _ _ (by simp [n1]),IH.get_push_other _ _ _ (by simp [n1]),IH.get_set,if_pos rfl]
 simp only [ImV.val,ImV.cells,leastU,leastIm] at c1 hG1 gi1
 simp [C29,regsOf,inew,Value.cells,←hB0,c1,n1,←hn,IH.get_push,IH.get_set,istore,plain1,overlay,iparts,bsi1,bsh2,bss1,loadT_agg,←hG1,gi1,ash,nG1,bnames,←hG2,bi0,bsc2,nG2,←hG3,acd,bbl1,nG3,←hG4]
 generalize hX:run J okAll (.loop L29_0) _ _=X
 obtain ⟨T1,hT,a6,a7,a8,a0,a27,a28⟩:∃T1,run J okAll (.loop L29_0) T1 G4=X∧T1.at 6=ptrV n∧T1.at 7=ptrV (n+1+8)∧T1.at 8=ptrV (n+15+1)∧T1.at 0=.int .i64 (slots:Int)∧T1.at 27=.int .i64 (slots:Int)∧T1.at 28=.int .i64 ((0:Nat):Int):=⟨_,hX,by simp [ptrV],by simp [ptrV],by simp [ptrV],by simp,by simp,by simp⟩
 have oG4:∀x,x<n+15→G4.get x=G3.get x:=fun x hx=>by
  rw [hG4,IH.get_set,if_neg (by omega),IH.get_push_other _ _ _ (by simp [nG3];omega),IH.get_push_other _ _ _ (by omega)]
 have gbl:G4.get (n+15+1)=some (.cells [.slice none 0 0,.slice (some ⟨n+15,0,none⟩) (code.length+2) capU] 56 false):=by rw [hG4,IH.get_set,if_pos rfl]
 obtain ⟨T2,H5,vi,e1,e2,e3,e4,e5,e6⟩:=loop29 (H:=G4) (n+15+1) slots _ (by omega) (by omega) (fun t=>T1.at t) ⟨_,_,_,rfl⟩ slots 0 T1 G4 (.slice none 0 0) (by omega) (Nat.le_refl _) (fun _ _ _=>rfl) gbl (.inl ⟨rfl,rfl⟩) (fun t ht=>rfl) a8 a27 a28
 have e1:=hT.symm.trans e1
 subst e1
 have b0:=(e6 0 (by omega)).trans a0
 have b6:=(e6 6 (by omega)).trans a6
 have b7:=(e6 7 (by omega)).trans a7
 have b8:=(e6 8 (by omega)).trans a8
 have o5:∀x,x<n+15→H5.get x=G3.get x:=fun x hx=>by rw [e3 x (by omega) (by omega)];exact oG4 x hx
 have gim:H5.get (n+1+8)=some (.cells [.slice (some ⟨n+1+2,0,none⟩) 2 2,.slice (some ⟨n+12,0,none⟩) 2 capU,.slice ta texts.length tc,.slice (some ⟨n+12+1,0,none⟩) 4 4,.slice (some ⟨n+1+7,0,none⟩) 1 1,.int .i64 0,.int .i64 0] 27 false):=by
  rw [o5 _ (by omega),oG3 _ (by omega),hG2,IH.get_set,if_pos rfl]
 have gl:∀x,x<n+9→H5.get x=H1.get x:=fun x hx=>by
  rw [o5 _ (by omega),oG3 _ (by omega),oG2 _ (by omega) (by omega)];exact oG1 x hx
 have gfn:H5.get (n+1+7)=_:=(gl _ (by omega)).trans l1.g7
 have gn:H5.get n=some (.cells [.slice none 0 0,.slice none 0 0,.slice none 0 0,.slice none 0 0,.slice none 0 0,.int .i64 0,.int .i64 0] 27 false):=by
  rw [gl _ (by omega),f1.2 _ (by omega),hB0,hn,IH.get_push_same]
 have n5:n+17≤H5.next:=by omega
 obtain ⟨via,vin,vic,rfl⟩:∃a m c,vi=.slice a m c:=by
  rcases e5 with ⟨e,_⟩|⟨b,_,_,e,_⟩
  ·exact ⟨_,_,_,e⟩
  ·exact ⟨_,_,_,e⟩
 simp only [ptrV] at b6 b7 b8
 obtain ⟨F,hF⟩:∃F,F=((H5.push (.cells [.slice via vin vic,.slice (some ⟨n+15,0,none⟩) (code.length+2) capU] 56 false)).set (n+1+7) (.cells [.slice none 0 0,.int .i64 0,.int .i64 (slots:Int),.slice (some ⟨H5.next,0,none⟩) 1 1] 59 false)).set n (.cells [.slice (some ⟨n+1+2,0,none⟩) 2 2,.slice (some ⟨n+12,0,none⟩) 2 capU,.slice ta texts.length tc,.slice (some ⟨n+12+1,0,none⟩) 4 4,.slice (some ⟨n+1+7,0,none⟩) 1 1,.int .i64 0,.int .i64 0] 27 false):=⟨_,rfl⟩
 have nF:F.next=H5.next+1:=by rw [hF];simp
 have oF:∀x,x<H5.next→x≠n→x≠n+1+7→F.get x=H5.get x:=fun x hx h1 h2=>by
  rw [hF,IH.get_set,if_neg h1,IH.get_set,if_neg h2,IH.get_push_other _ _ _ hx]
 have gF:F.get n=some (.cells [.slice (some ⟨n+1+2,0,none⟩) 2 2,.slice (some ⟨n+12,0,none⟩) 2 capU,.slice ta texts.length tc,.slice (some ⟨n+12+1,0,none⟩) 4 4,.slice (some ⟨n+1+7,0,none⟩) 1 1,.int .i64 0,.int .i64 0] 27 false):=by rw [hF,IH.get_set,if_pos rfl]
 have gF7:F.get (n+1+7)=some (.cells [.slice none 0 0,.int .i64 0,.int .i64 (slots:Int),.slice (some ⟨H5.next,0,none⟩) 1 1] 59 false):=by rw [hF,IH.get_set,if_neg (by omega),IH.get_set,if_pos rfl]
 have gFb:F.get H5.next=some (.cells [.slice via vin vic,.slice (some ⟨n+15,0,none⟩) (code.length+2) capU] 56 false):=by rw [hF,IH.get_set,if_neg (by omega),IH.get_set,if_neg (by omega),IH.get_push_same]
 have m1:¬n+1+8=H5.next:=by omega
 have m2:¬n+1+7=H5.next:=by omega
 have m3:¬n=H5.next:=by omega
 have m4:¬n=n+1+7:=by omega
 refine ⟨F,⟨.slice (some ⟨n+1+2,0,none⟩) 2 2,.slice (some ⟨n+12,0,none⟩) 2 capU,.slice ta texts.length tc,.slice (some ⟨n+12+1,0,none⟩) 4 4,.slice (some ⟨n+1+7,0,none⟩) 1 1⟩,?_,⟨by omega,fun x hx=>?_⟩,?_⟩
 ·simp only [ImV.val,ImV.cells,mainIm]
  simp [b0,b6,b7,b8,gim,gfn,gn,e4,loadT_agg,iparts,bsb1,bfn,iindexAddr,istore,Value.cells,plain1,overlay,IH.get_push,IH.get_set,m1,m2,m3,m4,←hF,gF,fin,iresult1]
 ·rw [oF x (by omega) (by omega) (by omega),gl x (by omega),f1.2 x (by omega),fB0.2 x hx]
 ·have q:∀x,x<n+9→x≠n→x≠n+1+7→F.get x=H1.get x:=fun x hx h1 h2=>(oF x (by omega) h1 h2).trans (gl x hx)
  have q2:∀x,x<n+15→x≠n→x≠n+1+7→F.get x=G3.get x:=fun x hx h1 h2=>(oF x (by omega) h1 h2).trans (o5 x hx)
  have s1:F.get (n+12)=some (.cells [.int .i64 3,.slice none 0 0,.string ⟨#[]⟩,.int .i64 2,.slice (some ⟨n+1+8+1,0,none⟩) 1 1,.string ⟨#[]⟩] 90 false):=by
   rw [q2 _ (by omega) (by omega) (by omega),oG3 _ (by omega),hG2,IH.get_set,if_neg (by omega),IH.get_push_other _ _ _ (by simp [nG1]),IH.get_set,if_neg (by omega),←nG1,IH.get_push_same]
  have s2:F.get (n+1+8+1)=some (.cells [.int .i64 0] 3 false):=by
   rw [q2 _ (by omega) (by omega) (by omega),oG3 _ (by omega),oG2 _ (by omega) (by omega),hG1,IH.get_push_other _ _ _ (by simp [n1])]
   rw [show n+1+8+1=((H1.push (.cells [.slice none 0 0,.slice none 0 0,.slice none 0 0,.slice none 0 0,.slice none 0 0,.int .i64 0,.int .i64 0] 27 false)).set (n+1+8) (.cells [.slice (some ⟨n+1+2,0,none⟩) 2 2,.slice (some ⟨n+1+3,0,none⟩) 1 1,.slice none 0 0,.slice none 0 0,.slice (some ⟨n+1+7,0,none⟩) 1 1,.int .i64 0,.int .i64 0] 27 false)).next by simp [n1],IH.get_push_same]
  have s3:F.get (n+12+1)=some (.cells [.string nMatch,.string nDiv,.string nSub,.string nSize] 9 false):=by
   rw [q2 _ (by omega) (by omega) (by omega),oG3 _ (by omega),hG2,IH.get_set,if_neg (by omega)]
   rw [show n+12+1=((G1.push (.cells [.int .i64 3,.slice none 0 0,.string ⟨#[]⟩,.int .i64 2,.slice (some ⟨n+1+8+1,0,none⟩) 1 1,.string ⟨#[]⟩] 90 false)).set (n+1+8) (.cells [.slice (some ⟨n+1+2,0,none⟩) 2 2,.slice (some ⟨n+12,0,none⟩) 2 capU,.slice ta texts.length tc,.slice none 0 0,.slice (some ⟨n+1+7,0,none⟩) 1 1,.int .i64 0,.int .i64 0] 27 false)).next by simp [nG1],IH.get_push_same]
  have s4:F.get (n+15)=some (.cells (cs++(insC (ins 1 0 0 0 0 0)++insC (ins 22 0 0 0 0 0))) 30 false):=by
   rw [oF _ (by omega) (by omega) (by omega),e3 _ (by omega) (by omega),hG4,IH.get_set,if_neg (by omega),IH.get_push_other _ _ _ (show n+15<G3.next+1 by omega),←nG3,IH.get_push_same]
  have hle:∀x,x<H.next→F.get x=H.get x:=fun x hx=>by
   rw [oF x (by omega) (by omega) (by omega),gl x (by omega),f1.2 x (by omega),fB0.2 x (by omega)]
  refine ⟨LAt.mk rfl (by omega) fun i hi=>?_,LAt.mk rfl (by omega) fun i hi=>?_,ht.up (by omega) fun b o x hb hx=>CellAt.same (lo:=H.next) hx hle hb,LAt.mk rfl (by omega) fun i hi=>?_,LAt.mk rfl (by omega) fun i hi=>?_⟩
  ·match i,hi with
   |0,_=>exact ⟨_,_,_,(q _ (by omega) (by omega) (by omega)).trans l1.g2,rfl,rfl,LAt.nil⟩
   |1,_=>exact ⟨_,_,_,(q _ (by omega) (by omega) (by omega)).trans l1.g2,rfl,rfl,LAt.mk rfl (by omega) fun i hi=>by
     match i,hi with
     |0,_=>exact CellAt.one ((q _ (by omega) (by omega) (by omega)).trans l1.g1) rfl⟩
  ·match i,hi with
   |0,_=>exact ⟨_,_,_,s1,rfl,rfl,rfl,LAt.nil⟩
   |1,_=>exact ⟨_,_,_,s1,rfl,rfl,rfl,LAt.mk rfl (by omega) fun i hi=>by
     match i,hi with
     |0,_=>exact CellAt.one s2 rfl⟩
  ·match i,hi with
   |0,_=>exact CellAt.one s3 rfl
   |1,_=>exact CellAt.one s3 rfl
   |2,_=>exact CellAt.one s3 rfl
   |3,_=>exact CellAt.one s3 rfl
  ·match i,hi with
   |0,_=>exact ⟨_,_,_,_,gF7,rfl,rfl,rfl,rfl,LAt.nil,LAt.mk rfl (by omega) fun i hi=>by
     match i,hi with
     |0,_=>exact ⟨_,_,_,_,gFb,rfl,rfl,(e5.mono (by omega) fun x hm=>by
       have hx:G4.next≤x∧x<H5.next:=by
        rcases e5 with ⟨e,_⟩|⟨b,b1,b2,e,_⟩
        ·rw [e] at hm;simp [bOf] at hm
        ·rw [e] at hm;simp [bOf] at hm;omega
       exact oF x hx.2 (by omega) (by omega)).ints (Nat.le_refl _),code2_at hcl hfl s4 (hins F (n+15) _ (fun x hx=>hle x hx) s4) (by omega) (by omega)⟩⟩
end
section
variable {H:IH}
theorem run_im {R:Rest} {im:Img} (hR:∀lo,RestOk lo im R) {u:ImV} (hv:ImvAt H H.next u im) (hsm:ImSm im) {G:IH} (fG:Fr H.next H G) {cv:Option Addr×Nat×Nat} {cl:List Bool} (hcl:LAt G.next 1 (CellAt G 4 Value.bool) (slV cv) cl)
  {f h st:Nat} (hf:f≤16777216) (hh:h≤65536) (hst:st≤65536) {k:Int} {σ:Mst} (hr:runOut R im ⟨[],f,h,st,cl⟩=some (k,σ)):
  ∃(E:IH) (oa:Option Addr) (on oc:Nat),cal J okAll 19 #[u.val im,scrV (none,0,0) (f:Int) (h:Int) (st:Int) cv] G=some (.ret (.agg #[.int .i64 k,.slice oa on oc,.string σ.exn,.int .i64 (σ.steps:Int),.int .i64 (σ.swept:Int)]),E)∧Fr G.next G E∧
   on=σ.out.length∧∀Q:IH,Fr E.next E Q→iconvert J 34 9 (.slice oa on oc) Q=some (.string (outB σ.out),Q):=by
 have vG:=(hv.same (H':=G) (fun x hx=>fG.2 x hx)).up (lo':=G.next) fG.1
 have s1:f=clampN (f:Int) 16777216:=by simp [clampN];omega
 have s2:h=clampN (h:Int) 65536:=by simp [clampN];omega
 have s3:st=clampN (st:Int) 65536:=by simp [clampN];omega
 obtain ⟨E,ov,r1,fr,o1,b1⟩:=c_Run hR vG (Nat.le_refl _) hsm (iv:=(none,0,0)) (cv:=cv) (f:=(f:Int)) (h:=(h:Int)) (st:=(st:Int)) (s:=⟨[],f,h,st,cl⟩) LAt.nil hcl ⟨by simp,by simp⟩ s1 s2 s3 hr
 obtain ⟨oa,on,oc,hov,hon⟩:∃oa on oc,ov=.slice oa on oc∧on=σ.out.length:=by
  rcases o1 with ⟨e,e2⟩|⟨b,e,_⟩
  ·exact ⟨_,_,_,e,by rw [e2];rfl⟩
  ·exact ⟨_,_,_,e,rfl⟩
 subst hov
 refine ⟨E,oa,on,oc,r1,fr,hon,fun Q fQ=>?_⟩
 exact conv_out (o1.same (H':=Q) fun z hm=>fQ.2 z (b1 z hm).2) fun z hm=>Nat.lt_of_lt_of_le (b1 z hm).2 fQ.1
end
def Hp.good (σ:Hp):Bool:=(List.range σ.top).all fun n=> !σ.is n||(decide (wShape (σ.w n)<σ.ly.length)&&decide (n+1+(if σ.kind (wShape (σ.w n))=3 then (wLen (σ.w n)+7) / 8 else wLen (σ.w n))≤σ.top))
theorem Hp.good_iff (σ:Hp):σ.good=true↔σ.Shapes∧σ.Fit:=by
 have key:σ.good=true↔∀n,σ.is n=true→wShape (σ.w n)<σ.ly.length∧n+1+(if σ.kind (wShape (σ.w n))=3 then (wLen (σ.w n)+7) / 8 else wLen (σ.w n))≤σ.top:=by
  unfold Hp.good
  rw [List.all_eq_true]
  constructor
  ·intro h n hn
   have hlt:n<σ.top:=by unfold Hp.is at hn;simp only [Bool.and_eq_true,decide_eq_true_eq] at hn;exact hn.1
   have:=h n (List.mem_range.2 hlt)
   rw [hn] at this
   simpa only [Bool.not_true,Bool.false_or,Bool.and_eq_true,decide_eq_true_eq] using this
  ·intro h n _
   cases hn:σ.is n with
   |false=>rfl
   |true=>simpa only [Bool.not_true,Bool.false_or,Bool.and_eq_true,decide_eq_true_eq] using h n hn
 rw [key]
 exact ⟨fun h=>⟨fun n hn=>(h n hn).1,fun n hn=>(h n hn).2⟩,fun h n hn=>⟨h.1 n hn,h.2 n hn⟩⟩
def vGood:VM Unit:=fun σ=>if σ.hp.good then some (.ok (),σ) else none
def Hp.shapeOf (σ:Hp) (a:Nat):Nat:=if σ.is a then wShape (σ.w a) else 0
def Hp.lenOf (σ:Hp) (a:Nat):Nat:=if σ.is a then wLen (σ.w a) else 0
def vObject (i kind other:Int):VM (Nat×Nat):=do
 let w ←vGet i
 vMust (!wIsImm w)
 let k ←VM.get fun σ=>σ.hp.kindI (σ.hp.shapeOf (wAt w):Nat)
 vMust (decide (k=kind)||decide (k=other))
 let n ←VM.get fun σ=>σ.hp.lenOf (wAt w)
 VM.ret (wAt w,n)
abbrev Swp:=List Nat→VM (List Nat)
def Hp.room (σ:Hp):Int:=(σ.ws.length:Int)-(σ.top:Int)
def vMake (Sw:Swp) (shape n:Int) (live:List Int) (held:List Nat):VM (Nat×List Nat):=do
 let p ←VM.get fun σ=>σ.hp.need shape n
 vMust (decide (p.2=0))
 vKeep live
 let sw ←VM.get fun σ=>(σ.collect[σ.made]?).getD false
 VM.upd fun σ=>{ σ with made:=σ.made+1 }
 let held ←(if sw then Sw held else VM.ret held)
 let full ←VM.get fun σ=>decide (σ.hp.room<p.1)
 let held ←(if full then (do
   let held ←(if sw then VM.ret held else Sw held)
   let full ←VM.get fun σ=>decide (σ.hp.room<p.1)
   if full then vEnd 4 else VM.ret held) else VM.ret held)
 let a ←VM.get fun σ=>σ.hp.top
 VM.upd fun σ=>{ σ with hp:=σ.hp.put shape.toNat n.toNat }
 VM.ret (a,held)
def Hp.set (σ:Hp) (s i:Int) (w:Nat):Hp:=if σ.has s i false&&σ.fits w then σ.setW (s.toNat+1+i.toNat) w else σ
def HeldAt (H:IH) (own:List Nat) (u:Value) (ws:List Nat):Prop:=
 (u=.slice none 0 0∧ws= [])∨∃b o c cs,u=.slice (some ⟨b,o,none⟩) ws.length c∧b<H.next∧b ∉ own∧H.get b=some (.cells cs 62 false)∧∀i (h:i<ws.length),cs[o+i]?=some (.int .u64 (ws[i]:Nat))
structure GS where
 h:Hp
 roots:List Nat
 top:Nat
namespace GS
def load (g:GS) (i:Nat):Option Nat:=if g.h.ws.length≤i then g.roots[i-g.h.ws.length]? else some (g.h.w i)
def store (g:GS) (i w:Nat):Option GS:=if g.h.ws.length≤i then (if i-g.h.ws.length<g.roots.length then some { g with roots:=g.roots.set (i-g.h.ws.length) w } else none) else some { g with h:=g.h.setW i w }
def bytes (g:GS) (head:Nat):Bool:=decide (g.h.kindI (wShape head:Nat)=3)
def size (g:GS) (head:Nat):Nat×Nat:=
 let s:=(g.h.need (wShape head:Nat) (wLen head:Nat)).1.toNat
 if s=1+wLen head∧g.bytes head=false then (s,wLen head) else (s,0)
def thread (g:GS) (i:Nat):Option GS:=do
 let w ←g.load i
 if wIsImm w then some g
 else do
  let x ←g.load (wAt w)
  let g ←g.store i x
  g.store (wAt w) (wPtr i)
def unthreadGo (to:Nat):Nat→Nat→GS→Option (Nat×GS)
 |0,_,_=>none
 |n+1,w,g=>
  if wIsImm w then some (w,g)
  else do
   let w' ←g.load (wAt w)
   let g ←g.store (wAt w) (wPtr to)
   unthreadGo to n w' g
def unthread (n:Nat) (g:GS) (a to:Nat):Option (Nat×GS):=do
 let w ←g.load a
 let r ←unthreadGo to n w g
 let g ←r.2.store a r.1
 some (r.1,g)
def walk:Nat→Nat→Nat→GS→Option GS
 |0,_,_,_=>none
 |n+1,a,back,g=>do
  let w ←g.load a
  let head:=wMark w true
  let k:=wTurned head
  if k<(g.size head).2 then do
   let g ←g.store a (wTurn head (k+1))
   let to ←g.load (a+1+k)
   if wIsImm to then walk n a back g
   else do
    let x ←g.load (wAt to)
    if wMarked x then walk n a back g
    else do
     let g ←g.store (a+1+k) back
     walk n (wAt to) (wPtr a) g
  else do
   let g ←g.store a head
   if back=1 then some g
   else do
    let f ←g.load (wAt back)
    let b ←g.load (wAt back+wTurned f)
    let g ←g.store (wAt back+wTurned f) (wPtr a)
    walk n (wAt back) b g
def mark (n:Nat) (g:GS) (w:Nat):Option GS:=
 if wIsImm w then some g
 else do
  let x ←g.load (wAt w)
  if wMarked x then some g else walk n (wAt w) 1 g
def markedGo (n:Nat):Nat→Nat→GS→Option GS
 |_,0,g=>some g
 |i,d+1,g=>do
  let w ←g.roots[i]?
  let g ←g.mark n w
  markedGo n (i+1) d g
def marked (n:Nat) (g:GS):Option GS:=markedGo n 0 g.roots.length g
def threadsGo (b:Nat):Nat→Nat→GS→Option GS
 |_,0,g=>some g
 |i,d+1,g=>do
  let g ←g.thread (b+i)
  threadsGo b (i+1) d g
def liveGo (f:Nat→Nat→Nat→GS→Option GS):Nat→Nat→Nat→GS→Option (Nat×GS)
 |0,_,_,_=>none
 |n+1,a,to,g=>
  if a<g.top then if a<to then none else do
   let head ←g.load a
   if wIsImm head&& !wMarked head then liveGo f n (a+(g.size head).1) to g
   else do
    let r ←g.unthread n a to
    let s:=(r.2.size r.1).1
    let g ←f a to r.1 r.2
    liveGo f n (a+s) (to+s) g
  else some (to,g)
def pass1 (a _to head:Nat) (g:GS):Option GS:=threadsGo (a+1) 0 (g.size head).2 g
def copyGo (a to:Nat):Nat→Nat→GS→Option GS
 |_,0,g=>some g
 |i,d+1,g=>do
  let w ←g.load (a+i)
  let g ←g.store (to+i) w
  copyGo a to (i+1) d g
def pass2 (a to head:Nat) (g:GS):Option GS:=do
 let s:=(g.size head).1
 let g ←g.store to (wTurn (wMark head false) 0)
 copyGo a to 1 (s-1) g
end GS
def closeGo (σ:Hp) (top:Nat):Nat→Nat→List Nat→Option (List Nat)
 |0,_,_=>none
 |n+1,a,hd=>
  if a<top then
   let x:=σ.w a
   let p:=σ.need (wShape x:Nat) (wLen x:Nat)
   if p.2=0∧x=wHead (wShape x) (wLen x)∧p.1≤(top:Int)-a then
    closeGo σ top n (a+p.1.toNat) (hd.set (a / 64) (bitOr ((hd[a / 64]?).getD 0) (a%64)))
   else none
  else some hd
def Hp.wholeAt (σ:Hp) (a:Nat):Bool:=
 decide (wShape (σ.w a)<σ.ly.length)&&decide (a<σ.ws.length)&&
 if σ.kind (wShape (σ.w a))=3 then
  decide (wLen (σ.w a)%8=0)||(decide (a+1+wLen (σ.w a) / 8<σ.ws.length)&&decide (σ.w (a+1+wLen (σ.w a) / 8) / 2^(wLen (σ.w a)%8*8)=0))
 else (List.range (wLen (σ.w a))).all fun i=>decide (a+1+i<σ.ws.length)&&σ.fits (σ.w (a+1+i))
def Hp.objects (σ:Hp):List Nat:=(List.range σ.top).filter σ.is
def Hp.whole (σ:Hp):Bool:=σ.objects.all σ.wholeAt
def Hp.close (σ:Hp) (n top:Nat):Option Hp:=
 if top≤σ.ws.length then do
  let hd ←closeGo σ top n 0 (List.replicate σ.hd.length 0)
  if ({ σ with hd:=hd,top:=top }:Hp).whole then some { σ with hd:=hd,top:=top,ws:=σ.ws.take top++List.replicate (σ.ws.length-top) 0 } else none
 else none
def collect (n:Nat) (h:Hp) (ws:List Nat):Option (List Nat×Hp):=
 if ws.all h.fits then do
  let g ←GS.marked n ⟨h,ws,h.top⟩
  let g ←GS.threadsGo h.ws.length 0 ws.length g
  let r ←GS.liveGo GS.pass1 n 0 0 g
  let r ←GS.liveGo GS.pass2 n 0 0 r.2
  let h' ←r.2.h.close n r.1
  some (r.2.roots,h')
 else none
section
variable {H H':IH} {lo:Nat} {im:Img} {A A':VA} {σ:Mst}
theorem VmAt.heap (h:VmAt H lo im A σ) {hp':Hp} (hh:HpAt H' A.hp hp') (f:Fx [A.hp.p,A.hp.wb,A.hp.hb] H H'):VmAt H' lo im A { σ with hp:=hp' }∧Nx H A H' A:=by
 have hnd:=h.nd
 have hown:=h.own
 have hin:∀x∈[A.hp.p,A.hp.wb,A.hp.hb],x∈A.own:=fun x hx=>by
  simp only [List.mem_cons,List.not_mem_nil,or_false] at hx
  rcases hx with rfl|rfl|rfl<;>simp [VA.own]
 have hs:SameB lo H H':=fun x hx=>f.2 x (Nat.lt_of_lt_of_le hx h.lo) fun hm=>by have:=(hown x (hin x hm)).1;omega
 simp only [VA.own,List.nodup_cons,List.mem_cons,not_or] at hnd
 obtain ⟨⟨p1,p2,p3,p4⟩,⟨q1,q2,q3⟩,⟨r1,r2⟩,s1,_⟩:=hnd
 have ho:∀x,x<H.next→x≠A.hp.p→x≠A.hp.wb→x≠A.hp.hb→H'.get x=H.get x:=fun x hx h1 h2 h3=>f.2 x hx (by simp [h1,h2,h3])
 have hr:∀x∈bOf A.hp.lv++bOf A.fv++bOf A.ov++frOwn A.fr,H'.get x=H.get x:=fun x hx=>ho x (hown x (by simp only [VA.own,List.mem_cons];exact .inr (.inr (.inr (.inr hx))))).2
  (fun e=>q3 (e▸hx)) (fun e=>r2 (e▸hx)) (fun e=>s1 (e▸hx))
 refine ⟨⟨?_,h.img.same hs,hh,h.inp.mono fun _ _ _ hb hx=>CellAt.same hx hs hb,h.col.mono fun _ _ _ hb hx=>CellAt.same hx hs hb,h.frs.same hs fun x hm=>hr x (by simp [hm]),h.fv.same fun x hm=>hr x (by simp [hm]),h.ov.same fun x hm=>hr x (by simp [hm]),h.nd,
  fun x hx=>⟨(hown x hx).1,Nat.lt_of_lt_of_le (hown x hx).2 f.1⟩,Nat.le_trans h.lo f.1,⟨h.ok.words,h.ok.stack,h.ok.fits,h.ok.fuel,h.ok.steps,h.ok.made,h.ok.swept,h.ok.out,h.ok.inn⟩,h.imok⟩,⟨rfl,f.mono fun x hx=>.inl (hin x hx),fun x hx=>.inl hx⟩⟩
 rw [ho A.p (hown A.p (by simp [VA.own])).2 p1 p2 p3];exact h.obj
theorem HeldAt.nx {u:Value} {ws:List Nat} (h:HeldAt H A.own u ws) (n:Nx H A H' A'):HeldAt H' A'.own u ws:=by
 rcases h with h|⟨b,o,c,cs,h1,h2,h3,h4,h5⟩
 ·exact .inl h
 ·refine .inr ⟨b,o,c,cs,h1,Nat.lt_of_lt_of_le h2 n.fx.1,fun hm=>?_,(n.fx.2 b h2 h3).trans h4,h5⟩
  rcases n.own b hm with h|h
  ·exact h3 h
  ·omega
theorem HeldAt.fr {own:List Nat} {u:Value} {ws:List Nat} (h:HeldAt H own u ws) (f:Fr H.next H H'):HeldAt H' own u ws:=by
 rcases h with h|⟨b,o,c,cs,h1,h2,h3,h4,h5⟩
 ·exact .inl h
 ·exact .inr ⟨b,o,c,cs,h1,Nat.lt_of_lt_of_le h2 f.1,h3,(f.2 b h2).trans h4,h5⟩
def HeldV (n:Nat):IH→VA→List Nat→Value→Prop:=fun H A ws u=>HeldAt H A.own u ws∧(∀w∈ws,w<18446744073709551616)∧ws.length=n
structure SweepOk (lo:Nat) (im:Img) (Sw:Swp):Prop where
 run:∀(H:IH) (A:VA) (σ:Mst) (u:Value) (ws:List Nat),VmAt H lo im A σ→HeldAt H A.own u ws→(∀w∈ws,w<18446744073709551616)→ws.length≤1000→σ.swept<σ.steps→Out lo im H A (cal J okAll 206 #[ptrV A.p,u] H) (HeldV ws.length) (Sw ws σ)
 ly:∀(ws:List Nat) (σ σ':Mst) (r:Except Int (List Nat)),Sw ws σ=some (r,σ')→σ'.hp.ly=σ.hp.ly
theorem SweepOk.none (lo:Nat) (im:Img):SweepOk lo im (fun _=>VM.fail):=
 ⟨fun _ _ _ _ _ _ _ _ _ _ _ _ h=>by simp [VM.fail] at h,fun _ _ _ _ h=>by simp [VM.fail] at h⟩
theorem Hp.need_ly {h h':Hp} (e:h'.ly=h.ly) (s n:Int):h'.need s n=h.need s n:=by unfold Hp.need Hp.kind;rw [e]
theorem Hp.need_ok {h:Hp} {s n k:Int} (hk:h.need s n=(k,0)):0≤s∧s<h.ly.length∧0≤n∧n≤65536∧1≤k∧(h.kind s.toNat≠3→k=1+n)∧k≤65537:=by
 unfold Hp.need at hk
 split at hk
 ·rename_i h1
  obtain ⟨h1,h2,h3⟩:=h1
  split at hk
  ·simp at hk
  ·split at hk
   ·simp at hk
   ·split at hk
    ·rename_i h4 h5 h6
     simp only [Prod.mk.injEq,and_true] at hk
     exact ⟨h1,h2,h3,by omega,by omega,fun h=>absurd h6 h,by omega⟩
    ·simp only [Prod.mk.injEq,and_true] at hk
     exact ⟨h1,h2,h3,by omega,by omega,fun _=>hk.symm,by omega⟩
 ·simp at hk
theorem m_alloc (h:VmAt H lo im A σ) {s n k:Int} (hk:σ.hp.need s n=(k,0)) (hr:¬σ.hp.room<k):
  ∃H',cal J okAll 209 #[A.hp.ptr,.int .i64 s,.int .i64 n] H=some (.ret (.tuple #[.int .i64 (σ.hp.top:Int),.int .i64 0]),H')∧VmAt H' lo im A { σ with hp:=σ.hp.put s.toNat n.toNat }∧Nx H A H' A:=by
 obtain ⟨h1,h2,h3,h4,h5,h6,_⟩:=Hp.need_ok hk
 have ht:=h.hp.ok.top
 unfold Hp.room at hr
 obtain ⟨s',rfl⟩:∃m:Nat,s=m:=⟨s.toNat,by omega⟩
 obtain ⟨n',rfl⟩:∃m:Nat,n=m:=⟨n.toNat,by omega⟩
 obtain ⟨k',rfl⟩:∃m:Nat,k=m:=⟨k.toNat,by omega⟩
 simp only [Int.toNat_natCast] at h6 ⊢
 obtain ⟨H',c1,c2,c3⟩:=c_Alloc h.hp s' n' k' (by omega) hk (by omega) (by omega) (by omega) (fun hh=>by have:=h6 hh;omega)
 obtain ⟨v1,v2⟩:=h.heap c2 c3
 exact ⟨H',c1,v1,v2⟩
end
theorem vKeepGo_same:∀{l:List Int} {nx:List Nat} {σ σ':Mst} {r:Except Int (List Nat)},vKeepGo l nx σ=some (r,σ')→σ'=σ
 | [],nx,σ,σ',r,h=>by simp only [vKeepGo,VM.ret,Option.some.injEq,Prod.mk.injEq] at h;exact h.2.symm
 |i::l,nx,σ,σ',r,h=>by
  unfold vKeepGo at h
  rcases VM.bind_cases h with ⟨w,σ1,y1,h2⟩|⟨k,y1,_⟩
  ·have:=vKeepGo_same h2
   have:=(vGet_same y1).1
   simp_all
  ·exact (vGet_same y1).1
theorem vKeep_same {l:List Int} {σ σ':Mst} {r:Except Int Unit} (h:vKeep l σ=some (r,σ')):∃fs,σ'= { σ with frames:=fs }∧(r=.ok ()→(σ.frames≠[]→fs≠[])):=by
 unfold vKeep at h
 cases hf:σ.frames with
 |nil=>rw [VM.bind_none (vTop_nil hf)] at h;simp at h
 |cons f fs=>
  rw [VM.bind_ok (vTop_eq hf)] at h
  rcases VM.bind_cases h with ⟨w,σ1,y1,h2⟩|⟨k,y1,h2⟩
  ·have e:=vKeepGo_same y1
   subst e
   simp only [VM.upd,hf,Option.some.injEq,Prod.mk.injEq] at h2
   exact ⟨_,h2.2.symm,fun _ _=>by simp⟩
  ·have e:=vKeepGo_same y1
   subst e
   exact ⟨f::fs,by rw [←hf],fun _ _=>by simp⟩
def MakeV (n:Nat):IH→VA→(Nat×List Nat)→Value→Prop:=fun H A r v=>∃u,v=.tuple #[.int .i64 (r.1:Int),u]∧HeldV n H A r.2 u∧r.1≤65536
section
variable {H:IH} {lo:Nat} {im:Img} {A:VA} {σ:Mst}
theorem vbnd {α β:Type} (x:VM α) (f:α→VM β) (σ:Mst):(x >>= f) σ=VM.bind x f σ:=rfl
theorem HeldAt.val {own:List Nat} {u:Value} {ws:List Nat} (h:HeldAt H own u ws):∃a n c,u=.slice a n c:=by
 rcases h with ⟨h,_⟩|⟨b,o,c,cs,h,_⟩
 ·exact ⟨_,_,_,h⟩
 ·exact ⟨_,_,_,h⟩
theorem m_make {Sw:Swp} (hS:SweepOk lo im Sw) (h:VmAt H lo im A σ) (s n:Int) (hn:n≤9223372036854775000) {v:Value} {l:List Int} (hl:IntsAt H lo v l) (hlen:l.length≤1000000) {u:Value} {ws:List Nat} (hu:HeldAt H A.own u ws) (hw:∀w∈ws,w<18446744073709551616) (hwl:ws.length≤1000) (hst:σ.made<σ.steps∧σ.swept<σ.steps):
  Out lo im H A (cal J okAll 165 #[ptrV A.p,.int .i64 s,.int .i64 n,v,u] H) (MakeV ws.length) (vMake Sw s n l ws σ):=by
 intro r σ' hx
 rw [cal165 _ _ (by simp)]
 unfold vMake at hx
 obtain ⟨HN,fN,cN⟩:=c_Need h.hp s n hn
 have hN:=h.fr fN
 have ho:=h.obj
 have m1:=c_must (H:=HN) (ptrV A.p) true
 have m2:=c_must (H:=HN) (ptrV A.p) false
 have m3:=fun (H:IH)=>c_end (H:=H) (ptrV A.p) 4
 have lN:IntsAt HN lo v l:=hl.same (fun x hx=>fN.2 x (Nat.lt_of_lt_of_le hx h.lo))
 obtain ⟨va,vc,hv,_⟩:=id hl
 obtain ⟨ua,un,uc,hus⟩:=hu.val
 simp only [VA.cells,ptrV] at ho
 simp only [ptrV] at m1 m2 m3
 simp only [HpA.ptr] at cN
 rcases VM.bind_cases hx with ⟨p,σ1,y1,hx1⟩|⟨k,y1,_⟩
 rotate_left
 ·obtain ⟨y2,_⟩:=VM.get_cases y1
  simp at y2
 obtain ⟨y2,hσ1⟩:=VM.get_cases y1
 rw [hσ1] at hx1
 simp only [Except.ok.injEq] at y2
 rw [←y2] at cN
 have hneed:=y2.symm
 obtain ⟨pk,pe⟩:=p
 dsimp only at cN hx1
 clear y1 y2 hx hσ1 σ1
 rcases VM.bind_cases hx1 with ⟨_,σ2,z1,hx2⟩|⟨kk,z1,rfl⟩
 rotate_left
 ·obtain ⟨rfl,z2⟩:=vMust_cases z1
  rcases z2 with ⟨_,z2⟩|⟨z2,z3⟩
  ·simp at z2
  ·simp only [Except.error.injEq] at z3
   subst z3
   exact ⟨HN,A,.pan (overV 6),by simp [C165,regsOf,fin,iresult1,ptrV,hv,hus,ho,cN,z2,m2],hN,⟨rfl,Fx.of_fr fN,fun x hx=>.inl hx⟩,rfl⟩
 obtain ⟨hσ2,z2⟩:=vMust_cases z1
 rw [hσ2] at hx2
 clear hσ2
 rcases z2 with ⟨z2,_⟩|⟨_,z2⟩
 rotate_left
 ·simp at z2
 have hpe:pe=0:=by simpa using z2
 subst hpe
 clear z1 z2 hx1 σ2
 rcases VM.bind_cases hx2 with ⟨_,σ2,k1,hx3⟩|⟨kk,k1,rfl⟩
 rotate_left
 ·obtain ⟨H2,A2,e2,c2,h2,n2,rv2⟩:=m_keep hN lN hlen _ _ k1
  have rv2:e2=.pan (overV kk):=rv2
  subst rv2
  simp only [ptrV] at c2
  rw [hv] at c2
  exact ⟨H2,A2,.pan (overV kk),by simp [C165,regsOf,fin,iresult1,ptrV,hv,hus,ho,cN,m1,c2],h2,(Nx.trans ⟨rfl,Fx.of_fr fN,fun x hx=>.inl hx⟩ n2),rfl⟩
 obtain ⟨H2,A2,e2,c2,h2,n2,rv2⟩:=m_keep hN lN hlen _ _ k1
 obtain ⟨u2,rfl,rfl⟩:=rv2
 have nx2:Nx H A H2 A2:=Nx.trans ⟨rfl,Fx.of_fr fN,fun x hx=>.inl hx⟩ n2
 obtain ⟨fs,hσ2,_⟩:=vKeep_same k1
 have p2:A2.p=A.p:=nx2.p
 obtain ⟨u1,q1⟩:=h2.scal (σ':={ σ2 with made:=σ2.made+1 }) ⟨rfl,rfl,rfl⟩ rfl rfl ⟨h2.ok.words,h2.ok.stack,h2.ok.fits,h2.ok.fuel,h2.ok.steps,by rw [hσ2];exact hst.1,h2.ok.swept,h2.ok.out,h2.ok.inn⟩
 have hmle:σ2.made≤16777216:=by have:=h2.ok.made;have:=h2.ok.steps;have:=h2.ok.fuel;omega
 have hsw3:σ2.swept<σ2.steps:=by rw [hσ2];exact hst.2
 have nx3:=nx2.trans q1
 have o2:=h2.obj
 rw [p2] at o2 u1 q1 nx3
 obtain ⟨H3,hH3⟩:∃H3,H3=H2.set A.p (.cells (A2.cells { σ2 with made:=σ2.made+1 }) 84 false):=⟨_,rfl⟩
 rw [←hH3] at u1 q1 nx3
 have o3:=u1.obj
 rw [p2] at o3
 have w1:IntKind.i64.wrap ((σ2.made:Int)+1)=(σ2.made:Int)+1:=by rw [wrapI];omega
 obtain ⟨ca,cc,hcv,_⟩:=id u1.col
 change A2.cv=.slice ca σ2.collect.length cc at hcv
 simp only [VA.cells,ptrV,Int.natCast_add,Int.natCast_one,Int.cast_ofNat_Int] at o2 o3 hH3
 rw [hcv] at o2 o3 hH3
 rcases VM.bind_cases hx3 with ⟨sw,σa,y1,hx4⟩|⟨k,y1,_⟩
 rotate_left
 ·obtain ⟨y2,_⟩:=VM.get_cases y1
  simp at y2
 obtain ⟨y2,hσa⟩:=VM.get_cases y1
 rw [hσa] at hx4
 simp only [Except.ok.injEq] at y2
 clear y1 hx3 hσa
 rw [VM.bind_ok (show VM.upd (fun σ=>{ σ with made:=σ.made+1 }) σ2=some (.ok (),{ σ2 with made:=σ2.made+1 }) from rfl)] at hx4
 obtain ⟨σ3,hσ3⟩:∃σ3,σ3= { σ2 with made:=σ2.made+1 }:=⟨_,rfl⟩
 rw [←hσ3] at u1 hx4
 have hly3:σ3.hp.ly=σ.hp.ly:=by rw [hσ3,hσ2]
 have hsw3:σ3.swept<σ3.steps:=by rw [hσ3];exact hsw3
 have hcl3:σ3.collect=σ2.collect:=by rw [hσ3]
 simp only [ptrV] at c2
 rw [hv] at c2
 have D:(¬σ2.made<σ2.collect.length∧sw=false)∨(σ2.made<σ2.collect.length∧∃cb co ccs cpr,ca=some ⟨cb,co,none⟩∧H3.get cb=some (.cells ccs 4 cpr)∧ccs[co+σ2.made]?=some (.bool sw)):=by
  by_cases hlt:σ2.made<σ2.collect.length
  ·right
   rw [List.getElem?_eq_getElem hlt,Option.getD_some] at y2
   obtain ⟨b',o',c',e1,e2,e3,e4⟩:=u1.col.get (i:=σ2.made) (x:=sw) (by rw [hcl3,List.getElem?_eq_getElem hlt,y2])
   rw [hcv] at e1
   simp only [Value.slice.injEq] at e1
   obtain ⟨ccs,cpr,j1,j2⟩:=e4
   rw [Nat.mul_one] at j2
   exact ⟨hlt,b',o',ccs,cpr,e1.1,j1,j2⟩
  ·left
   rw [List.getElem?_eq_none (by omega),Option.getD_none] at y2
   exact ⟨hlt,y2⟩
 have hu3:=hu.nx nx3
 obtain ⟨A3,hA3⟩:∃A3,A3=A2:=⟨_,rfl⟩
 rw [←hA3] at u1 hu3 nx3
 have p3:A3.p=A.p:=by rw [hA3];exact p2
 have hp3:A2.hp.p=A3.hp.p:=by rw [hA3]
 have p2':A3.p=A.p:=p3
 cases sw with
 |true=>
  rw [if_pos rfl] at hx4
  obtain ⟨hlt,cb,co,ccs,cpr,rfl,j1,j2⟩:σ2.made<σ2.collect.length∧∃cb co ccs cpr,ca=some ⟨cb,co,none⟩∧H3.get cb=some (.cells ccs 4 cpr)∧ccs[co+σ2.made]?=some (.bool true):=by
   rcases D with ⟨_,hf⟩|D
   ·simp at hf
   ·exact D
  rcases VM.bind_cases hx4 with ⟨held,σ4,s1,hx5⟩|⟨k,s1,rfl⟩
  rotate_left
  ·obtain ⟨H4,A4,e4,c4,h4,n4,rv4⟩:=hS.run H3 A3 σ3 u ws u1 hu3 hw hwl hsw3 _ _ s1
   have rv4:e4=.pan (overV k):=rv4
   subst rv4
   rw [p3] at c4
   simp only [ptrV,hus] at c4
   exact ⟨H4,A4,.pan (overV k),by simp [C165,regsOf,fin,iresult1,ptrV,hv,hus,ho,cN,m1,c2,o2,w1,istore,Value.cells,plain1,overlay,←hH3,o3,iindexAddr,hlt,j1,j2,c4],h4,nx3.trans n4,rfl⟩
  obtain ⟨H4,A4,e4,c4,h4,n4,rv4⟩:=hS.run H3 A3 σ3 u ws u1 hu3 hw hwl hsw3 _ _ s1
  obtain ⟨uh,rfl,hh1,hh2,hh3⟩:=rv4
  have hly4:=(hS.ly _ _ _ _ s1).trans hly3
  rw [p3] at c4
  have p4:A4.p=A.p:=n4.p.trans p3
  have o4:=h4.obj
  rw [p4] at o4
  obtain ⟨ha,hn',hc',hue⟩:=hh1.val
  subst hue
  have z1:=c_Size h4.hp
  have z2:=c_Top h4.hp
  have ht4:=h4.hp.ok.top
  have hs4:=h4.hp.ok.ws
  have w2:IntKind.i64.wrap ((σ4.hp.ws.length:Int)-(σ4.hp.top:Int))=(σ4.hp.ws.length:Int)-(σ4.hp.top:Int):=by rw [wrapI];omega
  simp only [VA.cells,ptrV] at o4
  simp only [ptrV,hus] at c4
  simp only [HpA.ptr] at z1 z2
  rcases VM.bind_cases hx5 with ⟨full,σ5,f1,hx6⟩|⟨k,f1,_⟩
  rotate_left
  ·obtain ⟨f2,_⟩:=VM.get_cases f1
   simp at f2
  obtain ⟨f2,rfl⟩:=VM.get_cases f1
  simp only [Except.ok.injEq] at f2
  unfold Hp.room at f2
  cases full with
  |true=>
   rw [if_pos rfl] at hx6
   have f3:=of_decide_eq_true f2.symm
   have:r=.error 4∧σ'=σ5:=by
    rcases VM.bind_cases hx6 with ⟨held2,σ6,g1,hx7⟩|⟨k,g1,rfl⟩
    ·simp [vbnd,VM.bind,VM.ret,VM.get,vEnd,Hp.room,f3] at g1
    ·simp [vbnd,VM.bind,VM.ret,VM.get,vEnd,Hp.room,f3] at g1
     exact ⟨by rw [g1.1],g1.2.symm⟩
   obtain ⟨rfl,rfl⟩:=this
   exact ⟨H4,A4,.pan (overV 4),by simp [C165,regsOf,fin,iresult1,ptrV,hv,hus,ho,cN,m1,c2,o2,w1,istore,Value.cells,plain1,overlay,←hH3,o3,iindexAddr,hlt,j1,j2,c4,o4,z1,z2,w2,f3,m3],h4,nx3.trans n4,rfl⟩
  |false=>
   rw [if_neg (by simp),VM.bind_ok (show VM.ret held σ5=some (.ok held,σ5) from rfl)] at hx6
   have f3:=of_decide_eq_false f2.symm
   simp only [vbnd,VM.bind,VM.ret,VM.get,VM.upd,Option.some.injEq,Prod.mk.injEq] at hx6
   obtain ⟨rfl,rfl⟩:=hx6
   obtain ⟨H5,c5,h5,n5⟩:=m_alloc h4 (s:=s) (n:=n) (k:=pk) (by rw [Hp.need_ly hly4];exact hneed) (by unfold Hp.room;exact f3)
   simp only [HpA.ptr] at c5
   exact ⟨H5,A4,.ret (.tuple #[.int .i64 (σ5.hp.top:Int),.slice ha hn' hc']),by simp [C165,regsOf,fin,iresult1,ptrV,hv,hus,ho,cN,m1,c2,o2,w1,istore,Value.cells,plain1,overlay,←hH3,o3,iindexAddr,hlt,j1,j2,c4,o4,z1,z2,w2,f3,c5],h5,(nx3.trans n4).trans n5,_,rfl,_,rfl,⟨hh1.nx n5,hh2,hh3⟩,by omega⟩
 |false=>
  rw [if_neg (by simp),VM.bind_ok (show VM.ret ws σ3=some (.ok ws,σ3) from rfl)] at hx4
  have z1:=c_Size u1.hp
  have z2:=c_Top u1.hp
  have ht4:=u1.hp.ok.top
  have hs4:=u1.hp.ok.ws
  have w2:IntKind.i64.wrap ((σ3.hp.ws.length:Int)-(σ3.hp.top:Int))=(σ3.hp.ws.length:Int)-(σ3.hp.top:Int):=by rw [wrapI];omega
  simp only [HpA.ptr] at z1 z2
  rw [←hp3] at z1 z2
  rcases VM.bind_cases hx4 with ⟨full,σ5,f1,hx6⟩|⟨k,f1,_⟩
  rotate_left
  ·obtain ⟨f2,_⟩:=VM.get_cases f1
   simp at f2
  obtain ⟨f2,rfl⟩:=VM.get_cases f1
  simp only [Except.ok.injEq] at f2
  unfold Hp.room at f2
  cases full with
  |false=>
   rw [if_neg (by simp),VM.bind_ok (show VM.ret ws σ5=some (.ok ws,σ5) from rfl)] at hx6
   have f3:=of_decide_eq_false f2.symm
   simp only [vbnd,VM.bind,VM.ret,VM.get,VM.upd,Option.some.injEq,Prod.mk.injEq] at hx6
   obtain ⟨rfl,rfl⟩:=hx6
   obtain ⟨H5,c5,h5,n5⟩:=m_alloc u1 (s:=s) (n:=n) (k:=pk) (by rw [Hp.need_ly hly3];exact hneed) (by unfold Hp.room;exact f3)
   simp only [HpA.ptr] at c5
   rw [←hp3] at c5
   refine ⟨H5,A3,.ret (.tuple #[.int .i64 (σ5.hp.top:Int),u]),?_,h5,nx3.trans n5,_,rfl,_,rfl,⟨hu3.nx n5,hw,rfl⟩,by omega⟩
   rcases D with ⟨hlt,_⟩|⟨hlt,cb,co,ccs,cpr,rfl,j1,j2⟩
   ·simp [C165,regsOf,fin,iresult1,ptrV,hv,hus,ho,cN,m1,c2,o2,w1,istore,Value.cells,plain1,overlay,←hH3,o3,iindexAddr,hlt,z1,z2,w2,f3,c5]
   ·simp [C165,regsOf,fin,iresult1,ptrV,hv,hus,ho,cN,m1,c2,o2,w1,istore,Value.cells,plain1,overlay,←hH3,o3,iindexAddr,hlt,j1,j2,z1,z2,w2,f3,c5]
  |true=>
   rw [if_pos rfl] at hx6
   have f3:=of_decide_eq_true f2.symm
   have key:(∃k,Sw ws σ5=some (.error k,σ')∧r=.error k)∨(∃held σ4,Sw ws σ5=some (.ok held,σ4)∧((σ4.hp.room<pk∧r=.error 4∧σ'=σ4)∨(¬σ4.hp.room<pk∧r=.ok (σ4.hp.top,held)∧σ'= { σ4 with hp:=σ4.hp.put s.toNat n.toNat }))):=by
    rcases VM.bind_cases hx6 with ⟨held2,σ6,g1,hx7⟩|⟨k,g1,rfl⟩
    ·rcases VM.bind_cases g1 with ⟨held,σ4,s1,g2⟩|⟨k,s1,e⟩
     ·rw [if_neg (by simp)] at s1
      right
      refine ⟨held,σ4,s1,.inr ?_⟩
      by_cases hr:σ4.hp.room<pk
      ·simp [vbnd,VM.bind,VM.ret,VM.get,vEnd,hr] at g2
      ·simp [vbnd,VM.bind,VM.ret,VM.get,vEnd,hr] at g2
       obtain ⟨rfl,rfl⟩:=g2
       simp only [vbnd,VM.bind,VM.ret,VM.get,VM.upd,Option.some.injEq,Prod.mk.injEq] at hx7
       exact ⟨hr,hx7.1.symm,hx7.2.symm⟩
     ·simp at e
    ·rcases VM.bind_cases g1 with ⟨held,σ4,s1,g2⟩|⟨k',s1,e⟩
     ·rw [if_neg (by simp)] at s1
      right
      refine ⟨held,σ4,s1,.inl ?_⟩
      by_cases hr:σ4.hp.room<pk
      ·simp [vbnd,VM.bind,VM.ret,VM.get,vEnd,hr] at g2
       exact ⟨hr,by rw [g2.1],g2.2.symm⟩
      ·simp [vbnd,VM.bind,VM.ret,VM.get,vEnd,hr] at g2
     ·rw [if_neg (by simp)] at s1
      simp only [Except.error.injEq] at e
      subst e
      exact .inl ⟨_,s1,rfl⟩
   rcases key with ⟨k,s1,rfl⟩|⟨held,σ4,s1,key⟩
   ·obtain ⟨H4,A4,e4,c4,h4,n4,rv4⟩:=hS.run H3 A3 σ5 u ws u1 hu3 hw hwl hsw3 _ _ s1
    have rv4:e4=.pan (overV k):=rv4
    subst rv4
    rw [p3] at c4
    simp only [ptrV,hus] at c4
    refine ⟨H4,A4,.pan (overV k),?_,h4,nx3.trans n4,rfl⟩
    rcases D with ⟨hlt,_⟩|⟨hlt,cb,co,ccs,cpr,rfl,j1,j2⟩
    ·simp [C165,regsOf,fin,iresult1,ptrV,hv,hus,ho,cN,m1,c2,o2,w1,istore,Value.cells,plain1,overlay,←hH3,o3,iindexAddr,hlt,z1,z2,w2,f3,c4]
    ·simp [C165,regsOf,fin,iresult1,ptrV,hv,hus,ho,cN,m1,c2,o2,w1,istore,Value.cells,plain1,overlay,←hH3,o3,iindexAddr,hlt,j1,j2,z1,z2,w2,f3,c4]
   ·obtain ⟨H4,A4,e4,c4,h4,n4,rv4⟩:=hS.run H3 A3 σ5 u ws u1 hu3 hw hwl hsw3 _ _ s1
    obtain ⟨uh,rfl,hh1,hh2,hh3⟩:=rv4
    have hly4:=(hS.ly _ _ _ _ s1).trans hly3
    rw [p3] at c4
    have p4:A4.p=A.p:=n4.p.trans p3
    have o4:=h4.obj
    rw [p4] at o4
    obtain ⟨ha,hn',hc',hue⟩:=hh1.val
    subst hue
    have z3:=c_Size h4.hp
    have z4:=c_Top h4.hp
    have ht4:=h4.hp.ok.top
    have hs4:=h4.hp.ok.ws
    have w3:IntKind.i64.wrap ((σ4.hp.ws.length:Int)-(σ4.hp.top:Int))=(σ4.hp.ws.length:Int)-(σ4.hp.top:Int):=by rw [wrapI];omega
    simp only [VA.cells,ptrV] at o4
    simp only [ptrV,hus] at c4
    simp only [HpA.ptr] at z3 z4
    unfold Hp.room at key
    rcases key with ⟨f4,rfl,rfl⟩|⟨f4,rfl,rfl⟩
    ·refine ⟨H4,A4,.pan (overV 4),?_,h4,nx3.trans n4,rfl⟩
     rcases D with ⟨hlt,_⟩|⟨hlt,cb,co,ccs,cpr,rfl,j1,j2⟩
     ·simp [C165,regsOf,fin,iresult1,ptrV,hv,hus,ho,cN,m1,c2,o2,w1,istore,Value.cells,plain1,overlay,←hH3,o3,iindexAddr,hlt,z1,z2,w2,f3,c4,o4,z3,z4,w3,f4,m3]
     ·simp [C165,regsOf,fin,iresult1,ptrV,hv,hus,ho,cN,m1,c2,o2,w1,istore,Value.cells,plain1,overlay,←hH3,o3,iindexAddr,hlt,j1,j2,z1,z2,w2,f3,c4,o4,z3,z4,w3,f4,m3]
    ·obtain ⟨H5,c5,h5,n5⟩:=m_alloc h4 (s:=s) (n:=n) (k:=pk) (by rw [Hp.need_ly hly4];exact hneed) (by unfold Hp.room;exact f4)
     simp only [HpA.ptr] at c5
     refine ⟨H5,A4,.ret (.tuple #[.int .i64 (σ4.hp.top:Int),.slice ha hn' hc']),?_,h5,(nx3.trans n4).trans n5,_,rfl,_,rfl,⟨hh1.nx n5,hh2,hh3⟩,by omega⟩
     rcases D with ⟨hlt,_⟩|⟨hlt,cb,co,ccs,cpr,rfl,j1,j2⟩
     ·simp [C165,regsOf,fin,iresult1,ptrV,hv,hus,ho,cN,m1,c2,o2,w1,istore,Value.cells,plain1,overlay,←hH3,o3,iindexAddr,hlt,z1,z2,w2,f3,c4,o4,z3,z4,w3,f4,c5]
     ·simp [C165,regsOf,fin,iresult1,ptrV,hv,hus,ho,cN,m1,c2,o2,w1,istore,Value.cells,plain1,overlay,←hH3,o3,iindexAddr,hlt,j1,j2,z1,z2,w2,f3,c4,o4,z3,z4,w3,f4,c5]
end
section
variable {H:IH} {lo:Nat} {im:Img} {A:VA} {σ σ':Mst}
theorem m_object (h:VmAt H lo im A σ) (i k1 k2:Int) {r:Except Int (Nat×Nat)} (hx:vObject i k1 k2 σ=some (r,σ')):
  σ'=σ∧((∃p,r=.ok p∧p.1<9223372036854775808∧p.2<1048576∧cal J okAll 168 #[ptrV A.p,.int .i64 i,.int .i64 k1,.int .i64 k2] H=some (.ret (.tuple #[.int .i64 (p.1:Int),.int .i64 (p.2:Int)]),H))∨
   (r=.error 6∧cal J okAll 168 #[ptrV A.p,.int .i64 i,.int .i64 k1,.int .i64 k2] H=some (.pan (overV 6),H))):=by
 rw [cal168 _ _ (by simp)]
 have ho:=h.obj
 have hm1:=c_must (H:=H) (ptrV A.p) true
 have hm2:=c_must (H:=H) (ptrV A.p) false
 simp only [VA.cells,ptrV] at ho
 simp only [ptrV] at hm1 hm2
 unfold vObject at hx
 rcases VM.bind_cases hx with ⟨w,σ1,h1,h2⟩|⟨k,h1,h2⟩
 rotate_left
 ·obtain ⟨rfl,h3⟩:=rd_slot h h1
  rcases h3 with ⟨_,_,_,e1,_⟩|⟨e1,e2⟩
  ·simp at e1
  ·simp only [Except.error.injEq] at e1
   subst e1
   simp only [ptrV] at e2
   exact ⟨rfl,.inr ⟨h2,by simp [C168,regsOf,fin,iresult1,ptrV,e2]⟩⟩
 obtain ⟨rfl,h3⟩:=rd_slot h h1
 rcases h3 with ⟨w',b,o,e1,e2,e3,e4⟩|⟨e1,_⟩
 rotate_left
 ·simp at e1
 simp only [Except.ok.injEq] at e1
 subst e1
 have hi:=c_IsImm H w e2
 have ha:=c_At H w e2
 simp only [ptrV] at e3
 rcases VM.bind_cases h2 with ⟨u,σ2,h3,h4⟩|⟨k,h3,h4⟩
 rotate_left
 ·obtain ⟨rfl,h5⟩:=vMust_cases h3
  rcases h5 with ⟨_,h5⟩|⟨h5,h6⟩
  ·simp at h5
  ·simp only [Except.error.injEq] at h6
   subst h6
   have h5:wIsImm w=true:=by simpa using h5
   rw [h5] at hi
   exact ⟨rfl,.inr ⟨h4,by simp [C168,regsOf,fin,iresult1,ptrV,e3,e4,hi,hm2]⟩⟩
 obtain ⟨rfl,h5⟩:=vMust_cases h3
 rcases h5 with ⟨h5,_⟩|⟨_,h5⟩
 rotate_left
 ·simp at h5
 have h5:wIsImm w=false:=by simpa using h5
 rw [h5] at hi
 have hat:wAt w<9223372036854775808:=by unfold wAt;omega
 have hsh:=c_HShape h.hp (wAt w:Nat)
 have hln:=c_HLen h.hp (wAt w:Nat)
 have hc0:(0:Int)≤((wAt w:Nat):Int):=by omega
 simp only [HpA.ptr,Int.toNat_natCast,hc0,true_and] at hsh hln
 rcases VM.bind_cases h4 with ⟨kd,σ3,g1,g2⟩|⟨k,g1,_⟩
 rotate_left
 ·obtain ⟨y2,_⟩:=VM.get_cases g1
  simp at y2
 obtain ⟨y2,rfl⟩:=VM.get_cases g1
 simp only [Except.ok.injEq] at y2
 have hkd:=c_Kind h.hp ((σ3.hp.shapeOf (wAt w):Nat):Int)
 rw [←y2] at hkd
 simp only [HpA.ptr] at hkd
 have hsv:∃e,(if σ3.hp.is (wAt w)=true then Value.tuple #[.int .i64 (wShape (σ3.hp.w (wAt w)):Nat),.int .i64 0] else .tuple #[.int .i64 0,.int .i64 1])=.tuple #[.int .i64 ((σ3.hp.shapeOf (wAt w):Nat):Int),.int .i64 e]:=by
  unfold Hp.shapeOf
  split
  ·exact ⟨0,rfl⟩
  ·exact ⟨1,rfl⟩
 have hlv:∃e,(if σ3.hp.is (wAt w)=true then Value.tuple #[.int .i64 (wLen (σ3.hp.w (wAt w)):Nat),.int .i64 0] else .tuple #[.int .i64 0,.int .i64 1])=.tuple #[.int .i64 ((σ3.hp.lenOf (wAt w):Nat):Int),.int .i64 e]:=by
  unfold Hp.lenOf
  split
  ·exact ⟨0,rfl⟩
  ·exact ⟨1,rfl⟩
 obtain ⟨e5,hsv⟩:=hsv
 obtain ⟨e6,hlv⟩:=hlv
 rw [hsv] at hsh
 rw [hlv] at hln
 rcases VM.bind_cases g2 with ⟨_,σ4,f1,f2⟩|⟨k,f1,f2⟩
 ·obtain ⟨rfl,f3⟩:=vMust_cases f1
  rcases f3 with ⟨f3,_⟩|⟨_,f3⟩
  rotate_left
  ·simp at f3
  simp only [vbnd,VM.bind,VM.get,VM.ret,Option.some.injEq,Prod.mk.injEq] at f2
  obtain ⟨rfl,rfl⟩:=f2
  have hl20:σ4.hp.lenOf (wAt w)<1048576:=by unfold Hp.lenOf wLen;split<;>omega
  refine ⟨rfl,.inl ⟨_,rfl,hat,hl20,?_⟩⟩
  cases d1:decide (kd=k1) with
  |true=>simp [C168,regsOf,fin,iresult1,ptrV,e3,e4,hi,hm1,ha,ho,hsh,hkd,d1,hln]
  |false=>
   have d2:decide (kd=k2)=true:=by simpa [d1] using f3
   simp [C168,regsOf,fin,iresult1,ptrV,e3,e4,hi,hm1,ha,ho,hsh,hkd,d1,d2,hln]
 ·obtain ⟨rfl,f3⟩:=vMust_cases f1
  rcases f3 with ⟨_,f3⟩|⟨f3,f4⟩
  ·simp at f3
  simp only [Except.error.injEq] at f4
  subst f4
  simp only [Bool.or_eq_false_iff] at f3
  refine ⟨rfl,.inr ⟨f2,?_⟩⟩
  simp [C168,regsOf,fin,iresult1,ptrV,e3,e4,hi,hm1,hm2,ha,ho,hsh,hkd,f3.1,f3.2]
end
section
variable {H:IH} {lo:Nat} {im:Img} {A:VA} {σ:Mst}
theorem HeldAt.get {own:List Nat} {u:Value} {ws:List Nat} (h:HeldAt H own u ws) {i:Nat} (hi:i<ws.length):∃b o c cs,u=.slice (some ⟨b,o,none⟩) ws.length c∧H.get b=some (.cells cs 62 false)∧cs[o+i]?=some (.int .u64 (ws[i]:Nat)):=by
 rcases h with ⟨_,rfl⟩|⟨b,o,c,cs,h1,_,_,h4,h5⟩
 ·simp at hi
 ·exact ⟨b,o,c,cs,h1,h4,h5 i hi⟩
end
theorem RV.unit {H':IH} {A':VA} {r:Except Int Unit} {e:IE} (h:RV UnitV H' A' r e):e=.ret (.tuple #[])∨∃k,e=.pan (overV k):=by
 cases r with
 |ok a=>obtain ⟨u,rfl,rfl⟩:=h;exact .inl rfl
 |error k=>exact .inr ⟨k,h⟩
theorem vGood_cases {σ σ':Mst} {r:Except Int Unit} (h:vGood σ=some (r,σ')):σ'=σ∧r=.ok ()∧σ.hp.good=true:=by
 unfold vGood at h
 split at h
 ·rename_i hg
  simp only [Option.some.injEq,Prod.mk.injEq] at h
  exact ⟨h.2.symm,h.1.symm,hg⟩
 ·simp at h
section
variable {lo:Nat} {im:Img}
end
section
variable {lo:Nat} {im:Img}
end
section
variable {lo:Nat} {im:Img}
end
section
variable {lo:Nat} {im:Img}
theorem WsAt.held {H1:IH} {n0:Nat} {own:List Nat} {u:Value} {ws:List Nat} (h:WsAt H1 n0 u ws) (ho:∀x∈own,x<n0):HeldAt H1 own u ws:=by
 rcases h with h|⟨b,h1,h2,h3,h4⟩
 ·exact .inl h
 ·exact .inr ⟨b,0,capU,_,h3,h2,fun hm=>by have:=ho b hm;omega,h4,fun i hi=>by rw [Nat.zero_add];exact u64c_get ws i hi⟩
def vLen (x:Ins):VM Unit:=do
 let o ←vObject x.a 2 3
 vSetInt x.d (o.2:Nat)
theorem m_len (x:Ins) (hop:x.op=11):InsOut lo im 110 x (vLen x):=by
 intro H A σ b o h hblo hx hxl hne hst r σ' hr
 obtain ⟨cs,pr,vl,vm,vv,g0,g1,g2,g3,g4,g5,g6,g7,g8,g9,g10,g11,g12⟩:=hx.ex
 rw [cal110 _ _ (by simp)]
 rw [hop] at g1
 have ho:=h.obj
 simp only [VA.cells,ptrV] at ho
 unfold vLen at hr
 rcases VM.bind_cases hr with ⟨p,σ1,y1,hr2⟩|⟨k,y1,rfl⟩
 rotate_left
 ·obtain ⟨rfl,y2⟩:=m_object h _ _ _ y1
  rcases y2 with ⟨_,y2,_⟩|⟨y2,y3⟩
  ·simp at y2
  ·simp only [Except.error.injEq] at y2
   subst y2
   simp only [ptrV] at y3
   exact ⟨H,A,.pan (overV 6),by simp [C110,regsOf,fin,iresult1,ptrV,g0,g1,g3,y3],h,.refl _ _,rfl⟩
 obtain ⟨rfl,y2⟩:=m_object h _ _ _ y1
 rcases y2 with ⟨p',y2,_,y3,y4⟩|⟨y2,_⟩
 rotate_left
 ·simp at y2
 simp only [Except.ok.injEq] at y2
 subst y2
 obtain ⟨at_,ln⟩:=p
 simp only [ptrV] at y4 y3 hr2
 obtain ⟨H1,A1,e,c1,h1,n1,rv1⟩:=m_setInt h x.d (ln:Nat) (by omega) _ _ hr2
 have hw:IntKind.i64.wrap (ln:Int)=(ln:Int):=by rw [wrapI];omega
 refine ⟨H1,A1,e,?_,h1,n1,rv1⟩
 simp only [ptrV] at c1
 rcases rv1.unit with rfl|⟨k,rfl⟩<;>simp [C110,regsOf,fin,iresult1,ptrV,g0,g1,g2,g3,y4,hw,c1]
end
def rootV (rb n:Nat):Value:=if n=0 then .slice none 0 0 else .slice (some ⟨rb,0,none⟩) n capU
structure GsAt (H:IH) (a:HpA) (sp rb:Nat) (g:GS):Prop where
 hp:HpAt H a g.h
 obj:H.get sp=some (.cells [a.ptr,rootV rb g.roots.length,.int .i64 (g.top:Int)] 294 false)
 rt:0<g.roots.length→H.get rb=some (.cells (u64c g.roots) 62 false)
 wlt:∀w∈g.roots,w<18446744073709551616
 ne:sp≠a.wb∧rb≠a.wb∧rb≠sp∧rb≠a.p∧rb≠a.hb∧∀lb l c,a.lv=.slice (some ⟨lb,0,none⟩) l c→rb≠lb
 lt:sp<H.next∧(0<g.roots.length→rb<H.next)
 len:g.roots.length≤1000000
 top:g.top≤65536
section
variable {H:IH} {a:HpA} {sp rb:Nat} {g g':GS}
theorem GsAt.fr (h:GsAt H a sp rb g) {H':IH} (f:Fr H.next H H'):GsAt H' a sp rb g:=
 ⟨h.hp.fr h.hp.lt f,(f.2 _ h.lt.1).trans h.obj,fun hl=>(f.2 _ (h.lt.2 hl)).trans (h.rt hl),h.wlt,h.ne,⟨Nat.lt_of_lt_of_le h.lt.1 f.1,fun hl=>Nat.lt_of_lt_of_le (h.lt.2 hl) f.1⟩,h.len,h.top⟩
theorem GS.load_lt (h:GsAt H a sp rb g) {i w:Nat} (hw:g.load i=some w):w<18446744073709551616:=by
 unfold GS.load at hw
 split at hw
 ·exact h.wlt w (List.mem_of_getElem? hw)
 ·simp only [Option.some.injEq] at hw
  rw [←hw];exact h.hp.wlt i
theorem GS.load_bound (h:GsAt H a sp rb g) {i w:Nat} (hw:g.load i=some w):i<2000000:=by
 have h1:=h.len
 have h2:=h.hp.ok.ws
 unfold GS.load at hw
 split at hw
 ·rcases Nat.lt_or_ge (i-g.h.ws.length) g.roots.length with h|h
  ·omega
  ·rw [List.getElem?_eq_none h] at hw;simp at hw
 ·omega
theorem GS.store_bound (h:GsAt H a sp rb g) {i w:Nat} (hs:g.store i w=some g'):i<2000000:=by
 have h1:=h.len
 have h2:=h.hp.ok.ws
 unfold GS.store at hs
 split at hs
 ·split at hs
  ·omega
  ·simp at hs
 ·omega
theorem c_gload (h:GsAt H a sp rb g) (i:Nat) {w:Nat} (hw:g.load i=some w):cal J okAll 236 #[ptrV sp,.int .i64 (i:Int)] H=some (.ret (.int .u64 (w:Int)),H):=by
 rw [cal236 _ _ (by simp)]
 have hi:=GS.load_bound h hw
 have ho:=h.obj
 have hs:=c_Size h.hp
 have hwl:=h.hp.ok.ws
 simp only [HpA.ptr] at ho hs
 unfold GS.load at hw
 by_cases hb:g.h.ws.length≤i
 ·rw [if_pos hb] at hw
  have hlt:i-g.h.ws.length<g.roots.length:=by
   rcases Nat.lt_or_ge (i-g.h.ws.length) g.roots.length with h|h
   ·exact h
   ·rw [List.getElem?_eq_none h] at hw;simp at hw
  have hg:=h.rt (by omega)
  have hrv:rootV rb g.roots.length=.slice (some ⟨rb,0,none⟩) g.roots.length capU:=by unfold rootV;rw [if_neg (by omega)]
  rw [hrv] at ho
  have hc:(u64c g.roots)[i-g.h.ws.length]?=some (.int .u64 (w:Int)):=by
   rw [u64c_get _ _ hlt];rw [List.getElem?_eq_getElem hlt] at hw;simp only [Option.some.injEq] at hw;rw [hw]
  have w1:IntKind.i64.wrap ((i:Int)-(g.h.ws.length:Int))=((i-g.h.ws.length:Nat):Int):=by rw [wrapI];omega
  have hbI:((g.h.ws.length:Int)≤(i:Int))=True:=by simp only [eq_iff_iff,iff_true];omega
  simp [C236,regsOf,fin,iresult1,ptrV,ho,hs,hb,hbI,w1,iindexAddr,hlt,hg,hc]
 ·rw [if_neg hb] at hw
  simp only [Option.some.injEq] at hw
  have hl:=c_Load h.hp (i:Int)
  have hi0:(0:Int)≤(i:Int):=by omega
  rw [if_pos hi0,Int.toNat_natCast,hw] at hl
  simp only [HpA.ptr] at hl
  have hbI:((g.h.ws.length:Int)≤(i:Int))=False:=by simp only [eq_iff_iff,iff_false];omega
  simp [C236,regsOf,fin,iresult1,ptrV,ho,hs,hb,hbI,hl]
theorem GsAt.setH (h:GsAt H a sp rb g) {i w:Nat} (hw:w<18446744073709551616):GsAt (H.set a.wb (.cells (u64c (g.h.ws.set i w)) 62 false)) a sp rb { g with h:=g.h.setW i w }:=
 ⟨h.hp.setW hw,by rw [IH.get_set,if_neg h.ne.1];exact h.obj,fun hl=>by rw [IH.get_set,if_neg h.ne.2.1];exact h.rt hl,h.wlt,h.ne,h.lt,h.len,h.top⟩
theorem GsAt.setR (h:GsAt H a sp rb g) {i w:Nat} (hw:w<18446744073709551616):GsAt (H.set rb (.cells (u64c (g.roots.set i w)) 62 false)) a sp rb { g with roots:=g.roots.set i w }:=by
 obtain ⟨n1,n2,n3,n4,n5,n6⟩:=h.ne
 refine ⟨h.hp.mono (by simp) ?_ ?_ ?_ fun lb l c e=>?_,?_,fun _=>by rw [IH.get_set,if_pos rfl],fun x hx=>?_,h.ne,⟨h.lt.1,fun hl=>h.lt.2 (by simpa using hl)⟩,by simpa using h.len,h.top⟩
 ·rw [IH.get_set,if_neg (Ne.symm n4)]
 ·rw [IH.get_set,if_neg (Ne.symm n2)]
 ·rw [IH.get_set,if_neg (Ne.symm n5)]
 ·rw [IH.get_set,if_neg (Ne.symm (n6 lb l c e))]
 ·rw [IH.get_set,if_neg (Ne.symm n3),List.length_set];exact h.obj
 ·rcases List.mem_or_eq_of_mem_set hx with h1|h1
  ·exact h.wlt x h1
  ·rw [h1];exact hw
structure GSame (g g':GS):Prop where
 ly:g'.h.ly=g.h.ly
 hd:g'.h.hd=g.h.hd
 tp:g'.h.top=g.h.top
 ws:g'.h.ws.length=g.h.ws.length
 rl:g'.roots.length=g.roots.length
 top:g'.top=g.top
theorem GSame.refl (g:GS):GSame g g:=⟨rfl,rfl,rfl,rfl,rfl,rfl⟩
theorem GSame.trans {g g' g'':GS} (h:GSame g g') (h':GSame g' g''):GSame g g'':=⟨h'.ly.trans h.ly,h'.hd.trans h.hd,h'.tp.trans h.tp,h'.ws.trans h.ws,h'.rl.trans h.rl,h'.top.trans h.top⟩
theorem GS.store_same {i w:Nat} (hs:g.store i w=some g'):GSame g g':=by
 unfold GS.store at hs
 split at hs
 ·split at hs
  ·simp only [Option.some.injEq] at hs;subst hs;exact ⟨rfl,rfl,rfl,rfl,by simp,rfl⟩
  ·simp at hs
 ·simp only [Option.some.injEq] at hs;subst hs;exact ⟨rfl,rfl,rfl,by simp [Hp.setW],rfl,rfl⟩
def GStep (H:IH) (a:HpA) (sp rb:Nat) (c:Option (IE×IH)) (v:Value) (g':GS):Prop:=
 ∃H',c=some (.ret v,H')∧GsAt H' a sp rb g'∧Fx [a.wb,rb] H H'
theorem c_gstore (h:GsAt H a sp rb g) (i w:Nat) (hw:w<18446744073709551616) (hs:g.store i w=some g'):GStep H a sp rb (cal J okAll 233 #[ptrV sp,.int .i64 (i:Int),.int .u64 (w:Int)] H) (.tuple #[]) g':=by
 unfold GStep
 rw [cal233 _ _ (by simp)]
 have hi:=GS.store_bound h hs
 have ho:=h.obj
 have hsz:=c_Size h.hp
 have hwl:=h.hp.ok.ws
 simp only [HpA.ptr] at ho hsz
 unfold GS.store at hs
 by_cases hb:g.h.ws.length≤i
 ·rw [if_pos hb] at hs
  by_cases hlt:i-g.h.ws.length<g.roots.length
  ·rw [if_pos hlt] at hs
   simp only [Option.some.injEq] at hs
   subst hs
   have hg:=h.rt (by omega)
   have hrv:rootV rb g.roots.length=.slice (some ⟨rb,0,none⟩) g.roots.length capU:=by unfold rootV;rw [if_neg (by omega)]
   rw [hrv] at ho
   have w1:IntKind.i64.wrap ((i:Int)-(g.h.ws.length:Int))=((i-g.h.ws.length:Nat):Int):=by rw [wrapI];omega
   have hbI:((g.h.ws.length:Int)≤(i:Int))=True:=by simp only [eq_iff_iff,iff_true];omega
   have hlt2:i-g.h.ws.length+1≤g.roots.length:=by omega
   refine ⟨H.set rb (.cells (u64c (g.roots.set (i-g.h.ws.length) w)) 62 false),?_,h.setR hw,(Fx.refl _ _).set (.inl (by simp)) _⟩
   simp [C233,regsOf,fin,iresult1,ptrV,ho,hsz,hb,hbI,w1,iindexAddr,hlt,hlt2,hg,istore,Value.cells,plain1,overlay,u64c_len,u64c_put]
  ·rw [if_neg hlt] at hs;simp at hs
 ·rw [if_neg hb] at hs
  simp only [Option.some.injEq] at hs
  subst hs
  have hst:=c_Store h.hp i w
  rw [if_pos (by omega)] at hst
  simp only [HpA.ptr] at hst
  have hbI:((g.h.ws.length:Int)≤(i:Int))=False:=by simp only [eq_iff_iff,iff_false];omega
  refine ⟨H.set a.wb (.cells (u64c (g.h.ws.set i w)) 62 false),?_,h.setH hw,(Fx.refl _ _).set (.inl (by simp)) _⟩
  simp [C233,regsOf,fin,iresult1,ptrV,ho,hsz,hb,hbI,hst]
theorem c_gbytes (h:GsAt H a sp rb g) (w:Nat) (hw:w<18446744073709551616):cal J okAll 241 #[ptrV sp,.int .u64 (w:Int)] H=some (.ret (.bool (g.bytes w)),H):=by
 rw [cal241 _ _ (by simp)]
 have ho:=h.obj
 have h1:=c_Shape H w hw
 have h2:=c_Kind h.hp ((wShape w:Nat):Int)
 simp only [HpA.ptr] at ho h2
 unfold GS.bytes
 cases hd:decide (g.h.kindI ((wShape w:Nat):Int)=3) with
 |true=>
  have hd':=of_decide_eq_true hd
  rw [hd'] at h2
  simp [C241,regsOf,fin,iresult1,ptrV,ho,h1,h2]
 |false=>simp [C241,regsOf,fin,iresult1,ptrV,ho,h1,h2,hd]
theorem c_gsize (h:GsAt H a sp rb g) (w:Nat) (hw:w<18446744073709551616):∃H',cal J okAll 231 #[ptrV sp,.int .u64 (w:Int)] H=some (.ret (.tuple #[.int .i64 ((g.size w).1:Nat),.int .i64 ((g.size w).2:Nat)]),H')∧Fr H.next H H':=by
 rw [cal231 _ _ (by simp)]
 have ho:=h.obj
 have h1:=c_Len H w hw
 have h2:=c_Shape H w hw
 have hln:wLen w<1048576:=by unfold wLen;omega
 obtain ⟨H',f1,h3⟩:=c_Need h.hp ((wShape w:Nat):Int) ((wLen w:Nat):Int) (by omega)
 have h':=h.fr f1
 have h4:=c_gbytes h' w hw
 have hn0:0≤(g.h.need ((wShape w:Nat):Int) ((wLen w:Nat):Int)).1∧(g.h.need ((wShape w:Nat):Int) ((wLen w:Nat):Int)).1≤1048577:=by
  unfold Hp.need;split
  ·split
   ·simp
   ·split
    ·simp
    ·split<;>simp only<;>omega
  ·simp
 refine ⟨H',?_,f1⟩
 unfold GS.size
 generalize hp:g.h.need ((wShape w:Nat):Int) ((wLen w:Nat):Int)=p at*
 obtain ⟨ps,pe⟩:=p
 simp only at hn0 h3 ⊢
 obtain ⟨s,rfl⟩:∃s:Nat,ps=s:=⟨ps.toNat,by omega⟩
 have w1:IntKind.i64.wrap (1+((wLen w:Nat):Int))=1+((wLen w:Nat):Int):=by rw [wrapI];omega
 simp only [HpA.ptr] at ho h3
 simp only [ptrV] at h4
 rw [Int.toNat_natCast]
 by_cases he:s=1+wLen w
 ·have heD:decide ((s:Int)=1+((wLen w:Nat):Int))=true:=decide_eq_true (by omega)
  cases hb:g.bytes w with
  |true=>
   rw [hb] at h4
   rw [if_neg (by simp)]
   simp [C231,regsOf,fin,iresult1,ptrV,ho,h1,h2,h3,w1,heD,h4]
  |false=>
   rw [hb] at h4
   rw [if_pos ⟨he,rfl⟩]
   simp [C231,regsOf,fin,iresult1,ptrV,ho,h1,h2,h3,w1,heD,h4]
 ·have heD:decide ((s:Int)=1+((wLen w:Nat):Int))=false:=decide_eq_false (by omega)
  rw [if_neg (fun h=>he h.1)]
  simp [C231,regsOf,fin,iresult1,ptrV,ho,h1,h2,h3,w1,heD]
end
theorem obind {α β:Type} {x:Option α} {f:α→Option β} {b:β} (h:(x >>= f)=some b):∃a,x=some a∧f a=some b:=by
 cases x with
 |none=>simp at h
 |some a=>exact ⟨a,rfl,h⟩
theorem GS.thread_same {g g':GS} {i:Nat} (hs:g.thread i=some g'):GSame g g':=by
 unfold GS.thread at hs
 obtain ⟨w,_,h2⟩:=obind hs
 split at h2
 ·simp only [Option.some.injEq] at h2;subst h2;exact .refl _
 ·obtain ⟨x,_,h3⟩:=obind h2
  obtain ⟨g1,h4,h5⟩:=obind h3
  exact (GS.store_same h4).trans (GS.store_same h5)
section
variable {H:IH} {a:HpA} {sp rb:Nat} {g g':GS}
theorem wPtr_lt {i:Nat} (h:i<9223372036854775808):wPtr i<18446744073709551616:=by unfold wPtr;omega
theorem c_gthread (h:GsAt H a sp rb g) (i:Nat) (hs:g.thread i=some g'):GStep H a sp rb (cal J okAll 228 #[ptrV sp,.int .i64 (i:Int)] H) (.tuple #[]) g':=by
 unfold GStep
 rw [cal228 _ _ (by simp)]
 unfold GS.thread at hs
 obtain ⟨w,h1,h2⟩:=obind hs
 have hw:=GS.load_lt h h1
 have hib:=GS.load_bound h h1
 have c1:=c_gload h i h1
 have ci:=c_IsImm H w hw
 have ca:=c_At H w hw
 simp only [ptrV] at c1
 by_cases hi:wIsImm w=true
 ·rw [if_pos hi] at h2
  simp only [Option.some.injEq] at h2
  subst h2
  rw [hi] at ci
  exact ⟨H,by simp [C228,regsOf,fin,iresult1,ptrV,c1,ci],h,.refl _ _⟩
 ·rw [if_neg hi] at h2
  have hi':wIsImm w=false:=by simpa using hi
  rw [hi'] at ci
  obtain ⟨x,h3,h4⟩:=obind h2
  obtain ⟨g1,h5,h6⟩:=obind h4
  have c2:=c_gload h (wAt w) h3
  have hx:=GS.load_lt h h3
  obtain ⟨H1,c3,k1,f1⟩:=c_gstore h i x hx h5
  have hwp:wPtr i<18446744073709551616:=wPtr_lt (by omega)
  obtain ⟨H2,c4,k2,f2⟩:=c_gstore k1 (wAt w) (wPtr i) hwp h6
  have cp:=c_Ptr H1 i (by omega)
  simp only [ptrV] at c2 c3 c4
  exact ⟨H2,by simp [C228,regsOf,fin,iresult1,ptrV,c1,ci,ca,c2,c3,cp,c4],k2,f1.trans f2 (fun x hx=>.inl hx)⟩
theorem loop240 (to:Nat) (hto:to<9223372036854775808) (K:Nat→Value) (k0:K 0=ptrV sp) (k2:K 2=.int .i64 (to:Int)):∀(n w:Nat) (g:GS) (w':Nat) (g':GS) (T:Regs) (H:IH),GS.unthreadGo to n w g=some (w',g')→GsAt H a sp rb g→w<18446744073709551616→(∀t,t<6→T.at t=K t)→T.at 7=.int .u64 (w:Int)→
  ∃T' H',run J okAll (.loop L240_0) T H=some (.exit 0,T',H')∧GsAt H' a sp rb g'∧Fx [a.wb,rb] H H'∧GSame g g'∧w'<18446744073709551616∧(∀t,t<6→T'.at t=K t)∧T'.at 7=.int .u64 (w':Int):=by
 intro n
 induction n with
 |zero=>intro w g w' g' T H hs;simp [GS.unthreadGo] at hs
 |succ n ih=>
  intro w g w' g' T H hs h hw hK t7
  unfold GS.unthreadGo at hs
  have t0:=(hK 0 (by omega)).trans k0
  have t2:=(hK 2 (by omega)).trans k2
  have ci:=c_IsImm H w hw
  have ca:=c_At H w hw
  simp only [ptrV] at t0
  by_cases hi:wIsImm w=true
  ·rw [if_pos hi] at hs
   simp only [Option.some.injEq,Prod.mk.injEq] at hs
   obtain ⟨rfl,rfl⟩:=hs
   rw [hi] at ci
   rw [r_loop]
   simp [L240_0,t0,t2,t7,ci]
   exact ⟨_,_,⟨rfl,rfl⟩,h,.refl _ _,.refl _,hw,fun t ht=>by simp (disch:=omega) only [at_set_gt];exact hK t ht,by simp [t7]⟩
  ·rw [if_neg hi] at hs
   have hi':wIsImm w=false:=by simpa using hi
   rw [hi'] at ci
   obtain ⟨x,h1,h2⟩:=obind hs
   obtain ⟨g1,h3,h4⟩:=obind h2
   have c1:=c_gload h (wAt w) h1
   have hx:=GS.load_lt h h1
   have cp:=c_Ptr H to hto
   obtain ⟨H1,c2,q1,f1⟩:=c_gstore h (wAt w) (wPtr to) (wPtr_lt hto) h3
   simp only [ptrV] at c1 c2
   obtain ⟨T1,s1,s2,s3⟩:∃T1,run J okAll (.loop L240_0) T H=run J okAll (.loop L240_0) T1 H1∧(∀t,t<6→T1.at t=K t)∧T1.at 7=.int .u64 (x:Int):=by
    rw [r_loop]
    simp [L240_0,t0,t2,t7,ci,ca,c1,cp,c2]
    exact ⟨_,rfl,fun t ht=>by simp (disch:=omega) only [at_set_gt];exact hK t ht,by simp⟩
   obtain ⟨T2,H2,r1,r2,r3,r4,r5,r6,r7⟩:=ih x g1 w' g' T1 H1 h4 q1 hx s2 s3
   exact ⟨T2,H2,s1.trans r1,r2,f1.trans r3 (fun x hx=>.inl hx),(GS.store_same h3).trans r4,r5,r6,r7⟩
theorem c_gunthread (h:GsAt H a sp rb g) {n o to w:Nat} (hto:to<9223372036854775808) (hs:g.unthread n o to=some (w,g')):GStep H a sp rb (cal J okAll 240 #[ptrV sp,.int .i64 (o:Int),.int .i64 (to:Int)] H) (.int .u64 (w:Int)) g'∧w<18446744073709551616∧GSame g g':=by
 unfold GStep
 rw [cal240 _ _ (by simp)]
 unfold GS.unthread at hs
 obtain ⟨x,h1,h2⟩:=obind hs
 obtain ⟨⟨w1,g1⟩,h3,h4⟩:=obind h2
 obtain ⟨g2,h5,h6⟩:=obind h4
 simp only [Option.some.injEq,Prod.mk.injEq] at h6
 obtain ⟨rfl,rfl⟩:=h6
 have hx:=GS.load_lt h h1
 have c1:=c_gload h o h1
 simp only [ptrV] at c1
 simp [C240,regsOf,ptrV,c1]
 generalize hX:run J okAll (.loop L240_0) _ _=X
 obtain ⟨T1,hT,a0,a1,a2,a7⟩:∃T1,run J okAll (.loop L240_0) T1 H=X∧T1.at 0=ptrV sp∧T1.at 1=.int .i64 (o:Int)∧T1.at 2=.int .i64 (to:Int)∧T1.at 7=.int .u64 (x:Int):=⟨_,hX,by simp [ptrV],by simp,by simp,by simp⟩
 obtain ⟨T2,H2,r1,r2,r3,r4,r5,r6,r7⟩:=loop240 (a:=a) (rb:=rb) to hto (fun t=>T1.at t) a0 a2 n x g w1 g1 T1 H h3 h hx (fun _ _=>rfl) a7
 have r1:=hT.symm.trans r1
 subst r1
 have b0:=(r6 0 (by omega)).trans a0
 have b1:=(r6 1 (by omega)).trans a1
 obtain ⟨H3,c2,k2,f2⟩:=c_gstore r2 o w1 r5 h5
 simp only [ptrV] at b0 c2
 refine ⟨⟨H3,by simp [regsOf,fin,iresult1,b0,b1,r7,c2],k2,r3.trans f2 (fun x hx=>.inl hx)⟩,r5,r4.trans (GS.store_same h5)⟩
end
theorem wMark_lt (h:Nat) (b:Bool) (hh:h<18446744073709551616):wMark h b<18446744073709551616:=by unfold wMark;split<;>omega
theorem wTurn_lt (h k:Nat) (hh:h<18446744073709551616):wTurn h k<18446744073709551616:=by unfold wTurn;omega
theorem wTurned_lt (h:Nat):wTurned h<1048576:=by unfold wTurned;omega
section
variable {a:HpA} {sp rb:Nat}
theorem loop238 (K:Nat→Value) (k0:K 0=ptrV sp):∀(n o back:Nat) (g g':GS) (T:Regs) (H:IH),GS.walk n o back g=some g'→GsAt H a sp rb g→back<18446744073709551616→(∀t,t<4→T.at t=K t)→T.at 4=.int .i64 (o:Int)→T.at 5=.int .u64 (back:Int)→
  ∃T' H',run J okAll (.loop L238_0) T H=some (.exit 0,T',H')∧GsAt H' a sp rb g'∧Fx [a.wb,rb] H H'∧GSame g g'∧(∀t,t<4→T'.at t=K t):=by
 intro n
 induction n with
 |zero=>intro o back g g' T H hs;simp [GS.walk] at hs
 |succ n ih=>
  intro o back g g' T H hs h hbk hK t4 t5
  unfold GS.walk at hs
  have t0:=(hK 0 (by omega)).trans k0
  simp only [ptrV] at t0
  obtain ⟨w,h1,hs⟩:=obind hs
  have hob:=GS.load_bound h h1
  have hw:=GS.load_lt h h1
  have c1:=c_gload h o h1
  have cm:=c_Mark H w true hw
  have hhl:=wMark_lt w true hw
  simp only at hs
  generalize wMark w true=head at*
  obtain ⟨H1,c2,f1⟩:=c_gsize h head hhl
  have g1:=h.fr f1
  have ct:=c_Turned H1 head hhl
  have hk20:=wTurned_lt head
  generalize wTurned head=k at*
  simp only [ptrV] at c1 c2
  generalize hfd:(g.size head).2=fd at*
  generalize (g.size head).1=sz at*
  have fx1:Fx [a.wb,rb] H H1:=Fx.of_fr f1
  by_cases hlt:k<fd
  ·rw [if_pos hlt] at hs
   obtain ⟨g2,h2,hs⟩:=obind hs
   obtain ⟨to,h3,hs⟩:=obind hs
   have hwt:=wTurn_lt head (k+1) hhl
   have cT:=c_Turn H1 head (k+1) hhl (by omega)
   obtain ⟨H2,c3,k2,f2⟩:=c_gstore g1 o (wTurn head (k+1)) hwt h2
   have c4:=c_gload k2 (o+1+k) h3
   have hto:=GS.load_lt k2 h3
   have ci:=c_IsImm H2 to hto
   have ca:=c_At H2 to hto
   have w1:IntKind.i64.wrap ((k:Int)+1)=(k:Int)+1:=by rw [wrapI];omega
   have w2:IntKind.i64.wrap ((o:Int)+1)=(o:Int)+1:=by rw [wrapI];omega
   have w3:IntKind.i64.wrap ((o:Int)+1+(k:Int))=(o:Int)+1+(k:Int):=by rw [wrapI];omega
   simp only [ptrV,Int.natCast_add,Int.natCast_one,Int.cast_ofNat_Int] at c3 c4 cT
   have fx2:=fx1.trans f2 (fun x hx=>.inl hx)
   have sm2:=GS.store_same h2
   have go:∀(g3:GS) (o3 b3:Nat) (T3:Regs) (H3:IH),GS.walk n o3 b3 g3=some g'→GsAt H3 a sp rb g3→b3<18446744073709551616→(∀t,t<4→T3.at t=K t)→T3.at 4=.int .i64 (o3:Int)→T3.at 5=.int .u64 (b3:Int)→Fx [a.wb,rb] H H3→GSame g g3→run J okAll (.loop L238_0) T H=run J okAll (.loop L238_0) T3 H3→
     ∃T' H',run J okAll (.loop L238_0) T H=some (.exit 0,T',H')∧GsAt H' a sp rb g'∧Fx [a.wb,rb] H H'∧GSame g g'∧(∀t,t<4→T'.at t=K t):=by
    intro g3 o3 b3 T3 H3 e1 e2 e3 e4 e5 e6 e7 e8 e9
    obtain ⟨T',H',r1,r2,r3,r4,r5⟩:=ih o3 b3 g3 g' T3 H3 e1 e2 e3 e4 e5 e6
    exact ⟨T',H',e9.trans r1,r2,e7.trans r3 (fun x hx=>.inl hx),e8.trans r4,r5⟩
   by_cases hi:wIsImm to=true
   ·rw [if_pos hi] at hs
    rw [hi] at ci
    obtain ⟨T1,s1,s2,s3,s4⟩:∃T1,run J okAll (.loop L238_0) T H=run J okAll (.loop L238_0) T1 H2∧(∀t,t<4→T1.at t=K t)∧T1.at 4=.int .i64 (o:Int)∧T1.at 5=.int .u64 (back:Int):=by
     rw [r_loop]
     simp [L238_0,t0,t4,t5,c1,cm,c2,ct,hlt,w1,cT,c3,w2,w3,c4,ci]
     exact ⟨_,rfl,fun t ht=>by simp (disch:=omega) only [at_set_gt];exact hK t ht,by simp [t4],by simp [t5]⟩
    exact go g2 o back T1 H2 hs k2 hbk s2 s3 s4 fx2 sm2 s1
   ·rw [if_neg hi] at hs
    have hi':wIsImm to=false:=by simpa using hi
    rw [hi'] at ci
    obtain ⟨x,h4,hs⟩:=obind hs
    have c5:=c_gload k2 (wAt to) h4
    have hx:=GS.load_lt k2 h4
    have cmk:=c_Marked H2 x hx
    simp only [ptrV] at c5
    by_cases hm:wMarked x=true
    ·rw [if_pos hm] at hs
     rw [hm] at cmk
     obtain ⟨T1,s1,s2,s3,s4⟩:∃T1,run J okAll (.loop L238_0) T H=run J okAll (.loop L238_0) T1 H2∧(∀t,t<4→T1.at t=K t)∧T1.at 4=.int .i64 (o:Int)∧T1.at 5=.int .u64 (back:Int):=by
      rw [r_loop]
      simp [L238_0,t0,t4,t5,c1,cm,c2,ct,hlt,w1,cT,c3,w2,w3,c4,ci,ca,c5,cmk]
      exact ⟨_,rfl,fun t ht=>by simp (disch:=omega) only [at_set_gt];exact hK t ht,by simp [t4],by simp [t5]⟩
     exact go g2 o back T1 H2 hs k2 hbk s2 s3 s4 fx2 sm2 s1
    ·rw [if_neg hm] at hs
     have hm':wMarked x=false:=by simpa using hm
     rw [hm'] at cmk
     obtain ⟨g3,h5,hs⟩:=obind hs
     obtain ⟨H3,c6,k3,f3⟩:=c_gstore k2 (o+1+k) back hbk h5
     have ca3:=c_At H3 to hto
     have cp:=c_Ptr H3 o (by omega)
     simp only [ptrV,Int.natCast_add,Int.natCast_one,Int.cast_ofNat_Int] at c6
     obtain ⟨T1,s1,s2,s3,s4⟩:∃T1,run J okAll (.loop L238_0) T H=run J okAll (.loop L238_0) T1 H3∧(∀t,t<4→T1.at t=K t)∧T1.at 4=.int .i64 ((wAt to:Nat):Int)∧T1.at 5=.int .u64 ((wPtr o:Nat):Int):=by
      rw [r_loop]
      simp [L238_0,t0,t4,t5,c1,cm,c2,ct,hlt,w1,cT,c3,w2,w3,c4,ci,ca,c5,cmk,c6,ca3,cp]
      exact ⟨_,rfl,fun t ht=>by simp (disch:=omega) only [at_set_gt];exact hK t ht,by simp,by simp⟩
     exact go g3 (wAt to) (wPtr o) T1 H3 hs k3 (wPtr_lt (by omega)) s2 s3 s4 (fx2.trans f3 (fun x hx=>.inl hx)) (sm2.trans (GS.store_same h5)) s1
  ·rw [if_neg hlt] at hs
   obtain ⟨g2,h2,hs⟩:=obind hs
   obtain ⟨H2,c3,k2,f2⟩:=c_gstore g1 o head hhl h2
   have fx2:=fx1.trans f2 (fun x hx=>.inl hx)
   have sm2:=GS.store_same h2
   simp only [ptrV] at c3
   by_cases hb:back=1
   ·rw [if_pos hb] at hs
    simp only [Option.some.injEq] at hs
    subst hs
    have hbD:((back:Int)=1)=True:=by simp only [eq_iff_iff,iff_true];omega
    rw [r_loop]
    simp [L238_0,t0,t4,t5,c1,cm,c2,ct,hlt,c3,hb]
    exact ⟨_,_,⟨rfl,rfl⟩,k2,fx2,sm2,fun t ht=>by simp (disch:=omega) only [at_set_gt];exact hK t ht⟩
   ·rw [if_neg hb] at hs
    have hbD:decide ((back:Int)=1)=false:=decide_eq_false (by omega)
    obtain ⟨f,h3,hs⟩:=obind hs
    obtain ⟨b,h4,hs⟩:=obind hs
    obtain ⟨g3,h5,hs⟩:=obind hs
    have ca:=c_At H2 back hbk
    have c4:=c_gload k2 (wAt back) h3
    have hfl:=GS.load_lt k2 h3
    have cT:=c_Turned H2 f hfl
    have hib:=GS.load_bound k2 h4
    have hfb:=GS.load_bound k2 h3
    have c5:=c_gload k2 (wAt back+wTurned f) h4
    have hbl:=GS.load_lt k2 h4
    have cp:=c_Ptr H2 o (by omega)
    obtain ⟨H3,c6,k3,f3⟩:=c_gstore k2 (wAt back+wTurned f) (wPtr o) (wPtr_lt (by omega)) h5
    have w1:IntKind.i64.wrap (((wAt back:Nat):Int)+((wTurned f:Nat):Int))=((wAt back:Nat):Int)+((wTurned f:Nat):Int):=by rw [wrapI];omega
    simp only [ptrV,Int.natCast_add] at c4 c5 c6
    obtain ⟨T1,s1,s2,s3,s4⟩:∃T1,run J okAll (.loop L238_0) T H=run J okAll (.loop L238_0) T1 H3∧(∀t,t<4→T1.at t=K t)∧T1.at 4=.int .i64 ((wAt back:Nat):Int)∧T1.at 5=.int .u64 (b:Int):=by
     rw [r_loop]
     simp [L238_0,t0,t4,t5,c1,cm,c2,ct,hlt,c3,hb,hbD,ca,c4,cT,w1,cp,c5,c6]
     exact ⟨_,rfl,fun t ht=>by simp (disch:=omega) only [at_set_gt];exact hK t ht,by simp,by simp⟩
    obtain ⟨T',H',r1,r2,r3,r4,r5⟩:=ih (wAt back) b g3 g' T1 H3 hs k3 hbl s2 s3 s4
    exact ⟨T',H',s1.trans r1,r2,(fx2.trans f3 (fun x hx=>.inl hx)).trans r3 (fun x hx=>.inl hx),(sm2.trans (GS.store_same h5)).trans r4,r5⟩
variable {H:IH} {g g':GS}
theorem c_gmark (h:GsAt H a sp rb g) {n w:Nat} (hw:w<18446744073709551616) (hs:g.mark n w=some g'):GStep H a sp rb (cal J okAll 238 #[ptrV sp,.int .u64 (w:Int)] H) (.tuple #[]) g'∧GSame g g':=by
 unfold GStep
 rw [cal238 _ _ (by simp)]
 unfold GS.mark at hs
 have ci:=c_IsImm H w hw
 have ca:=c_At H w hw
 by_cases hi:wIsImm w=true
 ·rw [if_pos hi] at hs
  simp only [Option.some.injEq] at hs
  subst hs
  rw [hi] at ci
  exact ⟨⟨H,by simp [C238,regsOf,fin,iresult1,ptrV,ci],h,.refl _ _⟩,.refl _⟩
 rw [if_neg hi] at hs
 have hi':wIsImm w=false:=by simpa using hi
 rw [hi'] at ci
 obtain ⟨x,h1,hs⟩:=obind hs
 have c1:=c_gload h (wAt w) h1
 have hx:=GS.load_lt h h1
 have cm:=c_Marked H x hx
 simp only [ptrV] at c1
 by_cases hm:wMarked x=true
 ·rw [if_pos hm] at hs
  simp only [Option.some.injEq] at hs
  subst hs
  rw [hm] at cm
  exact ⟨⟨H,by simp [C238,regsOf,fin,iresult1,ptrV,ci,ca,c1,cm],h,.refl _ _⟩,.refl _⟩
 rw [if_neg hm] at hs
 have hm':wMarked x=false:=by simpa using hm
 rw [hm'] at cm
 simp [C238,regsOf,ptrV,ci,ca,c1,cm]
 generalize hX:run J okAll (.loop L238_0) _ _=X
 obtain ⟨T1,hT,a0,a4,a5⟩:∃T1,run J okAll (.loop L238_0) T1 H=X∧T1.at 0=ptrV sp∧T1.at 4=.int .i64 ((wAt w:Nat):Int)∧T1.at 5=.int .u64 ((1:Nat):Int):=⟨_,hX,by simp [ptrV],by simp,by simp⟩
 obtain ⟨T2,H2,r1,r2,r3,r4,r5⟩:=loop238 (a:=a) (rb:=rb) (fun t=>T1.at t) a0 n (wAt w) 1 g g' T1 H hs h (by omega) (fun _ _=>rfl) a4 a5
 have r1:=hT.symm.trans r1
 subst r1
 exact ⟨⟨H2,by simp [regsOf,fin,iresult1],r2,r3⟩,r4⟩
theorem loop227 (m n:Nat) (hm:m≤1000000) (K:Nat→Value) (k0:K 0=ptrV sp) (k7:K 7=rootV rb m) (k8:K 8=.int .i64 (m:Int)):∀(d i:Nat) (g g':GS) (T:Regs) (H:IH),GS.markedGo n i d g=some g'→i+d=m→g.roots.length=m→GsAt H a sp rb g→(∀t,t∈[0,7,8]→T.at t=K t)→T.at 9=.int .i64 (i:Int)→
  ∃T' H',run J okAll (.loop L227_0) T H=some (.exit 0,T',H')∧GsAt H' a sp rb g'∧Fx [a.wb,rb] H H'∧GSame g g':=by
 intro d
 induction d with
 |zero=>
  intro i g g' T H hs hd hl h hK t9
  simp only [GS.markedGo,Option.some.injEq] at hs
  subst hs
  have:i=m:=by omega
  subst this
  have t8:=(hK 8 (by simp)).trans k8
  rw [r_loop]
  simp [L227_0,t8,t9]
  exact ⟨_,_,⟨rfl,rfl⟩,h,.refl _ _,.refl _⟩
 |succ d ih=>
  intro i g g' T H hs hd hl h hK t9
  unfold GS.markedGo at hs
  obtain ⟨w,h1,hs⟩:=obind hs
  obtain ⟨g1,h2,hs⟩:=obind hs
  have t0:=(hK 0 (by simp)).trans k0
  have t7:=(hK 7 (by simp)).trans k7
  have t8:=(hK 8 (by simp)).trans k8
  have hlt:i<m:=by omega
  have hlt2:i<g.roots.length:=by omega
  have hrv:rootV rb m=.slice (some ⟨rb,0,none⟩) m capU:=by unfold rootV;rw [if_neg (by omega)]
  rw [hrv] at t7
  have hg:=h.rt (by omega)
  have hw:w<18446744073709551616:=h.wlt w (List.mem_of_getElem? h1)
  have hc:(u64c g.roots)[i]?=some (.int .u64 (w:Int)):=by
   rw [u64c_get _ _ hlt2];rw [List.getElem?_eq_getElem hlt2] at h1;simp only [Option.some.injEq] at h1;rw [h1]
  obtain ⟨⟨H1,c1,k1,f1⟩,sm⟩:=c_gmark h hw h2
  have hw1:IntKind.i64.wrap ((i:Int)+1)=((i+1:Nat):Int):=by rw [wrap64 _ (by omega) (by omega)];simp
  simp only [ptrV] at t0 c1
  obtain ⟨T1,s1,s2,s3⟩:∃T1,run J okAll (.loop L227_0) T H=run J okAll (.loop L227_0) T1 H1∧(∀t,t∈[0,7,8]→T1.at t=K t)∧T1.at 9=.int .i64 ((i+1:Nat):Int):=by
   rw [r_loop]
   simp [L227_0,t0,t7,t8,t9,hlt,iindexAddr,hg,hc,c1,hw1]
   refine ⟨_,rfl,⟨?_,?_,?_⟩,by simp⟩
   ·simp [←hK 0 (by simp)]
   ·simp [←hK 7 (by simp)]
   ·simp [←hK 8 (by simp)]
  obtain ⟨T2,H2,r1,r2,r3,r4⟩:=ih (i+1) g1 g' T1 H1 hs (by omega) (sm.rl.trans hl) k1 s2 s3
  exact ⟨T2,H2,s1.trans r1,r2,f1.trans r3 (fun x hx=>.inl hx),sm.trans r4⟩
theorem c_gmarked (h:GsAt H a sp rb g) {n:Nat} (hs:g.marked n=some g'):GStep H a sp rb (cal J okAll 227 #[ptrV sp] H) (.tuple #[]) g'∧GSame g g':=by
 unfold GStep
 rw [cal227 _ _ (by simp)]
 have ho:=h.obj
 simp only [HpA.ptr] at ho
 have hrv:∃ra rc,rootV rb g.roots.length=.slice ra g.roots.length rc:=by
  unfold rootV
  split
  ·rename_i e;exact ⟨none,0,by rw [e]⟩
  ·exact ⟨_,_,rfl⟩
 obtain ⟨ra,rc,hrv⟩:=hrv
 rw [hrv] at ho
 simp [C227,regsOf,ptrV,ho]
 generalize hX:run J okAll (.loop L227_0) _ _=X
 obtain ⟨T1,hT,a0,a7,a8,a9⟩:∃T1,run J okAll (.loop L227_0) T1 H=X∧T1.at 0=ptrV sp∧T1.at 7=rootV rb g.roots.length∧T1.at 8=.int .i64 (g.roots.length:Int)∧T1.at 9=.int .i64 ((0:Nat):Int):=⟨_,hX,by simp [ptrV],by rw [hrv];simp,by simp,by simp⟩
 obtain ⟨T2,H2,r1,r2,r3,r4⟩:=loop227 (a:=a) (rb:=rb) g.roots.length n h.len (fun t=>T1.at t) a0 a7 a8 g.roots.length 0 g g' T1 H hs (by omega) rfl h (fun _ _=>rfl) a9
 have r1:=hT.symm.trans r1
 subst r1
 exact ⟨⟨H2,by simp [regsOf,fin,iresult1],r2,r3⟩,r4⟩
end
structure SvAt (H:IH) (a:HpA) (sv sp rb:Nat):Prop where
 get:H.get sv=some (.cells [ptrV sp] 290 false)
 lt:sv<H.next
 ne:sv≠a.wb∧sv≠rb
theorem SvAt.fx {H H':IH} {a:HpA} {sv sp rb:Nat} (h:SvAt H a sv sp rb) (f:Fx [a.wb,rb] H H'):SvAt H' a sv sp rb:=
 ⟨(f.2 _ h.lt (by simp [h.ne.1,h.ne.2])).trans h.get,Nat.lt_of_lt_of_le h.lt f.1,h.ne⟩
theorem GS.size_le (g:GS) (w:Nat):(g.size w).1≤1048577∧(g.size w).2≤1048575:=by
 have hl:wLen w<1048576:=by unfold wLen;omega
 have hn:(g.h.need (wShape w:Nat) (wLen w:Nat)).1.toNat≤1048577:=by
  unfold Hp.need;split
  ·split
   ·simp
   ·split
    ·simp
    ·split<;>simp only<;>omega
  ·simp
 unfold GS.size
 simp only
 split<;>simp only<;>omega
section
variable {a:HpA} {sp rb sv:Nat}
theorem loop230 (o m:Nat) (ho:o≤2000000) (hm:m≤2000000) (K:Nat→Value) (k0:K 0=.int .i64 (o:Int)) (k3:K 3=ptrV sv) (k16:K 16=.int .i64 (m:Int)):∀(d i:Nat) (g g':GS) (T:Regs) (H:IH),GS.threadsGo (o+1) i d g=some g'→i+d=m→GsAt H a sp rb g→SvAt H a sv sp rb→(∀t,t∈[0,3,16]→T.at t=K t)→T.at 17=.int .i64 (i:Int)→
  ∃T' H',run J okAll (.loop L230_0) T H=some (.exit 0,T',H')∧GsAt H' a sp rb g'∧Fx [a.wb,rb] H H'∧GSame g g':=by
 intro d
 induction d with
 |zero=>
  intro i g g' T H hs hd h hv hK t17
  simp only [GS.threadsGo,Option.some.injEq] at hs
  subst hs
  have:i=m:=by omega
  subst this
  have t16:=(hK 16 (by simp)).trans k16
  rw [r_loop]
  simp [L230_0,t16,t17]
  exact ⟨_,_,⟨rfl,rfl⟩,h,.refl _ _,.refl _⟩
 |succ d ih=>
  intro i g g' T H hs hd h hv hK t17
  unfold GS.threadsGo at hs
  obtain ⟨g1,h1,hs⟩:=obind hs
  have t0:=(hK 0 (by simp)).trans k0
  have t3:=(hK 3 (by simp)).trans k3
  have t16:=(hK 16 (by simp)).trans k16
  have hlt:i<m:=by omega
  have hg:=hv.get
  obtain ⟨H1,c1,q1,f1⟩:=c_gthread h (o+1+i) h1
  have hw1:IntKind.i64.wrap ((i:Int)+1)=((i+1:Nat):Int):=by rw [wrap64 _ (by omega) (by omega)];simp
  have w2:IntKind.i64.wrap ((o:Int)+1)=(o:Int)+1:=by rw [wrapI];omega
  have w3:IntKind.i64.wrap ((o:Int)+1+(i:Int))=(o:Int)+1+(i:Int):=by rw [wrapI];omega
  simp only [ptrV,Int.natCast_add,Int.natCast_one,Int.cast_ofNat_Int] at t3 hg c1
  obtain ⟨T1,s1,s2,s3⟩:∃T1,run J okAll (.loop L230_0) T H=run J okAll (.loop L230_0) T1 H1∧(∀t,t∈[0,3,16]→T1.at t=K t)∧T1.at 17=.int .i64 ((i+1:Nat):Int):=by
   rw [r_loop]
   simp [L230_0,t0,t3,t16,t17,hlt,hg,w2,w3,c1,hw1]
   refine ⟨_,rfl,⟨?_,?_,?_⟩,by simp⟩
   ·simp [←hK 0 (by simp)]
   ·simp [←hK 3 (by simp)]
   ·simp [←hK 16 (by simp)]
  obtain ⟨T2,H2,r1,r2,r3,r4⟩:=ih (i+1) g1 g' T1 H1 hs (by omega) q1 (hv.fx f1) s2 s3
  exact ⟨T2,H2,s1.trans r1,r2,f1.trans r3 (fun x hx=>.inl hx),(GS.thread_same h1).trans r4⟩
def PassOk (a:HpA) (sp rb sv:Nat) (f:FuncId) (F:Nat→Nat→Nat→GS→Option GS):Prop:=∀(H:IH) (g g':GS) (o to head:Nat),GsAt H a sp rb g→SvAt H a sv sp rb→F o to head g=some g'→head<18446744073709551616→o≤65536→to≤o→
 GStep H a sp rb (cal J okAll f #[.int .i64 (o:Int),.int .i64 (to:Int),.int .u64 (head:Int),ptrV sv] H) (.tuple #[]) g'∧GSame g g'
theorem c_pass1:PassOk a sp rb sv 230 GS.pass1:=by
 intro H g g' o to head h hv hs hh ho hto
 unfold GStep
 rw [cal230 _ _ (by simp)]
 unfold GS.pass1 at hs
 obtain ⟨H1,c1,f1⟩:=c_gsize h head hh
 have h1:=h.fr f1
 have fx1:Fx [a.wb,rb] H H1:=Fx.of_fr f1
 have hv1:=hv.fx fx1
 have hg:=hv.get
 have hle:=(g.size_le head).2
 generalize (g.size head).2=fd at*
 generalize (g.size head).1=sz at*
 simp only [ptrV] at hg c1
 simp [C230,regsOf,ptrV,hg,c1]
 generalize hX:run J okAll (.loop L230_0) _ _=X
 obtain ⟨T1,hT,a0,a3,a16,a17⟩:∃T1,run J okAll (.loop L230_0) T1 H1=X∧T1.at 0=.int .i64 (o:Int)∧T1.at 3=ptrV sv∧T1.at 16=.int .i64 (fd:Int)∧T1.at 17=.int .i64 ((0:Nat):Int):=⟨_,hX,by simp,by simp [ptrV],by simp,by simp⟩
 obtain ⟨T2,H2,r1,r2,r3,r4⟩:=loop230 (a:=a) (sp:=sp) (rb:=rb) (sv:=sv) o fd (by omega) (by omega) (fun t=>T1.at t) a0 a3 a16 fd 0 g g' T1 H1 hs (by omega) h1 hv1 (fun _ _=>rfl) a17
 have r1:=hT.symm.trans r1
 subst r1
 exact ⟨⟨H2,by simp [regsOf,fin,iresult1],r2,fx1.trans r3 (fun x hx=>.inl hx)⟩,r4⟩
theorem GS.copy_same:∀(o to d i:Nat) {g g':GS},GS.copyGo o to i d g=some g'→GSame g g'
 |_,_,0,_,g,g',hs=>by simp only [GS.copyGo,Option.some.injEq] at hs;subst hs;exact .refl _
 |o,to,d+1,i,g,g',hs=>by
  unfold GS.copyGo at hs
  obtain ⟨w,_,hs⟩:=obind hs
  obtain ⟨g1,h2,hs⟩:=obind hs
  exact (GS.store_same h2).trans (GS.copy_same o to d (i+1) hs)
theorem loop232 (o to s:Nat) (ho:o≤2000000) (hto:to≤o) (hsz:s≤2000000) (K:Nat→Value) (k0:K 0=.int .i64 (o:Int)) (k1:K 1=.int .i64 (to:Int)) (k3:K 3=ptrV sv) (k7:K 7=.int .i64 (s:Int)):∀(d i:Nat) (g g':GS) (T:Regs) (H:IH),GS.copyGo o to i d g=some g'→d=s-i→i≤2000000→GsAt H a sp rb g→SvAt H a sv sp rb→(∀t,t<9→T.at t=K t)→T.at 9=.int .i64 (i:Int)→
  ∃T' H',run J okAll (.loop L232_0) T H=some (.exit 0,T',H')∧GsAt H' a sp rb g'∧Fx [a.wb,rb] H H':=by
 intro d
 induction d with
 |zero=>
  intro i g g' T H hs hd hi h hv hK t9
  simp only [GS.copyGo,Option.some.injEq] at hs
  subst hs
  have hlt:¬i<s:=by omega
  have t7:=(hK 7 (by omega)).trans k7
  rw [r_loop]
  simp [L232_0,t7,t9,hlt]
  exact ⟨_,_,⟨rfl,rfl⟩,h,.refl _ _⟩
 |succ d ih=>
  intro i g g' T H hs hd hi h hv hK t9
  unfold GS.copyGo at hs
  obtain ⟨w,h1,hs⟩:=obind hs
  obtain ⟨g1,h2,hs⟩:=obind hs
  have t0:=(hK 0 (by omega)).trans k0
  have t1:=(hK 1 (by omega)).trans k1
  have t3:=(hK 3 (by omega)).trans k3
  have t7:=(hK 7 (by omega)).trans k7
  have hlt:i<s:=by omega
  have hg:=hv.get
  have hw:=GS.load_lt h h1
  have c1:=c_gload h (o+i) h1
  obtain ⟨H1,c2,q1,f1⟩:=c_gstore h (to+i) w hw h2
  have hv1:=hv.fx f1
  have hg1:=hv1.get
  have hw1:IntKind.i64.wrap ((i:Int)+1)=((i+1:Nat):Int):=by rw [wrap64 _ (by omega) (by omega)];simp
  have w2:IntKind.i64.wrap ((o:Int)+(i:Int))=(o:Int)+(i:Int):=by rw [wrapI];omega
  have w3:IntKind.i64.wrap ((to:Int)+(i:Int))=(to:Int)+(i:Int):=by rw [wrapI];omega
  simp only [ptrV,Int.natCast_add] at t3 hg hg1 c1 c2
  obtain ⟨T1,s1,s2,s3⟩:∃T1,run J okAll (.loop L232_0) T H=run J okAll (.loop L232_0) T1 H1∧(∀t,t<9→T1.at t=K t)∧T1.at 9=.int .i64 ((i+1:Nat):Int):=by
   rw [r_loop]
   simp [L232_0,t0,t1,t3,t7,t9,hlt,hg,hg1,w2,w3,c1,c2,hw1]
   exact ⟨_,rfl,fun t ht=>by simp (disch:=omega) only [at_set_gt];exact hK t ht,by simp⟩
  obtain ⟨T2,H2,r1,r2,r3⟩:=ih (i+1) g1 g' T1 H1 hs (by omega) (by omega) q1 hv1 s2 s3
  exact ⟨T2,H2,s1.trans r1,r2,f1.trans r3 (fun x hx=>.inl hx)⟩
theorem c_pass2:PassOk a sp rb sv 232 GS.pass2:=by
 intro H g g' o to head h hv hs hh ho hto
 unfold GStep
 rw [cal232 _ _ (by simp)]
 unfold GS.pass2 at hs
 obtain ⟨g1,h1,hs⟩:=obind hs
 obtain ⟨H1,c1,f1⟩:=c_gsize h head hh
 have q1:=h.fr f1
 have fx1:Fx [a.wb,rb] H H1:=Fx.of_fr f1
 have hv1:=hv.fx fx1
 have hg:=hv.get
 have hg1:=hv1.get
 have hle:=(g.size_le head).1
 have cm:=c_Mark H1 head false hh
 have hml:=wMark_lt head false hh
 have cT:=c_Turn H1 (wMark head false) 0 hml (by omega)
 obtain ⟨H2,c2,q2,f2⟩:=c_gstore q1 to (wTurn (wMark head false) 0) (wTurn_lt _ _ hml) h1
 have hv2:=hv1.fx f2
 have hg2:=hv2.get
 generalize (g.size head).2=fd at*
 generalize (g.size head).1=sz at*
 simp only [ptrV,Int.cast_ofNat_Int,Int.natCast_zero] at hg hg1 hg2 c1 c2 cT
 simp [C232,regsOf,ptrV,hg,c1,hg1,cm,cT,c2,hg2]
 generalize hX:run J okAll (.loop L232_0) _ _=X
 obtain ⟨T1,hT,a0,a1,a3,a7,a9⟩:∃T1,run J okAll (.loop L232_0) T1 H2=X∧T1.at 0=.int .i64 (o:Int)∧T1.at 1=.int .i64 (to:Int)∧T1.at 3=ptrV sv∧T1.at 7=.int .i64 (sz:Int)∧T1.at 9=.int .i64 ((1:Nat):Int):=⟨_,hX,by simp,by simp,by simp [ptrV],by simp,by simp⟩
 obtain ⟨T2,H3,r1,r2,r3⟩:=loop232 (a:=a) (sp:=sp) (rb:=rb) (sv:=sv) o to sz (by omega) hto (by omega) (fun t=>T1.at t) a0 a1 a3 a7 (sz-1) 1 g1 g' T1 H2 hs rfl (by omega) q2 hv2 (fun _ _=>rfl) a9
 have r1:=hT.symm.trans r1
 subst r1
 exact ⟨⟨H3,by simp [regsOf,fin,iresult1],r2,(fx1.trans f2 (fun x hx=>.inl hx)).trans r3 (fun x hx=>.inl hx)⟩,(GS.store_same h1).trans (GS.copy_same _ _ _ _ hs)⟩
theorem loop229 {f:FuncId} (hb:hasBody J f=true) {F:Nat→Nat→Nat→GS→Option GS} (hF:PassOk a sp rb sv f F) (K:Nat→Value) (k0:K 0=ptrV sp) (k1:K 1=.func (.func f) #[] #[ptrV sv]):∀(n o to:Nat) (g g':GS) (to':Nat) (T:Regs) (H:IH),GS.liveGo F n o to g=some (to',g')→o≤2000000→to≤o→GsAt H a sp rb g→SvAt H a sv sp rb→(∀t,t<4→T.at t=K t)→T.at 5=.int .i64 (to:Int)→T.at 6=.int .i64 (o:Int)→
  ∃T' H',run J okAll (.loop L229_0) T H=some (.exit 0,T',H')∧GsAt H' a sp rb g'∧Fx [a.wb,rb] H H'∧GSame g g'∧T'.at 5=.int .i64 (to':Int):=by
 intro n
 induction n with
 |zero=>intro o to g g' to' T H hs;simp [GS.liveGo] at hs
 |succ n ih=>
  intro o to g g' to' T H hs ho hto h hv hK t5 t6
  unfold GS.liveGo at hs
  have t0:=(hK 0 (by omega)).trans k0
  have t1:=(hK 1 (by omega)).trans k1
  have hob:=h.obj
  have htop:=h.top
  simp only [HpA.ptr] at hob
  simp only [ptrV] at t0 t1
  by_cases hlt:o<g.top
  ·rw [if_pos hlt] at hs
   by_cases hot:o<to
   ·rw [if_pos hot] at hs;simp at hs
   rw [if_neg hot] at hs
   obtain ⟨head,h1,hs⟩:=obind hs
   have hh:=GS.load_lt h h1
   have c1:=c_gload h o h1
   have ci:=c_IsImm H head hh
   have cm:=c_Marked H head hh
   simp only [ptrV] at c1
   by_cases hc:(wIsImm head&& !wMarked head)=true
   ·rw [if_pos hc] at hs
    simp only [Bool.and_eq_true,Bool.not_eq_true'] at hc
    rw [hc.1] at ci
    rw [hc.2] at cm
    obtain ⟨H1,c2,f1⟩:=c_gsize h head hh
    have q1:=h.fr f1
    have fx1:Fx [a.wb,rb] H H1:=Fx.of_fr f1
    have hle:=(g.size_le head).1
    generalize (g.size head).2=fd at*
    generalize (g.size head).1=sz at*
    have w1:IntKind.i64.wrap ((o:Int)+(sz:Int))=(o:Int)+(sz:Int):=by rw [wrapI];omega
    simp only [ptrV] at c2
    obtain ⟨T1,s1,s2,s3,s4⟩:∃T1,run J okAll (.loop L229_0) T H=run J okAll (.loop L229_0) T1 H1∧(∀t,t<4→T1.at t=K t)∧T1.at 5=.int .i64 (to:Int)∧T1.at 6=.int .i64 ((o+sz:Nat):Int):=by
     rw [r_loop]
     simp [L229_0,t0,t1,t5,t6,hob,hlt,c1,ci,cm,c2,w1]
     exact ⟨_,rfl,fun t ht=>by simp (disch:=omega) only [at_set_gt];exact hK t ht,by simp [t5],by simp⟩
    obtain ⟨T2,H2,r1,r2,r3,r4,r5⟩:=ih (o+sz) to g g' to' T1 H1 hs (by omega) (by omega) q1 (hv.fx fx1) s2 s3 s4
    exact ⟨T2,H2,s1.trans r1,r2,fx1.trans r3 (fun x hx=>.inl hx),r4,r5⟩
   ·rw [if_neg hc] at hs
    obtain ⟨⟨w,g1⟩,h2,hs⟩:=obind hs
    obtain ⟨g2,h3,hs⟩:=obind hs
    simp only at h3 hs
    obtain ⟨⟨H1,c2,q1,f1⟩,hw,sm1⟩:=c_gunthread h (by omega) h2
    obtain ⟨H2,c3,f2⟩:=c_gsize q1 w hw
    have q2:=q1.fr f2
    have fx2:Fx [a.wb,rb] H1 H2:=Fx.of_fr f2
    have hv2:=(hv.fx f1).fx fx2
    obtain ⟨⟨H3,c4,q3,f3⟩,sm2⟩:=hF H2 g1 g2 o to w q2 hv2 h3 hw (by omega) hto
    have hle:=(g1.size_le w).1
    generalize (g1.size w).2=fd at*
    generalize (g1.size w).1=sz at*
    have w1:IntKind.i64.wrap ((o:Int)+(sz:Int))=(o:Int)+(sz:Int):=by rw [wrapI];omega
    have w2:IntKind.i64.wrap ((to:Int)+(sz:Int))=(to:Int)+(sz:Int):=by rw [wrapI];omega
    simp only [ptrV] at c2 c3 c4
    have fx3:=(f1.trans fx2 (fun x hx=>.inl hx)).trans f3 (fun x hx=>.inl hx)
    obtain ⟨T1,s1,s2,s3,s4⟩:∃T1,run J okAll (.loop L229_0) T H=run J okAll (.loop L229_0) T1 H3∧(∀t,t<4→T1.at t=K t)∧T1.at 5=.int .i64 ((to+sz:Nat):Int)∧T1.at 6=.int .i64 ((o+sz:Nat):Int):=by
     rw [r_loop]
     cases hi:wIsImm head with
     |true=>
      rw [hi] at ci hc
      have hm:wMarked head=true:=by simpa using hc
      rw [hm] at cm
      simp [L229_0,t0,t1,t5,t6,hob,hlt,c1,ci,cm,c2,c3,hb,c4,w1,w2]
      exact ⟨_,rfl,fun t ht=>by simp (disch:=omega) only [at_set_gt];exact hK t ht,by simp,by simp⟩
     |false=>
      rw [hi] at ci
      simp [L229_0,t0,t1,t5,t6,hob,hlt,c1,ci,c2,c3,hb,c4,w1,w2]
      exact ⟨_,rfl,fun t ht=>by simp (disch:=omega) only [at_set_gt];exact hK t ht,by simp,by simp⟩
    obtain ⟨T2,H4,r1,r2,r3,r4,r5⟩:=ih (o+sz) (to+sz) g2 g' to' T1 H3 hs (by omega) (by omega) q3 (hv2.fx f3) s2 s3 s4
    exact ⟨T2,H4,s1.trans r1,r2,fx3.trans r3 (fun x hx=>.inl hx),(sm1.trans sm2).trans r4,r5⟩
  ·rw [if_neg hlt] at hs
   simp only [Option.some.injEq,Prod.mk.injEq] at hs
   obtain ⟨rfl,rfl⟩:=hs
   rw [r_loop]
   simp [L229_0,t0,t1,t5,t6,hob,hlt]
   exact ⟨_,_,⟨rfl,rfl⟩,h,.refl _ _,.refl _,by simp [t5]⟩
theorem c_glive {H:IH} {g g':GS} {f:FuncId} (hb:hasBody J f=true) {F:Nat→Nat→Nat→GS→Option GS} (hF:PassOk a sp rb sv f F) (h:GsAt H a sp rb g) (hv:SvAt H a sv sp rb) {n to':Nat} (hs:GS.liveGo F n 0 0 g=some (to',g')):
  GStep H a sp rb (cal J okAll 229 #[ptrV sp,.func (.func f) #[] #[ptrV sv]] H) (.int .i64 (to':Int)) g'∧GSame g g':=by
 unfold GStep
 rw [cal229 _ _ (by simp)]
 simp [C229,regsOf,ptrV]
 generalize hX:run J okAll (.loop L229_0) _ _=X
 obtain ⟨T1,hT,a0,a1,a5,a6⟩:∃T1,run J okAll (.loop L229_0) T1 H=X∧T1.at 0=ptrV sp∧T1.at 1=.func (.func f) #[] #[ptrV sv]∧T1.at 5=.int .i64 ((0:Nat):Int)∧T1.at 6=.int .i64 ((0:Nat):Int):=⟨_,hX,by simp [ptrV],by simp [ptrV],by simp,by simp⟩
 obtain ⟨T2,H2,r1,r2,r3,r4,r5⟩:=loop229 (a:=a) (sp:=sp) (rb:=rb) (sv:=sv) hb hF (fun t=>T1.at t) a0 a1 n 0 0 g g' to' T1 H hs (by omega) (by omega) h hv (fun _ _=>rfl) a5 a6
 have r1:=hT.symm.trans r1
 subst r1
 exact ⟨⟨H2,by simp [regsOf,fin,iresult1,r5],r2,r3⟩,r4⟩
end
section
variable {H:IH} {a:HpA} {σ:Hp}
def natI (l:List Nat):List Int:=l.map fun (n:Nat)=>(n:Int)
theorem loop246 (h:HpAt H a σ) (m:Nat) (hm:m≤65536) (K:Nat→Value) (k0:K 0=a.ptr) (k6:K 6=.int .i64 (m:Int)):∀(d i:Nat) (T:Regs) (H':IH) (u:Value),i+d=m→Fr H.next H H'→WiAt H' H.next u (natI ((List.range i).filter σ.is))→(∀t,t∈[0,6]→T.at t=K t)→T.at 3=u→T.at 7=.int .i64 (i:Int)→
  ∃T' H'' u',run J okAll (.loop L246_0) T H'=some (.exit 0,T',H'')∧Fr H.next H H''∧WiAt H'' H.next u' (natI ((List.range m).filter σ.is))∧T'.at 3=u':=by
 intro d
 induction d with
 |zero=>
  intro i T H' u hd hf hu hK t3 t7
  have:i=m:=by omega
  subst this
  have t6:=(hK 6 (by simp)).trans k6
  obtain ⟨T',e1,e2⟩:∃T',run J okAll (.loop L246_0) T H'=some (.exit 0,T',H')∧T'.at 3=u:=by
   rw [r_loop]
   simp [L246_0,t6,t7,t3]
  exact ⟨T',H',u,e1,hf,hu,e2⟩
 |succ d ih=>
  intro i T H' u hd hf hu hK t3 t7
  have t0:=(hK 0 (by simp)).trans k0
  have t6:=(hK 6 (by simp)).trans k6
  have hlt:i<m:=by omega
  have h':=h.fr h.lt hf
  have ci:=c_Is h' (i:Int)
  have e0:(decide ((0:Int)≤(i:Int))&&σ.is ((i:Int)).toNat)=σ.is i:=by simp
  rw [e0] at ci
  have hw1:IntKind.i64.wrap ((i:Int)+1)=((i+1:Nat):Int):=by rw [wrap64 _ (by omega) (by omega)];simp
  simp only [HpA.ptr] at t0 ci
  have hr:(List.range (i+1)).filter σ.is=(List.range i).filter σ.is++if σ.is i=true then [i] else []:=by
   rw [List.range_succ,List.filter_append]
   congr 1
   by_cases hb:σ.is i=true<;>simp [hb]
  cases hb:σ.is i with
  |false=>
   rw [hb] at ci hr
   obtain ⟨T1,s1,s2,s3,s4⟩:∃T1,run J okAll (.loop L246_0) T H'=run J okAll (.loop L246_0) T1 H'∧(∀t,t∈[0,6]→T1.at t=K t)∧T1.at 3=u∧T1.at 7=.int .i64 ((i+1:Nat):Int):=by
    rw [r_loop]
    simp [L246_0,t0,t6,t7,hlt,ci,hw1]
    refine ⟨_,rfl,⟨?_,?_⟩,by simp [t3],by simp⟩
    ·simp [←hK 0 (by simp)]
    ·simp [←hK 6 (by simp)]
   obtain ⟨T2,H2,u2,r1,r2,r3,r4⟩:=ih (i+1) T1 H' u (by omega) hf (by rw [hr];simpa using hu) s2 s3 s4
   exact ⟨T2,H2,u2,s1.trans r1,r2,r3,r4⟩
  |true=>
   rw [hb] at ci hr
   have hll:(natI ((List.range i).filter σ.is)).length≤1000000:=by
    have:=List.length_filter_le σ.is (List.range i)
    simp only [natI,List.length_map,List.length_range] at this ⊢
    omega
   obtain ⟨u1,H1,q1,q2,q3⟩:=app_int hu hf.1 hll (i:Int)
   obtain ⟨ua,un,uc,hus⟩:∃x y z,u=.slice x y z:=by
    rcases hu with ⟨e,_⟩|⟨b,_,_,e,_⟩<;>exact ⟨_,_,_,e⟩
   rw [hus] at q1 t3
   have hu1:WiAt H1 H.next u1 (natI ((List.range (i+1)).filter σ.is)):=by
    rw [hr,if_pos rfl];unfold natI at q2 ⊢;simpa using q2
   obtain ⟨va,vn,vc,hvs⟩:∃x y z,u1=.slice x y z:=by
    rcases q2 with ⟨e,_⟩|⟨b,_,_,e,_⟩<;>exact ⟨_,_,_,e⟩
   rw [hvs] at q1
   obtain ⟨T1,s1,s2,s3,s4⟩:∃T1,run J okAll (.loop L246_0) T H'=run J okAll (.loop L246_0) T1 H1∧(∀t,t∈[0,6]→T1.at t=K t)∧T1.at 3=u1∧T1.at 7=.int .i64 ((i+1:Nat):Int):=by
    rw [r_loop]
    simp [L246_0,t0,t3,t6,t7,hlt,ci,iparts,bsi1,q1,hw1]
    refine ⟨_,rfl,⟨?_,?_⟩,by simp [hvs],by simp⟩
    ·simp [←hK 0 (by simp)]
    ·simp [←hK 6 (by simp)]
   obtain ⟨T2,H2,u2,r1,r2,r3,r4⟩:=ih (i+1) T1 H1 u1 (by omega) (hf.trans q3) hu1 s2 s3 s4
   exact ⟨T2,H2,u2,s1.trans r1,r2,r3,r4⟩
theorem c_Objects (h:HpAt H a σ):∃H' u,cal J okAll 246 #[a.ptr] H=some (.ret u,H')∧WiAt H' H.next u (natI σ.objects)∧Fr H.next H H':=by
 rw [cal246 _ _ (by simp)]
 have ct:=c_Top h
 have ht:=h.ok.top
 have hw:=h.ok.ws
 simp only [HpA.ptr] at ct
 simp [C246,regsOf,ct]
 generalize hX:run J okAll (.loop L246_0) _ _=X
 obtain ⟨T1,hT,a0,a3,a6,a7⟩:∃T1,run J okAll (.loop L246_0) T1 H=X∧T1.at 0=a.ptr∧T1.at 3=.slice none 0 0∧T1.at 6=.int .i64 (σ.top:Int)∧T1.at 7=.int .i64 ((0:Nat):Int):=⟨_,hX,by simp,by simp,by simp,by simp⟩
 obtain ⟨T2,H2,u,r1,r2,r3,r4⟩:=loop246 h σ.top (by omega) (fun t=>T1.at t) a0 a6 σ.top 0 T1 H (.slice none 0 0) (by omega) (.refl _ _) (.inl ⟨rfl,rfl⟩) (fun _ _=>rfl) a3 a7
 have r1:=hT.symm.trans r1
 subst r1
 obtain ⟨ua,un,uc,hus⟩:∃x y z,u=.slice x y z:=by
  rcases r3 with ⟨e,_⟩|⟨b,_,_,e,_⟩<;>exact ⟨_,_,_,e⟩
 rw [hus] at r4
 refine ⟨H2,u,by simp [regsOf,fin,iresult1,r4,hus],r3,r2⟩
theorem loop244b (h:HpAt H a σ) (o m:Nat) (ho:o≤65536) (hm:m<1048576) (hall:∀i,i<m→o+1+i<σ.ws.length∧σ.fits (σ.w (o+1+i))=true) (K:Nat→Value) (k0:K 0=a.ptr) (k4:K 4=.int .i64 (o:Int)) (k56:K 56=.int .i64 (m:Int)):∀(d i:Nat) (T:Regs),i+d=m→(∀t,t<57→t≠7→T.at t=K t)→T.at 57=.int .i64 (i:Int)→
  ∃T',run J okAll (.loop L244_0) T H=some (.exit 2,T',H)∧(∀t,t<57→t≠7→T'.at t=K t):=by
 intro d
 induction d with
 |zero=>
  intro i T hd hK t57
  have:i=m:=by omega
  subst this
  have t56:=(hK 56 (by omega) (by omega)).trans k56
  rw [r_loop]
  simp [L244_0,t56,t57]
  exact fun t h1 h2=>by simp (disch:=omega) only [at_set_om];exact hK t h1 h2
 |succ d ih=>
  intro i T hd hK t57
  have t0:=(hK 0 (by omega) (by omega)).trans k0
  have t4:=(hK 4 (by omega) (by omega)).trans k4
  have t56:=(hK 56 (by omega) (by omega)).trans k56
  have hlt:i<m:=by omega
  obtain ⟨g1,g2⟩:=hall i hlt
  have hob:=h.obj
  have hc:=h.cell _ g1
  have cf:=c_Fits h _ (h.wlt (o+1+i))
  rw [g2] at cf
  have hw1:IntKind.i64.wrap ((i:Int)+1)=((i+1:Nat):Int):=by rw [wrap64 _ (by omega) (by omega)];simp
  have w2:IntKind.i64.wrap ((o:Int)+1)=(o:Int)+1:=by rw [wrapI];omega
  have w3:IntKind.i64.wrap ((o:Int)+1+(i:Int))=((o+1+i:Nat):Int):=by rw [wrapI];omega
  simp only [HpA.ptr] at t0 cf
  obtain ⟨T1,s1,s2,s3⟩:∃T1,run J okAll (.loop L244_0) T H=run J okAll (.loop L244_0) T1 H∧(∀t,t<57→t≠7→T1.at t=K t)∧T1.at 57=.int .i64 ((i+1:Nat):Int):=by
   rw [r_loop]
   simp [L244_0,t0,t4,t56,t57,hlt,hob,h.ws,w2,w3,iindexAddr,g1,hc,cf,hw1,-Int.natCast_add]
   exact ⟨_,rfl,fun t h1 h2=>by simp (disch:=omega) only [at_set_om];exact hK t h1 h2,by simp⟩
  obtain ⟨T2,r1,r2⟩:=ih (i+1) T1 (by omega) s2 s3
  exact ⟨T2,s1.trans r1,r2⟩
end
section
variable {H:IH} {a:HpA} {σ:Hp}
theorem Hp.whole_ly {o:Nat} (e:σ.wholeAt o=true):wShape (σ.w o)<σ.ly.length∧o<σ.ws.length∧(if σ.kind (wShape (σ.w o))=3 then (wLen (σ.w o)%8=0∨(o+1+wLen (σ.w o) / 8<σ.ws.length∧σ.w (o+1+wLen (σ.w o) / 8) / 2^(wLen (σ.w o)%8*8)=0)) else ∀i,i<wLen (σ.w o)→o+1+i<σ.ws.length∧σ.fits (σ.w (o+1+i))=true):=by
 unfold Hp.wholeAt at e
 simp only [Bool.and_eq_true,decide_eq_true_eq] at e
 obtain ⟨⟨e1,e2⟩,e3⟩:=e
 refine ⟨e1,e2,?_⟩
 split
 ·rename_i hk
  rw [if_pos hk] at e3
  simpa only [Bool.or_eq_true,Bool.and_eq_true,decide_eq_true_eq] using e3
 ·rename_i hk
  rw [if_neg hk,List.all_eq_true] at e3
  intro i hi
  have:=e3 i (List.mem_range.2 hi)
  simpa only [Bool.and_eq_true,decide_eq_true_eq] using this
theorem loop244a (h:HpAt H a σ) {lo:Nat} {u:Value} (l:List Nat) (hl:l.length≤65536) (hu:WiAt H lo u (natI l)) (hall:∀o∈l,σ.wholeAt o=true) (K:Nat→Value) (k0:K 0=a.ptr) (k9:K 9=u) (k10:K 10=.int .i64 (l.length:Int)):∀(d i:Nat) (T:Regs),i+d=l.length→(∀t,t∈[0,9,10]→T.at t=K t)→T.at 11=.int .i64 (i:Int)→
  ∃T',run J okAll (.loop L244_1) T H=some (.exit 0,T',H):=by
 intro d
 induction d with
 |zero=>
  intro i T hd hK t11
  have:i=l.length:=by omega
  subst this
  have t10:=(hK 10 (by simp)).trans k10
  rw [r_loop]
  simp [L244_1,t10,t11]
 |succ d ih=>
  intro i T hd hK t11
  have t0:=(hK 0 (by simp)).trans k0
  have t9:=(hK 9 (by simp)).trans k9
  have t10:=(hK 10 (by simp)).trans k10
  have hlt:i<l.length:=by omega
  obtain ⟨b,hub,hbg⟩:∃b,u=.slice (some ⟨b,0,none⟩) l.length capU∧H.get b=some (.cells (intsC (natI l)) 3 false):=by
   rcases hu with ⟨_,e⟩|⟨b,_,_,e,g⟩
   ·simp [natI] at e;rw [e] at hlt;simp at hlt
   ·exact ⟨b,by simpa [natI] using e,g⟩
  rw [hub] at t9
  obtain ⟨o,hol⟩:∃o,o=l[i]:=⟨_,rfl⟩
  have hcell:(intsC (natI l))[i]?=some (.int .i64 (o:Int)):=by
   simp [intsC,natI,intV,hlt,hol]
  obtain ⟨y1,y2,y3⟩:=Hp.whole_ly (hall o (hol▸List.getElem_mem hlt))
  have hob:=h.obj
  have hws:=h.ok.ws
  have hlyk:=h.ok.ly
  have hxl:=h.wlt o
  have hc:=h.cell o y2
  generalize hx:σ.w o=x at*
  have cl:=c_Len H x hxl
  have cs:=c_Shape H x hxl
  have hln:wLen x<1048576:=by unfold wLen;omega
  obtain ⟨lb0,lc,el,hll⟩:=h.lyS
  obtain ⟨lb,rfl,hlg⟩:=hll (by omega)
  rw [el] at hob
  have hkd:=(lyc_get σ.ly (wShape x) y1).1
  rw [Nat.mul_comm,σ.kind_eq _ y1] at hkd
  generalize wShape x=s at*
  generalize wLen x=n at*
  have hw1:IntKind.i64.wrap ((i:Int)+1)=((i+1:Nat):Int):=by rw [wrap64 _ (by omega) (by omega)];simp
  simp only [HpA.ptr] at t0
  by_cases hk:σ.kind s=3
  ·rw [if_pos hk] at y3
   rw [hk] at hkd
   obtain ⟨q,hq⟩:∃q,q=n / 8:=⟨_,rfl⟩
   obtain ⟨r,hr⟩:∃r,r=n%8:=⟨_,rfl⟩
   rw [←hq,←hr] at y3
   have e6:(n:Int).tmod 8=(r:Int):=by rw [Int.tmod_eq_emod_of_nonneg (by omega)];omega
   have e7:(n:Int)%8=(r:Int):=by omega
   obtain ⟨T1,s1,s2,s3⟩:∃T1,run J okAll (.loop L244_1) T H=run J okAll (.loop L244_1) T1 H∧(∀t,t∈[0,9,10]→T1.at t=K t)∧T1.at 11=.int .i64 ((i+1:Nat):Int):=by
    rcases y3 with y3|⟨y3,y4⟩
    ·have hr0:¬0<r:=by omega
     rw [r_loop]
     simp [L244_1,t0,t9,t10,t11,hlt,iindexAddr,hbg,hcell,hob,h.ws,y2,hc,cl,cs,y1,hlg,hkd,e6,e7,y3,hw1,-Int.natCast_add]
     exact ⟨_,rfl,by simp [←hK 0 (by simp),←hK 9 (by simp),←hK 10 (by simp)],by simp⟩
    ·by_cases hr0:r=0
     ·rw [r_loop]
      simp [L244_1,t0,t9,t10,t11,hlt,iindexAddr,hbg,hcell,hob,h.ws,y2,hc,cl,cs,y1,hlg,hkd,e6,e7,hr0,hw1,-Int.natCast_add]
      exact ⟨_,rfl,by simp [←hK 0 (by simp),←hK 9 (by simp),←hK 10 (by simp)],by simp⟩
     have hr1:0<r:=by omega
     have hr1':decide ((r:Int)≤0)=false:=decide_eq_false (by omega)
     have e0:IntKind.i64.wrap ((n:Int) / 8)=(q:Int):=by rw [wrapI];omega
     have e1:IntKind.i64.wrap ((o:Int)+1)=(o:Int)+1:=by rw [wrapI];omega
     have e2:IntKind.i64.wrap ((o:Int)+1+q)=((o+1+q:Nat):Int):=by rw [wrapI];omega
     obtain ⟨t,ht8⟩:∃t,t=r*8:=⟨_,rfl⟩
     have e8:IntKind.i64.wrap ((r:Int)*8)=(t:Int):=by rw [wrapI];omega
     have hm:min t 64=t:=by omega
     rw [←ht8] at y4
     have hc2:=h.cell _ y3
     have e9:(σ.w (o+1+q):Int).fdiv (2^t)=0:=by
      have e:=fdiv_nat (σ.w (o+1+q)) (2^t)
      have e':(((2^t:Nat)):Int)=(2:Int)^t:=by simp
      rw [e'] at e
      rw [e,y4];rfl
     have e10:IntKind.u64.wrap 0=0:=rfl
     rw [r_loop]
     simp [L244_1,t0,t9,t10,t11,hlt,iindexAddr,hbg,hcell,hob,h.ws,y2,hc,cl,cs,y1,hlg,hkd,e6,e7,hr1,e0,e1,e2,y3,hc2,e8,hm,e9,e10,hw1,-Int.natCast_add]
     exact ⟨_,rfl,by simp [←hK 0 (by simp),←hK 9 (by simp),←hK 10 (by simp)],by simp⟩
   obtain ⟨T2,r1⟩:=ih (i+1) T1 (by omega) s2 s3
   exact ⟨T2,s1.trans r1⟩
  ·rw [if_neg hk] at y3
   have hkD:decide (σ.kind s=3)=false:=decide_eq_false hk
   obtain ⟨T1,s1,s2,s3⟩:∃T1,run J okAll (.loop L244_1) T H=run J okAll (.loop L244_1) T1 H∧(∀t,t∈[0,9,10]→T1.at t=K t)∧T1.at 11=.int .i64 ((i+1:Nat):Int):=by
    rw [r_loop]
    simp [L244_1,t0,t9,t10,t11,hlt,iindexAddr,hbg,hcell,hob,h.ws,y2,hc,cl,cs,y1,hlg,hkd,hk,hkD,-Int.natCast_add]
    generalize hX:run J okAll (.loop L244_0) _ _=X
    obtain ⟨T3,hT,a0,a4,a9,a10,a11,a56,a57⟩:∃T3,run J okAll (.loop L244_0) T3 H=X∧T3.at 0=a.ptr∧T3.at 4=.int .i64 (o:Int)∧T3.at 9=u∧T3.at 10=.int .i64 (l.length:Int)∧T3.at 11=.int .i64 (i:Int)∧T3.at 56=.int .i64 (n:Int)∧T3.at 57=.int .i64 ((0:Nat):Int):=⟨_,hX,by simp [t0],by simp,by simp [t9,hub],by simp [t10],by simp [t11],by simp,by simp⟩
    obtain ⟨T4,q1,q2⟩:=loop244b h o n (by omega) hln y3 (fun t=>T3.at t) a0 a4 a56 n 0 T3 (by omega) (fun _ _ _=>rfl) a57
    have q1:=hT.symm.trans q1
    subst q1
    have b0:=(q2 0 (by omega) (by omega)).trans a0
    have b9:=(q2 9 (by omega) (by omega)).trans a9
    have b10:=(q2 10 (by omega) (by omega)).trans a10
    have b11:=(q2 11 (by omega) (by omega)).trans a11
    simp [b11,hw1,-Int.natCast_add]
    exact ⟨_,rfl,by simp [b0,b9,b10,k0,k9,k10],by simp⟩
   obtain ⟨T2,r1⟩:=ih (i+1) T1 (by omega) s2 s3
   exact ⟨T2,s1.trans r1⟩
theorem c_whole (h:HpAt H a σ) (hw:σ.whole=true):∃H',cal J okAll 244 #[a.ptr] H=some (.ret (.bool true),H')∧Fr H.next H H':=by
 rw [cal244 _ _ (by simp)]
 obtain ⟨H1,u,c1,hu,f1⟩:=c_Objects h
 have h1:=h.fr h.lt f1
 have hlen:σ.objects.length≤65536:=by
  unfold Hp.objects
  have:=List.length_filter_le σ.is (List.range σ.top)
  have h2:=h.ok.top
  have h3:=h.ok.ws
  simp only [List.length_range] at this
  omega
 obtain ⟨ua,uc,hus⟩:∃x z,u=.slice x σ.objects.length z:=by
  rcases hu with ⟨e,e2⟩|⟨b,_,_,e,_⟩
  ·simp only [natI,List.map_eq_nil_iff] at e2
   exact ⟨none,0,by rw [e,e2];rfl⟩
  ·exact ⟨_,_,by simpa [natI] using e⟩
 simp only [HpA.ptr] at c1
 rw [hus] at c1
 simp [C244,regsOf,c1]
 generalize hX:run J okAll (.loop L244_1) _ _=X
 obtain ⟨T1,hT,a0,a9,a10,a11⟩:∃T1,run J okAll (.loop L244_1) T1 H1=X∧T1.at 0=a.ptr∧T1.at 9=u∧T1.at 10=.int .i64 (σ.objects.length:Int)∧T1.at 11=.int .i64 ((0:Nat):Int):=⟨_,hX,by simp,by simp [hus],by simp,by simp⟩
 obtain ⟨T2,r1⟩:=loop244a h1 σ.objects hlen hu (List.all_eq_true.1 hw) (fun t=>T1.at t) a0 a9 a10 σ.objects.length 0 T1 (by omega) (fun _ _=>rfl) a11
 have r1:=hT.symm.trans r1
 subst r1
 exact ⟨H1,by simp [regsOf,fin,iresult1],f1⟩
end
theorem iop_clear (T:Regs) (H:IH) (dst:Option Tmp) (type:TypeId) (pos:String) (after:Array Edge) (guard:Option (Nat×Bool)) (x:Operand) (at_:Array TypeId):iop J ⟨dst,.call ⟨.builtin .clear,#[x],at_⟩,type,pos,after,guard⟩ T H=OR.ofPair (iclear J at_ (iev T x) H):=by
 simp [iop,icall0]
section
variable {H:IH} {a:HpA} {σ:Hp}
theorem HpAt.setWs (h:HpAt H a σ) {ws:List Nat} (hl:ws.length=σ.ws.length) (hw:∀w∈ws,w<18446744073709551616):HpAt (H.set a.wb (.cells (u64c ws) 62 false)) a { σ with ws:=ws }:=by
 have hk:=h.ok
 refine ⟨?_,?_,?_,?_,⟨by simp only [hl];exact hk.ws,by simp only [hl];exact hk.hd,hw,hk.hlt,hk.ly,by simp only [hl];exact hk.top⟩,by simpa using h.lt,h.sep⟩
 ·rw [IH.get_set,if_neg h.ne1,h.obj];simp only [hl]
 ·rw [IH.get_set,if_pos rfl]
 ·rw [IH.get_set,if_neg (Ne.symm h.sep),h.hd]
 ·rcases h.ly with h1|⟨lb,h1,h2⟩
  ·exact .inl h1
  ·exact .inr ⟨lb,h1,by rw [IH.get_set,if_neg (h.ne3 h1).1];exact h2⟩
theorem clear_u64 {ws:List Nat} {wb top m c:Nat} (hg:H.get wb=some (.cells (u64c ws) 62 false)) (hl:ws.length=top+m) (hm:0<m):
  iclear J #[136] (.slice (some ⟨wb,top,none⟩) m c) H=some (.tuple #[],H.set wb (.cells (u64c (ws.take top++List.replicate m 0)) 62 false)):=by
 have h0:¬m=0:=by omega
 have e:List.take top (u64c ws)++(List.replicate m (Value.int .u64 0)++List.drop (top+m) (u64c ws))=u64c (ws.take top++List.replicate m 0):=by
  rw [List.drop_eq_nil_of_le (by rw [u64c_len];omega)]
  simp [u64c,List.map_take]
 simp [iclear,iput,h0,Value.cells,hg,overlay,u64c_len,hl,plain1,e]
theorem loop237 (h:HpAt H a σ) (top nb:Nat) (htop:top≤σ.ws.length) (hnb:H.next≤nb) (K:Nat→Value) (k0:K 0=a.ptr) (k1:K 1=.int .i64 (top:Int)) (k5:K 5=.slice (some ⟨nb,0,none⟩) σ.hd.length σ.hd.length):∀(n o:Nat) (hd hd':List Nat) (T:Regs) (H':IH),closeGo σ top n o hd=some hd'→hd.length=σ.hd.length→(∀w∈hd,w<18446744073709551616)→
  Fr H.next H H'→nb<H'.next→H'.get nb=some (.cells (u64c hd) 62 false)→(∀t,t<6→T.at t=K t)→T.at 6=.int .i64 (o:Int)→
  ∃T' H'',run J okAll (.loop L237_0) T H'=some (.exit 0,T',H'')∧Fr H.next H H''∧nb<H''.next∧H''.get nb=some (.cells (u64c hd') 62 false)∧hd'.length=σ.hd.length∧(∀w∈hd',w<18446744073709551616)∧(∀t,t<6→T'.at t=K t):=by
 intro n
 induction n with
 |zero=>intro o hd hd' T H' hs;simp [closeGo] at hs
 |succ n ih=>
  intro o hd hd' T H' hs hdl hdw hf hnb2 hg hK t6
  unfold closeGo at hs
  have t0:=(hK 0 (by omega)).trans k0
  have t1:=(hK 1 (by omega)).trans k1
  have t5:=(hK 5 (by omega)).trans k5
  have hws:=h.ok.ws
  simp only [HpA.ptr] at t0
  by_cases hlt:o<top
  ·rw [if_pos hlt] at hs
   simp only at hs
   have h':=h.fr h.lt hf
   have hxl:=h.wlt o
   have hc:=h.cell o (by omega)
   have hob:=h'.obj
   have hw':=h'.ws
   have hlt2:o<σ.ws.length:=by omega
   have hxe:=σ.w_eq o hlt2
   generalize σ.w o=x at*
   have cs:=c_Shape H' x hxl
   have cl:=c_Len H' x hxl
   have hln:wLen x<1048576:=by unfold wLen;omega
   have hsn:wShape x<1048576:=by unfold wShape;omega
   obtain ⟨H1,f1,c1⟩:=c_Need h' ((wShape x:Nat):Int) ((wLen x:Nat):Int) (by omega)
   have cs1:=c_Shape H1 x hxl
   have cl1:=c_Len H1 x hxl
   have cH:=c_Head H1 (wShape x) (wLen x) (by omega) (by omega)
   generalize hp:σ.need ((wShape x:Nat):Int) ((wLen x:Nat):Int)=p at*
   obtain ⟨ps,pe⟩:=p
   simp only at hs c1
   by_cases hcond:pe=0∧x=wHead (wShape x) (wLen x)∧ps≤(top:Int)-(o:Int)
   ·rw [if_pos hcond] at hs
    obtain ⟨rfl,hxh,hps⟩:=hcond
    obtain ⟨_,_,_,_,hk1,_,_⟩:=Hp.need_ok hp
    obtain ⟨k,rfl⟩:∃k:Nat,ps=k:=⟨ps.toNat,by omega⟩
    rw [Int.toNat_natCast] at hs
    have hD1:decide ((x:Int)=((wHead (wShape x) (wLen x):Nat):Int))=true:=decide_eq_true (by omega)
    have w1:IntKind.i64.wrap ((top:Int)-(o:Int))=(top:Int)-(o:Int):=by rw [wrapI];omega
    have hD2:¬(top:Int)-(o:Int)<(k:Int):=by omega
    have w2:IntKind.i64.wrap ((o:Int)+(k:Int))=((o+k:Nat):Int):=by rw [wrapI];omega
    obtain ⟨q,hq⟩:∃q,q=o / 64:=⟨_,rfl⟩
    obtain ⟨r,hr⟩:∃r,r=o%64:=⟨_,rfl⟩
    have hhd:=h.ok.hd
    have hqlt:q<hd.length:=by omega
    have hqlt1:q+1≤hd.length:=by omega
    have hqlt2:q<σ.hd.length:=by omega
    have hqlt3:q+1≤σ.hd.length:=by omega
    have e2:IntKind.i64.wrap ((o:Int) / 64)=(q:Int):=by rw [wrapI];omega
    have e3:(o:Int)%64=(r:Int):=by omega
    have e3':(o:Int).tmod 64=(r:Int):=by rw [Int.tmod_eq_emod_of_nonneg (by omega)];omega
    have hm:min r 64=r:=by omega
    have hw0:=hdw _ (List.getElem_mem hqlt)
    have hor:=or_bit hd[q] r hw0 (by omega)
    have hcell:=u64c_get hd q hqlt
    rw [←hq,←hr,List.getElem?_eq_getElem hqlt,Option.getD_some] at hs
    have hg1:H1.get nb=some (.cells (u64c hd) 62 false):=(f1.2 nb hnb2).trans hg
    have hwh:((wHead (wShape x) (wLen x):Nat):Int)=(x:Int):=by omega
    rw [hwh] at cH
    obtain ⟨T1,s1,s2,s3⟩:∃T1,run J okAll (.loop L237_0) T H'=run J okAll (.loop L237_0) T1 (H1.set nb (.cells (u64c (hd.set q (bitOr hd[q] r))) 62 false))∧(∀t,t<6→T1.at t=K t)∧T1.at 6=.int .i64 ((o+k:Nat):Int):=by
     rw [r_loop]
     simp [L237_0,t0,t1,t5,t6,hlt,hob,hw',iindexAddr,hlt2,hc,hxe,cs,cl,c1,cs1,cl1,cH,w1,hD2,e2,e3,e3',hm,hqlt,hqlt1,hqlt2,hqlt3,hdl,hg1,hcell,hor,istore,Value.cells,plain1,overlay,u64c_len,u64c_put,w2,-Int.natCast_add]
     exact ⟨_,rfl,fun t ht=>by simp (disch:=omega) only [at_set_gt];exact hK t ht,by simp⟩
    have f2:Fr H.next H (H1.set nb (.cells (u64c (hd.set q (bitOr hd[q] r))) 62 false)):=(hf.trans (f1.of_le hf.1)).set hnb _
    obtain ⟨T2,H2,r1,r2⟩:=ih (o+k) _ hd' T1 _ hs (by rw [List.length_set];exact hdl) (fun w hw=>by
     rcases List.mem_or_eq_of_mem_set hw with h1|h1
     ·exact hdw w h1
     ·rw [h1];exact bitOr_lt _ _ hw0 (by omega)) f2 (by rw [IH.next_set];exact Nat.lt_of_lt_of_le hnb2 f1.1) (by rw [IH.get_set,if_pos rfl]) s2 s3
    exact ⟨T2,H2,s1.trans r1,r2⟩
   ·rw [if_neg hcond] at hs;simp at hs
  ·rw [if_neg hlt] at hs
   simp only [Option.some.injEq] at hs
   subst hs
   rw [r_loop]
   simp [L237_0,t0,t1,t5,t6,hlt]
   exact ⟨_,_,⟨rfl,rfl⟩,hf,hnb2,hg,hdl,hdw,fun t ht=>by simp (disch:=omega) only [at_set_gt];exact hK t ht⟩
theorem c_Close (h:HpAt H a σ) {n top:Nat} {σ':Hp} (hs:σ.close n top=some σ'):∃H' nb,cal J okAll 237 #[a.ptr,.int .i64 (top:Int)] H=some (.ret (.int .i64 0),H')∧HpAt H' { a with hb:=nb } σ'∧Fx [a.p,a.wb] H H'∧H.next≤nb∧nb<H'.next:=by
 suffices hh:∃H',cal J okAll 237 #[a.ptr,.int .i64 (top:Int)] H=some (.ret (.int .i64 0),H')∧HpAt H' { a with hb:=H.next } σ'∧Fx [a.p,a.wb] H H'∧H.next<H'.next by
  obtain ⟨H',e1,e2,e3,e4⟩:=hh
  exact ⟨H',H.next,e1,e2,e3,Nat.le_refl _,e4⟩
 rw [cal237 _ _ (by simp)]
 unfold Hp.close at hs
 by_cases htop:top≤σ.ws.length
 rotate_left
 ·rw [if_neg htop] at hs;simp at hs
 rw [if_pos htop] at hs
 obtain ⟨hd,h1,hs⟩:=obind hs
 by_cases hw:({ σ with hd:=hd,top:=top }:Hp).whole=true
 rotate_left
 ·rw [if_neg hw] at hs;simp at hs
 rw [if_pos hw] at hs
 simp only [Option.some.injEq] at hs
 subst hs
 have hob:=h.obj
 have hws:=h.ok.ws
 have hhd:=h.ok.hd
 have m1:=mk_u64 H σ.hd.length (by omega)
 have hD1:¬(σ.ws.length:Int)<(top:Int):=by omega
 have hD0:¬(top:Int)<0:=by omega
 obtain ⟨H1,hH1⟩:∃H1,H1=H.push (.cells (u64c (List.replicate σ.hd.length 0)) 62 false):=⟨_,rfl⟩
 rw [←hH1] at m1
 have f1:Fr H.next H H1:=by rw [hH1];exact (Fr.refl _ _).push (Nat.le_refl _) _
 have hg1:H1.get H.next=some (.cells (u64c (List.replicate σ.hd.length 0)) 62 false):=by rw [hH1,IH.get_push_same]
 simp [C237,regsOf,nilEq,fitsNil,hob,hD1,hD0,m1]
 generalize hX:run J okAll (.loop L237_0) _ _=X
 obtain ⟨T1,hT,a0,a1,a5,a6⟩:∃T1,run J okAll (.loop L237_0) T1 H1=X∧T1.at 0=a.ptr∧T1.at 1=.int .i64 (top:Int)∧T1.at 5=.slice (some ⟨H.next,0,none⟩) σ.hd.length σ.hd.length∧T1.at 6=.int .i64 ((0:Nat):Int):=⟨_,hX,by simp,by simp,by simp,by simp⟩
 obtain ⟨T2,H2,r1,f2,n2,g2,d1,d2,k2⟩:=loop237 h top H.next htop (Nat.le_refl _) (fun t=>T1.at t) a0 a1 a5 n 0 (List.replicate σ.hd.length 0) hd T1 H1 h1 (by simp) (fun w hw=>by rw [List.eq_of_mem_replicate hw];decide) f1 (by rw [hH1];simp) hg1 (fun _ _=>rfl) a6
 have r1:=hT.symm.trans r1
 subst r1
 have b0:=(k2 0 (by omega)).trans a0
 have b1:=(k2 1 (by omega)).trans a1
 have b5:=(k2 5 (by omega)).trans a5
 have h2:=h.fr h.lt f2
 have ob2:=h2.obj
 obtain ⟨lt1,lt2,lt3,lt4⟩:=h.lt
 obtain ⟨H3,hH3⟩:∃H3,H3=H2.set a.p (.cells [.slice (some ⟨a.wb,0,none⟩) σ.ws.length σ.ws.length,.slice (some ⟨H.next,0,none⟩) σ.hd.length σ.hd.length,a.lv,.int .i64 (top:Int)] 171 false):=⟨_,rfl⟩
 have g3:∀z,z≠a.p→H3.get z=H2.get z:=fun z hz=>by rw [hH3,IH.get_set,if_neg hz]
 have n3:H3.next=H2.next:=by rw [hH3];simp
 have hne1:=h.ne1
 have h3:HpAt H3 { a with hb:=H.next } { σ with hd:=hd,top:=top }:=by
  refine ⟨?_,?_,?_,?_,⟨h.ok.ws,by simp only [d1];exact hhd,h.ok.wlt,d2,h.ok.ly,htop⟩,⟨?_,?_,?_,fun lb l c e=>?_⟩,?_⟩
  ·rw [hH3,IH.get_set,if_pos rfl];simp only [d1]
  ·rw [g3 _ (Ne.symm hne1)];exact h2.ws
  ·rw [g3 _ (by simp only;omega)];exact g2
  ·rcases h2.ly with e|⟨lb,e1,e2⟩
   ·exact .inl e
   ·exact .inr ⟨lb,e1,by rw [g3 _ (h2.ne3 e1).2.2];exact e2⟩
  ·have:=f2.1;simp only;omega
  ·have:=f2.1;simp only;omega
  ·simp only;omega
  ·have:=f2.1;have:=lt4 lb l c e;omega
  ·simp only;omega
 obtain ⟨H4,c4,f4⟩:=c_whole h3 hw
 have h4:=h3.fr h3.lt f4
 have ob4:=h4.obj
 have gw4:=h4.ws
 simp only [HpA.ptr,d1] at c4 ob4 gw4
 have fx3:Fx [a.p,a.wb] H H3:=by
  rw [hH3]
  exact (Fx.of_fr f2).set (.inl (by simp)) _
 have fx4:Fx [a.p,a.wb] H H4:=fx3.trans (Fx.of_fr f4 (l:=[])) (by simp)
 have hnx:H.next<H4.next:=by have:=f4.1;omega
 by_cases hm:top=σ.ws.length
 ·subst hm
  refine ⟨H4,?_,?_,fx4,hnx⟩
  ·simp [regsOf,fin,iresult1,b0,b1,b5,ob2,istore,Value.cells,plain1,overlay,←hH3,c4,ob4,islice,ibound,gw4,iop_clear,iclear]
  ·have e:({ σ with hd:=hd,top:=σ.ws.length,ws:=σ.ws.take σ.ws.length++List.replicate (σ.ws.length-σ.ws.length) 0 }:Hp)= { σ with hd:=hd,top:=σ.ws.length }:=by
    simp
   rw [e];exact h4
 ·have hm0:0<σ.ws.length-top:=by omega
  have hcl:=clear_u64 (c:=σ.ws.length-top) gw4 (top:=top) (m:=σ.ws.length-top) (by omega) hm0
  refine ⟨H4.set a.wb (.cells (u64c (σ.ws.take top++List.replicate (σ.ws.length-top) 0)) 62 false),?_,?_,fx4.set (.inl (by simp)) _,by simpa using hnx⟩
  ·have hc0:(65536:Nat)<capU:=by decide
   have hcap:¬σ.ws.length=capU:=by omega
   have hif:(if top=0 then ({ block:=a.wb,off:=0 }:Addr) else { block:=a.wb,off:=top })= { block:=a.wb,off:=top }:=by
    split
    ·rename_i e;rw [e]
    ·rfl
   simp [regsOf,fin,iresult1,b0,b1,b5,ob2,istore,Value.cells,plain1,overlay,←hH3,c4,ob4,islice,ibound,gw4,htop,iop_clear,hcap,Addr.add,hif,hcl]
  ·have:=h4.setWs (ws:=σ.ws.take top++List.replicate (σ.ws.length-top) 0) (by simp;omega) (fun w hw=>by
    rcases List.mem_append.1 hw with hm1|hm1
    ·exact h.ok.wlt w (List.mem_of_mem_take hm1)
    ·rw [List.eq_of_mem_replicate hm1];decide)
   exact this
end
theorem bld_sw (x y:Option Addr) (n c:Nat) (t:Int):ibuild J 294 [(0,.pointer x),(1,.slice y n c),(2,.int .i64 t)]=some (.agg #[.pointer x,.slice y n c,.int .i64 t]):=by kernel_rfl
section
variable {H:IH} {a:HpA} {σ:Hp}
theorem WsAt.val {lo:Nat} {u:Value} {ws:List Nat} (h:WsAt H lo u ws):∃x c,u=.slice x ws.length c∧(0<ws.length→∃b,x=some ⟨b,0,none⟩∧b<H.next∧H.get b=some (.cells (u64c ws) 62 false)):=by
 rcases h with ⟨e,e2⟩|⟨b,_,h2,e,g⟩
 ·exact ⟨none,0,by rw [e,e2];rfl,fun h=>by rw [e2] at h;simp at h⟩
 ·exact ⟨_,_,e,fun _=>⟨b,rfl,h2,g⟩⟩
theorem loop226 (h:HpAt H a σ) {lo:Nat} {u:Value} {ws:List Nat} (hu:WsAt H lo u ws) (hw:∀w∈ws,w<18446744073709551616) (hf:∀w∈ws,σ.fits w=true) (hl:ws.length≤1000000) (K:Nat→Value) (k0:K 0=a.ptr) (k10:K 10=u) (k11:K 11=.int .i64 (ws.length:Int)):∀(d i:Nat) (T:Regs),i+d=ws.length→(∀t,t<12→t≠7→T.at t=K t)→T.at 12=.int .i64 (i:Int)→
  ∃T',run J okAll (.loop L226_0) T H=some (.exit 0,T',H)∧(∀t,t<12→t≠7→T'.at t=K t):=by
 intro d
 induction d with
 |zero=>
  intro i T hd hK t12
  have:i=ws.length:=by omega
  subst this
  have t11:=(hK 11 (by omega) (by omega)).trans k11
  rw [r_loop]
  simp [L226_0,t11,t12]
  exact fun t h1 h2=>by simp (disch:=omega) only [at_set_om];exact hK t h1 h2
 |succ d ih=>
  intro i T hd hK t12
  have t0:=(hK 0 (by omega) (by omega)).trans k0
  have t10:=(hK 10 (by omega) (by omega)).trans k10
  have t11:=(hK 11 (by omega) (by omega)).trans k11
  have hlt:i<ws.length:=by omega
  obtain ⟨x,c,e,hx⟩:=hu.val
  obtain ⟨b,rfl,hb,hg⟩:=hx (by omega)
  rw [e] at t10
  have hc:=u64c_get ws i hlt
  have hm:ws[i]∈ws:=List.getElem_mem hlt
  have cf:=c_Fits h ws[i] (hw _ hm)
  rw [hf _ hm] at cf
  have hw1:IntKind.i64.wrap ((i:Int)+1)=((i+1:Nat):Int):=by rw [wrap64 _ (by omega) (by omega)];simp
  simp only [HpA.ptr] at t0 cf
  obtain ⟨T1,s1,s2,s3⟩:∃T1,run J okAll (.loop L226_0) T H=run J okAll (.loop L226_0) T1 H∧(∀t,t<12→t≠7→T1.at t=K t)∧T1.at 12=.int .i64 ((i+1:Nat):Int):=by
   rw [r_loop]
   simp [L226_0,t0,t10,t11,t12,hlt,iindexAddr,hg,hc,cf,hw1,-Int.natCast_add]
   exact ⟨_,rfl,fun t h1 h2=>by simp (disch:=omega) only [at_set_om];exact hK t h1 h2,by simp⟩
  obtain ⟨T2,r1,r2⟩:=ih (i+1) T1 (by omega) s2 s3
  exact ⟨T2,s1.trans r1,r2⟩
theorem c_gbegin (h:HpAt H a σ) {lo:Nat} {u:Value} {ws:List Nat} (hu:WsAt H lo u ws) (hw:∀w∈ws,w<18446744073709551616) (hf:ws.all σ.fits=true) (hl:ws.length≤1000000):
  ∃H' sp rb,cal J okAll 226 #[a.ptr,u] H=some (.ret (.tuple #[ptrV sp,.int .i64 0]),H')∧GsAt H' a sp rb ⟨σ,ws,σ.top⟩∧Fr H.next H H'∧H.next≤sp∧H.next≤rb∧sp<H'.next∧rb≠H'.next∧rb≠sp:=by
 obtain ⟨x,c,e,hx⟩:=hu.val
 have hfl:=List.all_eq_true.1 hf
 have ht:=h.ok.top
 have hws:=h.ok.ws
 obtain ⟨l1,l2,l3,l4⟩:=h.lt
 suffices hh:∃H' sp rb,(cal J okAll 226 #[a.ptr,u] H=some (.ret (.tuple #[ptrV sp,.int .i64 0]),H'))∧H'=(if 0<ws.length then H.push (.cells (u64c ws) 62 false) else H).push (.cells [a.ptr,rootV rb ws.length,.int .i64 (σ.top:Int)] 294 false)∧sp=(if 0<ws.length then H.next+1 else H.next)∧rb=(if 0<ws.length then H.next else H.next+1000) by
  obtain ⟨H',sp,rb,e1,e2,e3,e4⟩:=hh
  refine ⟨H',sp,rb,e1,?_⟩
  by_cases hp:0<ws.length
  ·rw [if_pos hp] at e2 e3 e4
   have hn:H'.next=H.next+2:=by rw [e2];simp
   have f1:Fr H.next H H':=by rw [e2];exact ((Fr.refl _ _).push (Nat.le_refl _) _).push (by simp) _
   refine ⟨⟨h.fr h.lt f1,?_,fun _=>?_,hw,⟨by omega,by omega,by omega,by omega,by omega,fun lb l c e=>by have:=l4 lb l c e;omega⟩,⟨by omega,fun _=>by omega⟩,hl,by simp only;omega⟩,f1,by omega,by omega,by omega,by omega,by omega⟩
   ·rw [e3,e2,show H.next+1=(H.push (.cells (u64c ws) 62 false)).next by simp,IH.get_push_same]
   ·rw [e4,e2,IH.get_push_other _ _ _ (by simp),IH.get_push_same]
  ·rw [if_neg hp] at e2 e3 e4
   have hn:H'.next=H.next+1:=by rw [e2];simp
   have f1:Fr H.next H H':=by rw [e2];exact (Fr.refl _ _).push (Nat.le_refl _) _
   refine ⟨⟨h.fr h.lt f1,?_,fun hq=>absurd hq hp,hw,⟨by omega,by omega,by omega,by omega,by omega,fun lb l c e=>by have:=l4 lb l c e;omega⟩,⟨by omega,fun hq=>absurd hq hp⟩,hl,by simp only;omega⟩,f1,by omega,by omega,by omega,by omega,by omega⟩
   rw [e3,e2,IH.get_push_same]
 rw [cal226 _ _ (by simp)]
 have ct:=c_Top h
 simp [C226,regsOf,nilEq,fitsNil,e]
 generalize hX:run J okAll (.loop L226_0) _ _=X
 obtain ⟨T1,hT,a0,a1,a10,a11,a12⟩:∃T1,run J okAll (.loop L226_0) T1 H=X∧T1.at 0=a.ptr∧T1.at 1=.slice x ws.length c∧T1.at 10=.slice x ws.length c∧T1.at 11=.int .i64 (ws.length:Int)∧T1.at 12=.int .i64 ((0:Nat):Int):=⟨_,hX,by simp,by simp,by simp,by simp,by simp⟩
 obtain ⟨T2,r1,k2⟩:=loop226 h hu hw hfl hl (fun t=>T1.at t) a0 (a10.trans e.symm) a11 ws.length 0 T1 (by omega) (fun _ _ _=>rfl) a12
 have r1:=hT.symm.trans r1
 subst r1
 have b0:=(k2 0 (by omega) (by omega)).trans a0
 have b1:=(k2 1 (by omega) (by omega)).trans a1
 by_cases hp:0<ws.length
 ·obtain ⟨b,rfl,hb,hg⟩:=hx hp
  have h1:icells H ⟨b,0,none⟩ (ws.length*1)=some (u64c ws):=by simp [icells,hg,u64c_len,List.take_of_length_le (Nat.le_of_eq (u64c_len ws))]
  have ap:=app_nil st_u64 (c:=c) h1 (by rw [u64c_len,Nat.mul_one]) hp (by omega)
  obtain ⟨H1,hH1⟩:∃H1,H1=H.push (.cells (u64c ws) 62 false):=⟨_,rfl⟩
  rw [←hH1] at ap
  have f1:Fr H.next H H1:=by rw [hH1];exact (Fr.refl _ _).push (Nat.le_refl _) _
  have n1:H1.next=H.next+1:=by rw [hH1];simp
  have ct1:=c_Top (h.fr h.lt f1)
  have hrv:rootV H.next ws.length=.slice (some ⟨H.next,0,none⟩) ws.length capU:=by unfold rootV;rw [if_neg (by omega)]
  simp [regsOf,fin,iresult1,b0,b1,ap,ct1,iparts,bld_sw,inew,Value.cells,n1,ptrV,hp,hrv,←hH1]
 ·have hz:ws.length=0:=by omega
  have ap:=app_zero st_u64 (H:=H) (s:=.slice none 0 0) rfl (xb:=x) (c':=c)
  have hrv:rootV (H.next+1000) ws.length=.slice none 0 0:=by unfold rootV;rw [if_pos hz]
  rw [hz] at b1
  simp [regsOf,fin,iresult1,b0,b1,ap,ct,iparts,bld_sw,inew,Value.cells,ptrV,hp,hrv]
end
section
variable {a:HpA} {sp rb sv:Nat}
theorem loop223 (b m:Nat) (hb:b≤65536) (hm:m≤1000000) (K:Nat→Value) (k0:K 0=a.ptr) (k6:K 6=ptrV sv) (k25:K 25=.int .i64 (m:Int)):∀(d i:Nat) (g g':GS) (T:Regs) (H:IH),GS.threadsGo b i d g=some g'→g.h.ws.length=b→i+d=m→GsAt H a sp rb g→SvAt H a sv sp rb→(∀t,t<26→t≠8→T.at t=K t)→T.at 26=.int .i64 (i:Int)→
  ∃T' H',run J okAll (.loop L223_0) T H=some (.exit 0,T',H')∧GsAt H' a sp rb g'∧Fx [a.wb,rb] H H'∧GSame g g'∧(∀t,t<26→t≠8→T'.at t=K t):=by
 intro d
 induction d with
 |zero=>
  intro i g g' T H hs hbl hd h hv hK t26
  simp only [GS.threadsGo,Option.some.injEq] at hs
  subst hs
  have:i=m:=by omega
  subst this
  have t25:=(hK 25 (by omega) (by omega)).trans k25
  rw [r_loop]
  simp [L223_0,t25,t26]
  exact ⟨_,_,⟨rfl,rfl⟩,h,.refl _ _,.refl _,fun t h1 h2=>by simp (disch:=omega) only [at_set_om];exact hK t h1 h2⟩
 |succ d ih=>
  intro i g g' T H hs hbl hd h hv hK t26
  unfold GS.threadsGo at hs
  obtain ⟨g1,h1,hs⟩:=obind hs
  have t0:=(hK 0 (by omega) (by omega)).trans k0
  have t6:=(hK 6 (by omega) (by omega)).trans k6
  have t25:=(hK 25 (by omega) (by omega)).trans k25
  have hlt:i<m:=by omega
  have hg:=hv.get
  have cs:=c_Size h.hp
  rw [hbl] at cs
  obtain ⟨H1,c1,q1,f1⟩:=c_gthread h (b+i) h1
  have sm:=GS.thread_same h1
  have hw1:IntKind.i64.wrap ((i:Int)+1)=((i+1:Nat):Int):=by rw [wrap64 _ (by omega) (by omega)];simp
  have w2:IntKind.i64.wrap ((b:Int)+(i:Int))=(b:Int)+(i:Int):=by rw [wrapI];omega
  simp only [ptrV,HpA.ptr,Int.natCast_add] at t0 t6 hg c1 cs
  obtain ⟨T1,s1,s2,s3⟩:∃T1,run J okAll (.loop L223_0) T H=run J okAll (.loop L223_0) T1 H1∧(∀t,t<26→t≠8→T1.at t=K t)∧T1.at 26=.int .i64 ((i+1:Nat):Int):=by
   rw [r_loop]
   simp [L223_0,t0,t6,t25,t26,hlt,hg,cs,w2,c1,hw1]
   exact ⟨_,rfl,fun t h1 h2=>by simp (disch:=omega) only [at_set_om];exact hK t h1 h2,by simp⟩
  obtain ⟨T2,H2,r1,r2,r3,r4,r5⟩:=ih (i+1) g1 g' T1 H1 hs (sm.ws.trans hbl) (by omega) q1 (hv.fx f1) s2 s3
  exact ⟨T2,H2,s1.trans r1,r2,f1.trans r3 (fun x hx=>.inl hx),sm.trans r4,r5⟩
variable {H:IH} {σ σ':Hp}
theorem rootV_val (rb n:Nat):∃x c,rootV rb n=.slice x n c:=by
 unfold rootV
 split
 ·rename_i e;exact ⟨none,0,by rw [e]⟩
 ·exact ⟨_,_,rfl⟩
theorem c_Collect (h:HpAt H a σ) {lo:Nat} {u:Value} {ws ws':List Nat} (hu:WsAt H lo u ws) (hw:∀w∈ws,w<18446744073709551616) (hl:ws.length≤1000000) {n:Nat} (hs:collect n σ ws=some (ws',σ')):
  ∃H' rb nb,cal J okAll 223 #[a.ptr,u] H=some (.ret (.tuple #[rootV rb ws'.length,.int .i64 0]),H')∧HpAt H' { a with hb:=nb } σ'∧(0<ws'.length→rb<H'.next∧rb≠nb∧H'.get rb=some (.cells (u64c ws') 62 false))∧ws'.length=ws.length∧(∀w∈ws',w<18446744073709551616)∧Fx [a.p,a.wb] H H'∧H.next≤nb∧nb<H'.next∧H.next≤rb:=by
 unfold collect at hs
 by_cases hf:ws.all σ.fits=true
 rotate_left
 ·rw [if_neg hf] at hs;simp at hs
 rw [if_pos hf] at hs
 obtain ⟨g1,h1,hs⟩:=obind hs
 obtain ⟨g2,h2,hs⟩:=obind hs
 obtain ⟨⟨to1,g3⟩,h3,hs⟩:=obind hs
 obtain ⟨⟨to2,g4⟩,h4,hs⟩:=obind hs
 obtain ⟨hc,h5,hs⟩:=obind hs
 simp only [Option.some.injEq,Prod.mk.injEq] at hs h4 h5
 obtain ⟨rfl,rfl⟩:=hs
 obtain ⟨H1,sp,rb,c1,s1,f1,b1,b2,b3,b4,b5⟩:=c_gbegin h hu hw hf hl
 obtain ⟨l1,l2,l3,l4⟩:=h.lt
 obtain ⟨sv,hsv⟩:∃sv,sv=H1.next:=⟨_,rfl⟩
 obtain ⟨H2,hH2⟩:∃H2,H2=(H1.push (.cells [.pointer none] 290 false)).set sv (.cells [ptrV sp] 290 false):=⟨_,rfl⟩
 have f2:Fr H1.next H1 H2:=by rw [hH2];exact ((Fr.refl _ _).push (Nat.le_refl _) _).set (Nat.le_of_eq hsv.symm) _
 have n2:H2.next=sv+1:=by rw [hH2,hsv];simp
 have v2:SvAt H2 a sv sp rb:=⟨by rw [hH2,IH.get_set,if_pos rfl],by omega,by have:=f1.1;omega,by omega⟩
 have s2:=s1.fr f2
 obtain ⟨⟨H3,c3,s3,x3⟩,m3⟩:=c_gmarked s2 h1
 have v3:=v2.fx x3
 have hrl:g1.roots.length=ws.length:=m3.rl
 have hwl:g1.h.ws.length=σ.ws.length:=m3.ws
 have o3:=s3.obj
 have gv2:=v2.get
 have gv3:=v3.get
 obtain ⟨ra,rc,hrv⟩:=rootV_val rb ws.length
 rw [hrl,hrv] at o3
 simp only [HpA.ptr,ptrV] at c1 c3 o3 gv2 gv3
 obtain ⟨x,c,e,hx⟩:=hu.val
 obtain ⟨P,hP⟩:∃P:IH→Prop,P=fun H'=>∃nb,HpAt H' { a with hb:=nb } hc∧(0<g4.roots.length→rb<H'.next∧rb≠nb∧H'.get rb=some (.cells (u64c g4.roots) 62 false))∧g4.roots.length=ws.length∧(∀w∈g4.roots,w<18446744073709551616)∧Fx [a.p,a.wb] H H'∧H.next≤nb∧nb<H'.next∧H.next≤rb:=⟨_,rfl⟩
 suffices hh:∃H',cal J okAll 223 #[a.ptr,u] H=some (.ret (.tuple #[rootV rb g4.roots.length,.int .i64 0]),H')∧P H' by
  obtain ⟨H',e1,e2⟩:=hh
  rw [hP] at e2
  obtain ⟨nb,e2⟩:=e2
  exact ⟨H',rb,nb,e1,e2⟩
 rw [cal223 _ _ (by simp)]
 simp only [ptrV] at hH2
 rw [hsv] at hH2
 have hgs:H2.get H1.next=some (.cells [.pointer (some ⟨sp,0,none⟩)] 290 false):=hsv▸gv2
 rw [e] at c1
 rw [hsv] at gv3
 simp [C223,regsOf,e,c1,inew,Value.cells,istore,plain1,overlay,IH.get_push,←hH2,hgs,c3,gv3,o3]
 generalize hX:run J okAll (.loop L223_0) _ _=X
 obtain ⟨T1,hT,a0,a6,a25,a26⟩:∃T1,run J okAll (.loop L223_0) T1 H3=X∧T1.at 0=a.ptr∧T1.at 6=ptrV sv∧T1.at 25=.int .i64 (ws.length:Int)∧T1.at 26=.int .i64 ((0:Nat):Int):=⟨_,hX,by simp,by simp [ptrV,hsv],by simp,by simp⟩
 have hws:=h.ok.ws
 obtain ⟨T2,H4,r1,s4,x4,m4,k2⟩:=loop223 (a:=a) (sp:=sp) (rb:=rb) (sv:=sv) σ.ws.length ws.length hws hl (fun t=>T1.at t) a0 a6 a25 ws.length 0 g1 g2 T1 H3 h2 hwl (by omega) s3 v3 (fun _ _ _=>rfl) a26
 have r1:=hT.symm.trans r1
 subst r1
 have b0:=(k2 0 (by omega) (by omega)).trans a0
 have b6:=(k2 6 (by omega) (by omega)).trans a6
 have v4:=v3.fx x4
 obtain ⟨⟨H5,c5,s5,x5⟩,m5⟩:=c_glive (f:=230) (by simp) c_pass1 s4 v4 h3
 have v5:=v4.fx x5
 obtain ⟨⟨H6,c6,s6,x6⟩,m6⟩:=c_glive (f:=232) (by simp) c_pass2 s5 v5 h4
 have v6:=v5.fx x6
 obtain ⟨H7,nb,c7,p7,x7,b7,b8⟩:=c_Close s6.hp h5
 have o6:=s6.obj
 have rl6:g4.roots.length=ws.length:=m6.rl.trans (m5.rl.trans (m4.rl.trans m3.rl))
 have hf7:∀z,z<H6.next→z≠a.p→z≠a.wb→H7.get z=H6.get z:=fun z hz h1 h2=>x7.2 z hz (by simp [h1,h2])
 have hspp:sp≠a.p:=by omega
 have o7:=(hf7 sp s6.lt.1 hspp s6.ne.1).trans o6
 have gv4:=v4.get
 have gv5:=v5.get
 have gv6:=v6.get
 have gv7:=(hf7 sv v6.lt (by have:=f1.1;omega) v6.ne.1).trans gv6
 rw [rl6,hrv] at o6 o7
 simp only [ptrV,HpA.ptr] at b0 b6 c5 c6 c7 o6 o7 gv4 gv5 gv6 gv7
 have hxr:∀x∈[a.wb,rb],x∈[a.p,a.wb]∨H.next≤x:=by
  intro x hx
  simp only [List.mem_cons,List.not_mem_nil,or_false] at hx
  rcases hx with rfl|rfl
  ·exact .inl (by simp)
  ·exact .inr b2
 have fx2:Fx [a.p,a.wb] H H2:=(Fx.of_fr (f1.trans (f2.of_le f1.1)) (l:=[a.p,a.wb]))
 have fx6:Fx [a.p,a.wb] H H6:=(((fx2.trans x3 hxr).trans x4 hxr).trans x5 hxr).trans x6 hxr
 refine ⟨H7,?_,?_⟩
 ·rw [rl6,hrv]
  simp [regsOf,fin,iresult1,b0,b6,gv4,c5,gv5,c6,gv6,gv7,o6,o7,c7,iev_func]
 ·rw [hP]
  refine ⟨nb,p7,fun hp=>?_,rl6,s6.wlt,fx6.trans x7 (fun x hx=>.inl hx),Nat.le_trans fx6.1 b7,b8,b2⟩
  have hr6:=s6.lt.2 hp
  exact ⟨Nat.lt_of_lt_of_le hr6 x7.1,by omega,(hf7 rb hr6 s6.ne.2.2.2.1 s6.ne.2.1).trans (s6.rt hp)⟩
end
def putSlots:List Frm→List Nat→List Frm
 | [],_=>[]
 |f::fs,ws=>{ f with slots:=ws.take f.slots.length }::putSlots fs (ws.drop f.slots.length)
def slotsOf (l:List Frm):List Nat:=l.flatMap (·.slots)
theorem slotsOf_append (l m:List Frm):slotsOf (l++m)=slotsOf l++slotsOf m:=by simp [slotsOf]
theorem putSlots_append:∀(l m:List Frm) (ws:List Nat),putSlots (l++m) ws=putSlots l ws++putSlots m (ws.drop (slotsOf l).length)
 | [],m,ws=>by simp [putSlots,slotsOf]
 |f::l,m,ws=>by
  rw [List.cons_append,putSlots,putSlots,putSlots_append l m,List.cons_append,List.drop_drop]
  congr 3
  simp [slotsOf]
theorem putSlots_len:∀(l:List Frm) (ws:List Nat),(putSlots l ws).length=l.length
 | [],_=>rfl
 |f::l,ws=>by simp [putSlots,putSlots_len l]
def vSweep (N:Nat):Swp:=fun held σ=>
 match collect N σ.hp (slotsOf σ.frames.reverse++held) with
 |some (ws,h)=>some (.ok (ws.drop (slotsOf σ.frames).length),{ σ with hp:=h,frames:=(putSlots σ.frames.reverse ws).reverse,swept:=σ.swept+1 })
 |none=>none
section
variable {H H':IH} {lo:Nat} {im:Img} {A:VA} {σ:Mst}
theorem icells_u64 {b o m:Nat} {cs:List Value} {pr:Bool} {xs:List Nat} (hg:H.get b=some (.cells cs 62 pr)) (hm:xs.length=m) (hp:0<m) (hx:∀i (h:i<xs.length),cs[o+i]?=some (.int .u64 (xs[i]:Nat))):icells H ⟨b,o,none⟩ (m*1)=some (u64c xs):=by
 have hlen:o+m≤cs.length:=by
  have:=hx (m-1) (by omega)
  rcases Nat.lt_or_ge (o+(m-1)) cs.length with h|h
  ·omega
  ·rw [List.getElem?_eq_none h] at this;simp at this
 have e:List.take m (List.drop o cs)=u64c xs:=by
  apply List.ext_getElem?
  intro i
  rw [List.getElem?_take]
  by_cases hi:i<m
  ·rw [if_pos hi,List.getElem?_drop,hx i (by omega),u64c_get xs i (by omega)]
  ·rw [if_neg hi,List.getElem?_eq_none (by rw [u64c_len];omega)]
 simp [icells,hg,hlen,e]
def SrcAt (H:IH) (u:Value) (ws:List Nat):Prop:=(u=.slice none 0 0∧ws= [])∨∃b o c cs,u=.slice (some ⟨b,o,none⟩) ws.length c∧H.get b=some (.cells cs 62 false)∧∀i (h:i<ws.length),cs[o+i]?=some (.int .u64 (ws[i]:Nat))
theorem SrcAt.val {u:Value} {ws:List Nat} (h:SrcAt H u ws):∃x c,u=.slice x ws.length c:=by
 rcases h with ⟨e,e2⟩|⟨b,o,c,cs,e,_⟩
 ·exact ⟨none,0,by rw [e,e2];rfl⟩
 ·exact ⟨_,_,e⟩
theorem HeldAt.src {own:List Nat} {u:Value} {ws:List Nat} (h:HeldAt H own u ws):SrcAt H u ws:=by
 rcases h with h|⟨b,o,c,cs,h1,_,_,h4,h5⟩
 ·exact .inl h
 ·exact .inr ⟨b,o,c,cs,h1,h4,h5⟩
theorem app_ws {lo0:Nat} {u x:Value} {ws xs:List Nat} (hu:WsAt H lo0 u ws) (hlo:lo0≤H.next) (hx:SrcAt H x xs) (hl:ws.length+xs.length≤1000000):
  ∃u' H',iappend J #[136,136] u x H=some (u',H')∧WsAt H' lo0 u' (ws++xs)∧Fr lo0 H H':=by
 by_cases h0:xs.length=0
 ·obtain ⟨y,c,e⟩:=hx.val
  obtain ⟨y2,c2,e2,_⟩:=hu.val
  have hxs:xs= []:=List.eq_nil_of_length_eq_zero h0
  subst hxs
  refine ⟨u,H,?_,by simpa using hu,.refl _ _⟩
  rw [e]
  exact app_zero st_u64 e2
 rcases hx with ⟨_,e2⟩|⟨b,o,c,cs,rfl,hg,hx⟩
 ·rw [e2] at h0;simp at h0
 have hic:=icells_u64 (m:=xs.length) hg rfl (by omega) hx
 rcases hu with ⟨rfl,rfl⟩|⟨b2,h1,h2,rfl,h4⟩
 ·have:=app_nil st_u64 (c:=c) hic (by rw [u64c_len,Nat.mul_one]) (by omega) (by omega)
  exact ⟨_,_,this,.inr ⟨H.next,hlo,by simp,by simp,by rw [IH.get_push_same];simp⟩,(Fr.refl _ _).push hlo _⟩
 ·have:=app_some st_u64 (c:=c) (len:=ws.length) hic (by rw [u64c_len,Nat.mul_one]) (by omega) (by omega) h4 (by rw [u64c_len];omega) (by simp [u64c,plain1])
  refine ⟨_,_,this,.inr ⟨H.next,hlo,by simp,by simp,?_⟩,((Fr.refl _ _).set h1 _).push (by simpa using hlo) _⟩
  rw [show H.next=(H.set b2 .dead).next by simp,IH.get_push_same,List.take_of_length_le (by rw [u64c_len];omega)]
  simp [u64c]
theorem VmAt.heap2 (h:VmAt H lo im A σ) {nb:Nat} {hp':Hp} (hh:HpAt H' { A.hp with hb:=nb } hp') (f:Fx [A.hp.p,A.hp.wb] H H') (h1:H.next≤nb) (h2:nb<H'.next):
  VmAt H' lo im { A with hp:={ A.hp with hb:=nb } } { σ with hp:=hp' }∧Nx H A H' { A with hp:={ A.hp with hb:=nb } }:=by
 have hnd:=h.nd
 have hown:=h.own
 have hin:∀x∈[A.hp.p,A.hp.wb],x∈A.own:=fun x hx=>by
  simp only [List.mem_cons,List.not_mem_nil,or_false] at hx
  rcases hx with rfl|rfl<;>simp [VA.own]
 have hs:SameB lo H H':=fun x hx=>f.2 x (Nat.lt_of_lt_of_le hx h.lo) fun hm=>by have:=(hown x (hin x hm)).1;omega
 simp only [VA.own,List.nodup_cons,List.mem_cons,not_or] at hnd
 obtain ⟨⟨p1,p2,p3,p4⟩,⟨q1,q2,q3⟩,⟨r1,r2⟩,s1,s2⟩:=hnd
 have ho:∀x,x<H.next→x≠A.hp.p→x≠A.hp.wb→H'.get x=H.get x:=fun x hx h1 h2=>f.2 x hx (by simp [h1,h2])
 have hrest:∀x∈bOf A.hp.lv++bOf A.fv++bOf A.ov++frOwn A.fr,x∈A.own:=fun x hx=>by simp only [VA.own,List.mem_cons];exact .inr (.inr (.inr (.inr hx)))
 have hr:∀x∈bOf A.hp.lv++bOf A.fv++bOf A.ov++frOwn A.fr,H'.get x=H.get x:=fun x hx=>ho x (hown x (hrest x hx)).2 (fun e=>q3 (e▸hx)) (fun e=>r2 (e▸hx))
 have hne:∀x∈A.own,x≠nb:=fun x hx e=>by have:=(hown x hx).2;omega
 have hpo:=hne A.p (by simp [VA.own])
 have hhp:=hne A.hp.p (by simp [VA.own])
 have hhw:=hne A.hp.wb (by simp [VA.own])
 have hlo:=h.lo
 refine ⟨⟨?_,h.img.same hs,hh,h.inp.mono fun _ _ _ hb hx=>CellAt.same hx hs hb,h.col.mono fun _ _ _ hb hx=>CellAt.same hx hs hb,h.frs.same hs fun x hm=>hr x (by simp [hm]),h.fv.same fun x hm=>hr x (by simp [hm]),h.ov.same fun x hm=>hr x (by simp [hm]),?_,
  fun x hx=>?_,Nat.le_trans h.lo f.1,⟨h.ok.words,h.ok.stack,h.ok.fits,h.ok.fuel,h.ok.steps,h.ok.made,h.ok.swept,h.ok.out,h.ok.inn⟩,h.imok⟩,⟨rfl,f.mono fun x hx=>.inl (hin x hx),fun x hx=>?_⟩⟩
 ·show H'.get A.p=_
  rw [ho A.p (hown A.p (by simp [VA.own])).2 p1 p2];exact h.obj
 ·simp only [VA.own,List.nodup_cons,List.mem_cons,not_or]
  exact ⟨⟨p1,p2,hpo,p4⟩,⟨q1,hhp,q3⟩,⟨hhw,r2⟩,fun hm=>hne nb (hrest nb hm) rfl,s2⟩
 ·simp only [VA.own,List.mem_cons] at hx
  rcases hx with rfl|rfl|rfl|rfl|hx
  ·exact ⟨(hown _ (by simp [VA.own])).1,Nat.lt_of_lt_of_le (hown _ (by simp [VA.own])).2 f.1⟩
  ·exact ⟨(hown _ (by simp [VA.own])).1,Nat.lt_of_lt_of_le (hown _ (by simp [VA.own])).2 f.1⟩
  ·exact ⟨(hown _ (by simp [VA.own])).1,Nat.lt_of_lt_of_le (hown _ (by simp [VA.own])).2 f.1⟩
  ·exact ⟨by omega,h2⟩
  ·exact ⟨(hown x (hrest x hx)).1,Nat.lt_of_lt_of_le (hown x (hrest x hx)).2 f.1⟩
 ·simp only [VA.own,List.mem_cons] at hx ⊢
  rcases hx with hx|hx|hx|hx|hx
  ·exact .inl (.inl hx)
  ·exact .inl (.inr (.inl hx))
  ·exact .inl (.inr (.inr (.inl hx)))
  ·exact .inr (by rw [hx];exact h1)
  ·exact .inl (.inr (.inr (.inr (.inr hx))))
theorem FrsAt.at {l:List (Nat×Nat)} {m:List Frm} (h:FrsAt H lo l m):∀(i:Nat) (q:Nat×Nat) (f:Frm),l[i]?=some q→m[i]?=some f→FrAt H lo q f:=by
 induction h with
 |nil=>intro i q f h1;simp at h1
 |cons h1 _ ih=>
  intro i q f e1 e2
  match i with
  |0=>simp only [List.getElem?_cons_zero,Option.some.injEq] at e1 e2;subst e1 e2;exact h1
  |i+1=>exact ih i q f (by simpa using e1) (by simpa using e2)
theorem frOwn_get:∀{l:List (Nat×Nat)} {i:Nat} {q:Nat×Nat},l[i]?=some q→q.1∈frOwn l∧q.2∈frOwn l
 | [],i,q,h=>by simp at h
 |p::l,0,q,h=>by simp only [List.getElem?_cons_zero,Option.some.injEq] at h;subst h;simp [frOwn]
 |p::l,i+1,q,h=>by
  have:=frOwn_get (l:=l) (i:=i) (by simpa using h)
  exact ⟨by simp [frOwn,this.1],by simp [frOwn,this.2]⟩
theorem FrsAt.setAt {l:List (Nat×Nat)} {m:List Frm} (h:FrsAt H lo l m) {y:Nat} (hs:SameB lo H H') (hg:∀z,z≠y→H'.get z=H.get z):(frOwn l).Nodup→∀{i:Nat} {q:Nat×Nat} {f':Frm},l[i]?=some q→y=q.2→FrAt H' lo q f'→FrsAt H' lo l (m.set i f'):=by
 induction h with
 |nil=>intro _ i q f' h1;simp at h1
 |cons h1 h2 ih=>
  intro hnd i q f' e1 hy hfr
  obtain ⟨n1,n2,n3,n4⟩:=frOwn_nd hnd
  match i with
  |0=>
   simp only [List.getElem?_cons_zero,Option.some.injEq] at e1
   subst e1
   exact .cons hfr (h2.same hs fun z hm=>hg z fun e=>by subst e;rw [hy] at hm;exact n3 hm)
  |i+1=>
   have e1':=(by simpa using e1:_)
   have hm:=(frOwn_get e1').2
   rw [←hy] at hm
   exact .cons (h1.same hs (hg _ fun e=>n2 (e▸hm)) (hg _ fun e=>n3 (e▸hm))) (ih n4 e1' hy hfr)
theorem frWords_set:∀(m:List Frm) (i:Nat) (f f':Frm),m[i]?=some f→f'.slots.length=f.slots.length→frWords (m.set i f')=frWords m
 | [],i,f,f',h,_=>by simp at h
 |g::m,0,f,f',h,hl=>by simp only [List.getElem?_cons_zero,Option.some.injEq] at h;subst h;simp [frWords,hl]
 |g::m,i+1,f,f',h,hl=>by simp only [List.set_cons_succ,frWords];rw [frWords_set m i f f' (by simpa using h) hl]
theorem VmAt.setSlots (h:VmAt H lo im A σ) {i:Nat} {q:Nat×Nat} {f:Frm} (hq:A.fr[i]?=some q) (hf:σ.frames[i]?=some f) {zs:List Nat} (hl:zs.length=f.slots.length) (hw:∀w∈zs,w<18446744073709551616):
  VmAt (H.set q.2 (.cells (u64c zs) 62 false)) lo im A { σ with frames:=σ.frames.set i { f with slots:=zs } }∧Nx H A (H.set q.2 (.cells (u64c zs) 62 false)) A:=by
 obtain ⟨H',hH⟩:∃H',H'=H.set q.2 (.cells (u64c zs) 62 false):=⟨_,rfl⟩
 rw [←hH]
 have hy1:q.2∈frOwn A.fr:=(frOwn_get hq).2
 have hyo:q.2∈A.own:=by simp only [VA.own,List.mem_cons,List.mem_append];simp [hy1]
 obtain ⟨s1,s2,s3,s4,s5,s6,s7⟩:=VA.own_split h.nd _ hy1
 have hg:∀z,z≠q.2→H'.get z=H.get z:=fun z hz=>by rw [hH,IH.get_set,if_neg hz]
 have hs:SameB lo H H':=fun z hz=>hg z (fun e=>by have:=(h.own _ hyo).1;omega)
 have hnd:(frOwn A.fr).Nodup:=by
  have h1:=h.nd
  simp only [VA.own,List.nodup_cons] at h1
  exact (List.nodup_append.1 h1.2.2.2.2).2.1
 have hn:H'.next=H.next:=by rw [hH];rfl
 have hfr:=h.frs.at i q f hq hf
 have hq12:q.1≠q.2:=by
  have key:∀(l:List (Nat×Nat)) (i:Nat),(frOwn l).Nodup→l[i]?=some q→q.1≠q.2:=by
   intro l
   induction l with
   |nil=>intro i _ h;simp at h
   |cons p l ih=>
    intro i hnd h
    obtain ⟨n1,n2,n3,n4⟩:=frOwn_nd hnd
    match i with
    |0=>simp only [List.getElem?_cons_zero,Option.some.injEq] at h;subst h;exact n1
    |i+1=>exact ih i n4 (by simpa using h)
  exact key A.fr i hnd hq
 obtain ⟨pb,po,g1,g2,g3⟩:=hfr.ex
 have hfr':FrAt H' lo q { f with slots:=zs }:=⟨⟨pb,po,g1,FnAt.same g2 hs g1,by rw [hg _ hq12,g3];simp only [hl]⟩,by rw [hH,IH.get_set,if_pos rfl],hw,by simp only [hl];exact hfr.len,hfr.ok,hfr.at0⟩
 refine ⟨⟨(hg _ (Ne.symm s1)).trans h.obj,h.img.same hs,h.hp.same (by omega) (hg _ (Ne.symm s2)) (hg _ (Ne.symm s3)) (hg _ (Ne.symm s4)) (fun z hm=>hg z (fun e=>s5 (e▸hm))),h.inp.mono fun _ _ _ hb hx=>CellAt.same hx hs hb,h.col.mono fun _ _ _ hb hx=>CellAt.same hx hs hb,
  h.frs.setAt hs hg hnd hq rfl hfr',h.fv.same fun z hm=>hg z (fun e=>s6 (e▸hm)),h.ov.same fun z hm=>hg z (fun e=>s7 (e▸hm)),h.nd,fun x hm=>by rw [hn];exact h.own x hm,by rw [hn];exact h.lo,⟨?_,h.ok.stack,h.ok.fits,h.ok.fuel,h.ok.steps,h.ok.made,h.ok.swept,h.ok.out,h.ok.inn⟩,h.imok⟩,⟨rfl,by rw [hH];exact (Fx.refl _ _).set (.inl hyo) _,fun x hx=>.inl hx⟩⟩
 show σ.words=frWords (σ.frames.set i _)
 rw [frWords_set _ _ _ _ hf hl];exact h.ok.words
end
section
variable {H:IH} {lo:Nat} {im:Img} {A:VA} {σ:Mst}
theorem VmAt.frame (h:VmAt H lo im A σ) {i:Nat} (hi:i<σ.frames.length):∃q f,σ.frames.reverse[i]?=some f∧A.fr[σ.frames.length-1-i]?=some q∧σ.frames[σ.frames.length-1-i]?=some f∧FrAt H lo q f∧
  ∃b cs,A.fv=.slice (some ⟨b,0,none⟩) σ.frames.length capU∧H.get b=some (.cells cs 131 false)∧cs[i]?=some (ptrV q.1)∧b∈A.own:=by
 have hl:=h.frs.len
 have h1:σ.frames.length-1-i<σ.frames.length:=by omega
 have h2:σ.frames.length-1-i<A.fr.length:=by omega
 refine ⟨A.fr[σ.frames.length-1-i],σ.frames[σ.frames.length-1-i],?_,List.getElem?_eq_getElem h2,List.getElem?_eq_getElem h1,h.frs.at _ _ _ (List.getElem?_eq_getElem h2) (List.getElem?_eq_getElem h1),?_⟩
 ·rw [List.getElem?_reverse hi,List.getElem?_eq_getElem h1]
 rcases h.fv with ⟨e,e2⟩|⟨b,cs,e,g,hc,ht⟩
 ·have:A.fr.length=0:=by simpa using congrArg List.length e2
  omega
 ·refine ⟨b,cs,by rw [e];simp [hl],g,?_,by simp [VA.own,e,bOf]⟩
  have hi2:i<(A.fr.map (·.1)).length:=by simp;omega
  have e3:=congrArg (fun z=>z[i]?) ht
  simp only [List.getElem?_take,if_pos hi2] at e3
  rw [e3,List.getElem?_map,List.getElem?_reverse hi2]
  simp only [List.length_map,List.getElem?_map,Option.map_map]
  rw [show A.fr.length-1-i=σ.frames.length-1-i by omega,List.getElem?_eq_getElem h2]
  rfl
theorem slots_le:∀(m:List Frm),((slotsOf m).length:Int)+2*m.length=frWords m
 | []=>by simp [slotsOf,frWords]
 |f::m=>by
  have:=slots_le m
  simp only [slotsOf,List.flatMap_cons,List.length_append,frWords,List.length_cons] at this ⊢
  omega
theorem slotsOf_rev (m:List Frm):(slotsOf m.reverse).length=(slotsOf m).length:=by
 have e1:=slots_le m
 have key:∀(m:List Frm),frWords m.reverse=frWords m:=by
  intro m
  induction m with
  |nil=>rfl
  |cons f m ih=>
   have ha:∀(a b:List Frm),frWords (a++b)=frWords a+frWords b:=by
    intro a
    induction a with
    |nil=>intro b;simp [frWords]
    |cons x a ih=>intro b;simp only [List.cons_append,frWords,ih];omega
   rw [List.reverse_cons,ha,ih];simp only [frWords];omega
 have e2:=slots_le m.reverse
 rw [key,List.length_reverse] at e2
 omega
theorem loop206a (h:VmAt H lo im A σ) (K:Nat→Value) (k15:K 15=A.fv) (k16:K 16=.int .i64 (σ.frames.length:Int)):∀(d i:Nat) (T:Regs) (H':IH) (u:Value),i+d=σ.frames.length→Fr H.next H H'→WsAt H' H.next u (slotsOf (σ.frames.reverse.take i))→(∀t,t<17→t≠5→t≠7→T.at t=K t)→T.at 5=u→T.at 17=.int .i64 (i:Int)→
  ∃T' H'' u',run J okAll (.loop L206_0) T H'=some (.exit 0,T',H'')∧Fr H.next H H''∧WsAt H'' H.next u' (slotsOf σ.frames.reverse)∧(∀t,t<17→t≠5→t≠7→T'.at t=K t)∧T'.at 5=u':=by
 intro d
 induction d with
 |zero=>
  intro i T H' u hd hf hu hK t5 t17
  have:i=σ.frames.length:=by omega
  subst this
  have t16:=(hK 16 (by omega) (by omega) (by omega)).trans k16
  obtain ⟨T',e1,e2,e3⟩:∃T',run J okAll (.loop L206_0) T H'=some (.exit 0,T',H')∧(∀t,t<17→t≠5→t≠7→T'.at t=K t)∧T'.at 5=u:=by
   rw [r_loop]
   simp [L206_0,t16,t17,t5]
   exact fun t h1 h2 h3=>by simp (disch:=omega) only [at_set_om];exact hK t h1 h2 h3
  rw [List.take_of_length_le (by simp)] at hu
  exact ⟨T',H',u,e1,hf,hu,e2,e3⟩
 |succ d ih=>
  intro i T H' u hd hf hu hK t5 t17
  have t15:=(hK 15 (by omega) (by omega) (by omega)).trans k15
  have t16:=(hK 16 (by omega) (by omega) (by omega)).trans k16
  have hlt:i<σ.frames.length:=by omega
  obtain ⟨q,f,y1,y2,y3,y4,b,cs,y5,y6,y7,y8⟩:=h.frame hlt
  have hb:=(h.own b y8).2
  have gb:=(hf.2 b hb).trans y6
  obtain ⟨pb,po,g1,g2,g3⟩:=y4.ex
  have hq1:q.1<H.next:=(h.own q.1 (by simp only [VA.own,List.mem_cons,List.mem_append];simp [(frOwn_get y2).1])).2
  have hq2:q.2<H.next:=(h.own q.2 (by simp only [VA.own,List.mem_cons,List.mem_append];simp [(frOwn_get y2).2])).2
  have gq:=(hf.2 _ hq1).trans g3
  have gs:=(hf.2 _ hq2).trans y4.slots
  rw [y5] at t15
  have hsrc:SrcAt H' (.slice (some ⟨q.2,0,none⟩) f.slots.length f.slots.length) f.slots:=.inr ⟨q.2,0,_,_,rfl,gs,fun j hj=>by rw [Nat.zero_add];exact u64c_get _ _ hj⟩
  have hbig:(slotsOf (σ.frames.reverse.take i)).length+f.slots.length≤1000000:=by
   have e1:=slots_le σ.frames
   have e2:=slotsOf_rev σ.frames
   have e3:=h.ok.words
   have e4:=h.ok.fits
   have e5:=h.ok.stack
   have e6:(slotsOf (σ.frames.reverse.take (i+1))).length≤(slotsOf σ.frames.reverse).length:=by
    conv=>rhs;rw [←List.take_append_drop (i+1) σ.frames.reverse,slotsOf_append]
    simp
   rw [List.take_add_one,y1,slotsOf_append] at e6
   simp [slotsOf] at e6 e1 e2 ⊢
   omega
  obtain ⟨u1,H1,q1,q2,q3⟩:=app_ws hu hf.1 hsrc hbig
  have hu1:WsAt H1 H.next u1 (slotsOf (σ.frames.reverse.take (i+1))):=by
   rw [List.take_add_one,y1,slotsOf_append]
   simpa [slotsOf] using q2
  obtain ⟨ua,uc,hus,_⟩:=hu.val
  obtain ⟨va,vc,hvs,_⟩:=q2.val
  rw [hus] at q1 t5
  rw [hvs] at q1
  have hw1:IntKind.i64.wrap ((i:Int)+1)=((i+1:Nat):Int):=by rw [wrap64 _ (by omega) (by have:=h.frlen;omega)];simp
  simp only [ptrV] at y7
  obtain ⟨T1,s1,s2,s3,s4⟩:∃T1,run J okAll (.loop L206_0) T H'=run J okAll (.loop L206_0) T1 H1∧(∀t,t<17→t≠5→t≠7→T1.at t=K t)∧T1.at 5=u1∧T1.at 17=.int .i64 ((i+1:Nat):Int):=by
   rw [r_loop]
   simp [L206_0,t15,t16,t17,t5,hlt,iindexAddr,gb,y7,gq,q1,hw1,-Int.natCast_add]
   exact ⟨_,rfl,fun t h1 h2 h3=>by simp (disch:=omega) only [at_set_om];exact hK t h1 h2 h3,by simp [hvs],by simp⟩
  obtain ⟨T2,H2,u2,r1,r2,r3,r4,r5⟩:=ih (i+1) T1 H1 u1 (by omega) (hf.trans q3) hu1 s2 s3 s4
  exact ⟨T2,H2,u2,s1.trans r1,r2,r3,r4,r5⟩
theorem cp_at {q rb n o m c:Nat} {zs ws:List Nat} (hz:zs.length=n) (hg:H.get q=some (.cells (u64c zs) 62 false)) (hr:H.get rb=some (.cells (u64c ws) 62 false)) (hm:n≤m) (ho:o+m=ws.length) (hn:0<n):
  icopy J #[136,136] (.slice (some ⟨q,0,none⟩) n n) (.slice (some ⟨rb,o,none⟩) m c) H=some (.int .i64 (n:Int),H.set q (.cells (u64c ((ws.drop o).take n)) 62 false)):=by
 have hmin:Nat.min m n=n:=Nat.min_eq_right hm
 obtain ⟨X,hX⟩:∃X,X=(ws.drop o).take n:=⟨_,rfl⟩
 have hxl:X.length=n:=by rw [hX];simp;omega
 have hic:icells H ⟨rb,o,none⟩ (n*1)=some (u64c X):=icells_u64 hr hxl hn fun i hi=>by
  rw [u64c_get ws (o+i) (by omega)]
  simp [hX]
 rw [←hX]
 have hne:u64c X≠[]:=fun e=>by have:=u64c_len X;rw [e,hxl] at this;simp at this;omega
 have hput:iput H ⟨q,0,none⟩ (u64c X)=some (H.set q (.cells (u64c X) 62 false)):=by
  have e:overlay (u64c zs) 0 (u64c X)=u64c X:=by
   simp only [overlay,List.take_zero,List.nil_append,Nat.zero_add]
   rw [List.drop_eq_nil_of_le (by rw [u64c_len,u64c_len,hxl,hz];exact Nat.le_refl _),List.append_nil]
  rw [iput_eq,hg,putOf_cells,if_pos ⟨by rw [u64c_len,u64c_len,hxl,hz];omega,hne,by simp [u64c,plain1]⟩,e]
 have h0:¬n=0:=by omega
 simp only [icopy,List.getElem?_toArray,List.getElem?_cons_zero,st_u64.und,st_u64.size,ilenOf,hmin,ifirst,hic,h0,if_false,hput,Option.map_some]
def restV (rb o n:Nat):Value:=if n=0 then .slice none 0 0 else .slice (some ⟨rb,o,none⟩) (n-o) capU
theorem restV_val (rb o n:Nat) (ho:o≤n):∃x c,restV rb o n=.slice x (n-o) c:=by
 unfold restV
 split
 ·rename_i e;exact ⟨none,0,by rw [show n-o=0 by omega]⟩
 ·exact ⟨_,_,rfl⟩
theorem cp_zero {q rb o n:Nat} {ws:List Nat} (hr:0<n→H.get rb=some (.cells (u64c ws) 62 false)) (hn:ws.length=n) (ho:o≤n):icopy J #[136,136] (.slice (some ⟨q,0,none⟩) 0 0) (restV rb o n) H=some (.int .i64 0,H):=by
 unfold restV
 by_cases h0:n=0
 ·rw [if_pos h0];simp [icopy,ilenOf,ifirst]
 ·rw [if_neg h0]
  have:=hr (by omega)
  have hl:=u64c_len ws
  have ho':o≤(u64c ws).length:=by omega
  simp [icopy,ilenOf,ifirst,this,ho']
theorem rest_slice {rb o n k:Nat} {cs:List Value} (hg:0<n→H.get rb=some (.cells cs 62 false)) (h:o+k≤n) (hc:n≤1000000):islice J 136 (restV rb o n) (some (.int .i64 (k:Int))) none none H=some (restV rb (o+k) n):=by
 unfold restV
 by_cases h0:n=0
 ·have hk:k=0:=by omega
  rw [if_pos h0,if_pos h0,hk]
  simp [islice,ibound]
 ·rw [if_neg h0,if_neg h0]
  have hle:k≤n-o:=by omega
  have hcap:n-o≤capU:=Nat.le_trans (show n-o≤1000000 by omega) (by decide)
  have e:n-o-k=n-(o+k):=by omega
  have hif:((⟨rb,o,none⟩:Addr).add k)=⟨rb,o+k,none⟩:=by
   unfold Addr.add
   split
   ·rename_i e;rw [e];rfl
   ·rfl
  have hgg:=hg (by omega)
  simp [islice,ibound,hgg,hle,hcap,hif,e]
end
theorem GS.walk_same:∀(n o back:Nat) {g g':GS},GS.walk n o back g=some g'→GSame g g'
 |0,_,_,g,g',hs=>by simp [GS.walk] at hs
 |n+1,o,back,g,g',hs=>by
  unfold GS.walk at hs
  obtain ⟨w,_,hs⟩:=obind hs
  simp only at hs
  split at hs
  ·obtain ⟨g1,h1,hs⟩:=obind hs
   obtain ⟨to,_,hs⟩:=obind hs
   split at hs
   ·exact (GS.store_same h1).trans (GS.walk_same n _ _ hs)
   ·obtain ⟨x,_,hs⟩:=obind hs
    split at hs
    ·exact (GS.store_same h1).trans (GS.walk_same n _ _ hs)
    ·obtain ⟨g2,h2,hs⟩:=obind hs
     exact ((GS.store_same h1).trans (GS.store_same h2)).trans (GS.walk_same n _ _ hs)
  ·obtain ⟨g1,h1,hs⟩:=obind hs
   split at hs
   ·simp only [Option.some.injEq] at hs;subst hs;exact GS.store_same h1
   ·obtain ⟨f,_,hs⟩:=obind hs
    obtain ⟨b,_,hs⟩:=obind hs
    obtain ⟨g2,h2,hs⟩:=obind hs
    exact ((GS.store_same h1).trans (GS.store_same h2)).trans (GS.walk_same n _ _ hs)
theorem GS.mark_same {n w:Nat} {g g':GS} (hs:g.mark n w=some g'):GSame g g':=by
 unfold GS.mark at hs
 split at hs
 ·simp only [Option.some.injEq] at hs;subst hs;exact .refl _
 ·obtain ⟨x,_,hs⟩:=obind hs
  split at hs
  ·simp only [Option.some.injEq] at hs;subst hs;exact .refl _
  ·exact GS.walk_same _ _ _ hs
theorem GS.markedGo_same (n:Nat):∀(d i:Nat) {g g':GS},GS.markedGo n i d g=some g'→GSame g g'
 |0,_,g,g',hs=>by simp only [GS.markedGo,Option.some.injEq] at hs;subst hs;exact .refl _
 |d+1,i,g,g',hs=>by
  unfold GS.markedGo at hs
  obtain ⟨w,_,hs⟩:=obind hs
  obtain ⟨g1,h1,hs⟩:=obind hs
  exact (GS.mark_same h1).trans (GS.markedGo_same n d _ hs)
theorem GS.threadsGo_same (b:Nat):∀(d i:Nat) {g g':GS},GS.threadsGo b i d g=some g'→GSame g g'
 |0,_,g,g',hs=>by simp only [GS.threadsGo,Option.some.injEq] at hs;subst hs;exact .refl _
 |d+1,i,g,g',hs=>by
  unfold GS.threadsGo at hs
  obtain ⟨g1,h1,hs⟩:=obind hs
  exact (GS.thread_same h1).trans (GS.threadsGo_same b d _ hs)
theorem GS.unthreadGo_same (to:Nat):∀(n w:Nat) {g g':GS} {w':Nat},GS.unthreadGo to n w g=some (w',g')→GSame g g'
 |0,_,g,g',w',hs=>by simp [GS.unthreadGo] at hs
 |n+1,w,g,g',w',hs=>by
  unfold GS.unthreadGo at hs
  split at hs
  ·simp only [Option.some.injEq,Prod.mk.injEq] at hs;rw [←hs.2];exact .refl _
  ·obtain ⟨x,_,hs⟩:=obind hs
   obtain ⟨g1,h1,hs⟩:=obind hs
   exact (GS.store_same h1).trans (GS.unthreadGo_same to n _ hs)
theorem GS.unthread_same {n a to w:Nat} {g g':GS} (hs:g.unthread n a to=some (w,g')):GSame g g':=by
 unfold GS.unthread at hs
 obtain ⟨x,_,hs⟩:=obind hs
 obtain ⟨⟨w1,g1⟩,h1,hs⟩:=obind hs
 obtain ⟨g2,h2,hs⟩:=obind hs
 simp only [Option.some.injEq,Prod.mk.injEq] at hs
 rw [←hs.2]
 exact (GS.unthreadGo_same _ _ _ h1).trans (GS.store_same h2)
theorem GS.liveGo_same {f:Nat→Nat→Nat→GS→Option GS} (hf:∀a to w g g',f a to w g=some g'→GSame g g'):∀(n a to:Nat) {g g':GS} {t:Nat},GS.liveGo f n a to g=some (t,g')→GSame g g'
 |0,_,_,g,g',t,hs=>by simp [GS.liveGo] at hs
 |n+1,a,to,g,g',t,hs=>by
  unfold GS.liveGo at hs
  split at hs
  ·split at hs
   ·simp at hs
   ·obtain ⟨w,_,hs⟩:=obind hs
    split at hs
    ·exact GS.liveGo_same hf n _ _ hs
    ·obtain ⟨⟨w1,g1⟩,h1,hs⟩:=obind hs
     obtain ⟨g2,h2,hs⟩:=obind hs
     exact ((GS.unthread_same h1).trans (hf _ _ _ _ _ h2)).trans (GS.liveGo_same hf n _ _ hs)
  ·simp only [Option.some.injEq,Prod.mk.injEq] at hs;rw [←hs.2];exact .refl _
theorem GS.pass1_same (a to w:Nat) (g g':GS) (hs:GS.pass1 a to w g=some g'):GSame g g':=GS.threadsGo_same _ _ _ hs
theorem GS.pass2_same (a to w:Nat) (g g':GS) (hs:GS.pass2 a to w g=some g'):GSame g g':=by
 unfold GS.pass2 at hs
 obtain ⟨g1,h1,hs⟩:=obind hs
 exact (GS.store_same h1).trans (GS.copy_same _ _ _ _ hs)
theorem Hp.close_ly {σ σ':Hp} {n top:Nat} (hs:σ.close n top=some σ'):σ'.ly=σ.ly:=by
 unfold Hp.close at hs
 split at hs
 ·obtain ⟨hd,_,hs⟩:=obind hs
  split at hs
  ·simp only [Option.some.injEq] at hs;subst hs;rfl
  ·simp at hs
 ·simp at hs
theorem collect_ly {n:Nat} {h h':Hp} {ws ws':List Nat} (hs:collect n h ws=some (ws',h')):h'.ly=h.ly:=by
 unfold collect at hs
 split at hs
 ·obtain ⟨g1,h1,hs⟩:=obind hs
  obtain ⟨g2,h2,hs⟩:=obind hs
  obtain ⟨⟨t3,g3⟩,h3,hs⟩:=obind hs
  obtain ⟨⟨t4,g4⟩,h4,hs⟩:=obind hs
  obtain ⟨hc,h5,hs⟩:=obind hs
  simp only [Option.some.injEq,Prod.mk.injEq] at hs
  rw [←hs.2]
  have e:=(((GS.markedGo_same n _ _ h1).trans (GS.threadsGo_same _ _ _ h2)).trans (GS.liveGo_same GS.pass1_same _ _ _ h3)).trans (GS.liveGo_same GS.pass2_same _ _ _ h4)
  exact (Hp.close_ly h5).trans e.ly
 ·simp at hs
theorem putSlots_step {L:List Frm} {ws:List Nat} {i:Nat} {f:Frm} (hf:L[i]?=some f):putSlots (L.take (i+1)) ws=putSlots (L.take i) ws++[{ f with slots:=(ws.drop (slotsOf (L.take i)).length).take f.slots.length }]:=by
 rw [List.take_add_one,hf,putSlots_append];rfl
theorem set_rev {α:Type} (X:List α) (i:Nat) (y:α) (hi:i<X.length):X.reverse.set (X.length-1-i) y=(X.set i y).reverse:=by
 apply List.ext_getElem?
 intro j
 by_cases hj:j<X.length
 ·have e1:=List.getElem?_reverse (l:=X.set i y) (i:=j) (by simpa using hj)
  have e2:=List.getElem?_reverse (l:=X) (i:=j) hj
  rw [List.length_set,List.getElem?_set] at e1
  rw [e1,List.getElem?_set]
  by_cases h:X.length-1-i=j
  ·rw [if_pos h,if_pos (by simp;omega),if_pos (by omega),if_pos (by omega)]
  ·rw [if_neg h,if_neg (by omega),e2]
 ·rw [List.getElem?_eq_none (by simp;omega),List.getElem?_eq_none (by simp;omega)]
section
variable {lo:Nat} {im:Img} {A:VA}
theorem loop206b {H0:IH} {σ:Mst} {ws:List Nat} {rb:Nat} (hw:∀w∈ws,w<18446744073709551616) (hN:ws.length≤1000000) (hrb:0<ws.length→rb<H0.next∧rb ∉ A.own∧H0.get rb=some (.cells (u64c ws) 62 false)) (htot:(slotsOf σ.frames.reverse).length≤ws.length) (hfl:σ.frames.length≤32768) (K:Nat→Value) (k46:K 46=A.fv) (k47:K 47=.int .i64 (σ.frames.length:Int)):∀(d i:Nat) (T:Regs) (H':IH),i+d=σ.frames.length→VmAt H' lo im A { σ with frames:=(putSlots (σ.frames.reverse.take i) ws++σ.frames.reverse.drop i).reverse }→Nx H0 A H' A→
  (∀t,t<48→t≠5→t≠10→t≠11→T.at t=K t)→T.at 5=restV rb (slotsOf (σ.frames.reverse.take i)).length ws.length→T.at 48=.int .i64 (i:Int)→
  ∃T' H'',run J okAll (.loop L206_1) T H'=some (.exit 2,T',H'')∧VmAt H'' lo im A { σ with frames:=(putSlots σ.frames.reverse ws).reverse }∧Nx H0 A H'' A∧(∀t,t<48→t≠5→t≠10→t≠11→T'.at t=K t)∧T'.at 5=restV rb (slotsOf σ.frames.reverse).length ws.length:=by
 intro d
 induction d with
 |zero=>
  intro i T H' hd h hn hK t5 t48
  have:i=σ.frames.length:=by omega
  subst this
  have t47:=(hK 47 (by omega) (by omega) (by omega) (by omega)).trans k47
  rw [List.take_of_length_le (by simp),List.drop_eq_nil_of_le (by simp),List.append_nil] at h
  rw [List.take_of_length_le (by simp)] at t5
  obtain ⟨T',e1,e2,e3⟩:∃T',run J okAll (.loop L206_1) T H'=some (.exit 2,T',H')∧(∀t,t<48→t≠5→t≠10→t≠11→T'.at t=K t)∧T'.at 5=restV rb (slotsOf σ.frames.reverse).length ws.length:=by
   rw [r_loop]
   simp [L206_1,t47,t48,t5]
   exact fun t h1 h2 h3 h4=>by simp (disch:=omega) only [at_set_om];exact hK t h1 h2 h3 h4
  exact ⟨T',H',e1,h,hn,e2,e3⟩
 |succ d ih=>
  intro i T H' hd h hn hK t5 t48
  have t46:=(hK 46 (by omega) (by omega) (by omega) (by omega)).trans k46
  have t47:=(hK 47 (by omega) (by omega) (by omega) (by omega)).trans k47
  have hlt:i<σ.frames.length:=by omega
  have hltL:i<σ.frames.reverse.length:=by simpa using hlt
  generalize hL:σ.frames.reverse=L at*
  have hLl:L.length=σ.frames.length:=by rw [←hL];simp
  have hPl:(putSlots (L.take i) ws).length=i:=by rw [putSlots_len];simp;omega
  have hXl:(putSlots (L.take i) ws++L.drop i).length=σ.frames.length:=by simp [hPl];omega
  obtain ⟨q,f,y1,y2,y3,y4,b,cs,y5,y6,y7,y8⟩:=h.frame (i:=i) (by simp only [List.length_reverse];omega)
  simp only [List.reverse_reverse,List.length_reverse,hXl] at y1 y2 y3 y5
  rw [List.getElem?_append_right (by omega),hPl,Nat.sub_self,List.getElem?_drop,Nat.add_zero] at y1
  have hfL:=y1
  obtain ⟨pb,po,g1,g2,g3⟩:=y4.ex
  have gs:=y4.slots
  have hst:=putSlots_step (ws:=ws) hfL
  have hso:slotsOf (L.take (i+1))=slotsOf (L.take i)++f.slots:=by rw [List.take_add_one,hfL,slotsOf_append];simp [slotsOf]
  have hle:(slotsOf (L.take (i+1))).length≤(slotsOf L).length:=by
   conv=>rhs;rw [←List.take_append_drop (i+1) L,slotsOf_append]
   simp
  have hsl:(slotsOf (L.take (i+1))).length=(slotsOf (L.take i)).length+f.slots.length:=by rw [hso];simp
  obtain ⟨o,ho⟩:∃o,o=(slotsOf (L.take i)).length:=⟨_,rfl⟩
  rw [←ho] at t5 hst hsl
  have hdr:L.drop i=f::L.drop (i+1):=by
   rw [List.drop_eq_getElem_cons (by omega)];congr 1
   rw [List.getElem?_eq_getElem (by omega)] at hfL;simpa using hfL
  have hrg:0<ws.length→H'.get rb=some (.cells (u64c ws) 62 false):=fun hp=>(hn.fx.2 rb (hrb hp).1 (hrb hp).2.1).trans (hrb hp).2.2
  rw [y5] at t46
  obtain ⟨x5,c5,e5⟩:=restV_val rb o ws.length (by omega)
  have hrs:=rest_slice (rb:=rb) (o:=o) (k:=f.slots.length) hrg (by omega) hN
  have hw1:IntKind.i64.wrap ((i:Int)+1)=((i+1:Nat):Int):=by rw [wrap64 _ (by omega) (by omega)];simp
  simp only [ptrV] at y7
  rw [e5] at t5 hrs
  obtain ⟨x6,c6,e6⟩:=restV_val rb (o+f.slots.length) ws.length (by omega)
  rw [e6] at hrs
  by_cases h0:f.slots.length=0
  ·have hcp:=cp_zero (q:=q.2) hrg rfl (show o≤ws.length by omega)
   rw [e5] at hcp
   have hfe:({ f with slots:=(ws.drop o).take f.slots.length }:Frm)=f:=by
    have:f.slots= []:=List.eq_nil_of_length_eq_zero h0
    rw [h0,List.take_zero,←this]
   have hXe:putSlots (L.take i) ws++L.drop i=putSlots (L.take (i+1)) ws++L.drop (i+1):=by
    rw [hst,hfe,hdr];simp
   rw [hXe] at h
   rw [h0] at hrs g3
   simp only [Int.cast_ofNat_Int,Int.natCast_zero] at hrs
   obtain ⟨T1,s1,s2,s3,s4⟩:∃T1,run J okAll (.loop L206_1) T H'=run J okAll (.loop L206_1) T1 H'∧(∀t,t<48→t≠5→t≠10→t≠11→T1.at t=K t)∧T1.at 5=restV rb (slotsOf (L.take (i+1))).length ws.length∧T1.at 48=.int .i64 ((i+1:Nat):Int):=by
    rw [r_loop]
    simp [L206_1,t46,t47,t48,t5,hlt,iindexAddr,y6,y7,g3,hcp,hrs,hw1,-Int.natCast_add]
    exact ⟨_,rfl,fun t h1 h2 h3 h4=>by simp (disch:=omega) only [at_set_om];exact hK t h1 h2 h3 h4,by rw [h0,Nat.add_zero] at e6;simp [hsl,h0,e6],by simp⟩
   obtain ⟨T2,H2,r⟩:=ih (i+1) T1 H' (by omega) h hn s2 s3 s4
   exact ⟨T2,H2,s1.trans r.1,r.2⟩
  ·have hcp:=cp_at (c:=c5) (m:=ws.length-o) (o:=o) (n:=f.slots.length) rfl gs (hrg (by omega)) (by omega) (by omega) (by omega)
   have e5':x5=some ⟨rb,o,none⟩∧c5=capU:=by
    unfold restV at e5
    rw [if_neg (by omega)] at e5
    simp only [Value.slice.injEq] at e5
    exact ⟨e5.1.symm,e5.2.2.symm⟩
   rw [←e5'.1] at hcp
   obtain ⟨v1,v2⟩:=h.setSlots (zs:=(ws.drop o).take f.slots.length) y2 y3 (by simp;omega) (fun w hw'=>hw w (List.mem_of_mem_drop (List.mem_of_mem_take hw')))
   have hXe:(putSlots (L.take i) ws++L.drop i).reverse.set (σ.frames.length-1-i) { f with slots:=(ws.drop o).take f.slots.length }=(putSlots (L.take (i+1)) ws++L.drop (i+1)).reverse:=by
    rw [←hXl,set_rev _ _ _ (by omega),List.set_append_right _ _ (by omega),hPl,Nat.sub_self,hdr,List.set_cons_zero,hst];simp
   simp only at v1
   rw [hXe] at v1
   obtain ⟨H1,hH1⟩:∃H1,H1=H'.set q.2 (.cells (u64c ((ws.drop o).take f.slots.length)) 62 false):=⟨_,rfl⟩
   rw [←hH1] at hcp v1 v2
   have hq2:q.2∈A.own:=by simp only [VA.own,List.mem_cons,List.mem_append];simp [(frOwn_get y2).2]
   have hrg1:0<ws.length→H1.get rb=some (.cells (u64c ws) 62 false):=fun hp=>by
    rw [hH1,IH.get_set,if_neg (fun e=>(hrb hp).2.1 (by rw [e];exact hq2))];exact hrg hp
   have hrs1:=rest_slice (rb:=rb) (o:=o) (k:=f.slots.length) hrg1 (by omega) hN
   rw [e5,e6] at hrs1
   obtain ⟨T1,s1,s2,s3,s4⟩:∃T1,run J okAll (.loop L206_1) T H'=run J okAll (.loop L206_1) T1 H1∧(∀t,t<48→t≠5→t≠10→t≠11→T1.at t=K t)∧T1.at 5=restV rb (slotsOf (L.take (i+1))).length ws.length∧T1.at 48=.int .i64 ((i+1:Nat):Int):=by
    rw [r_loop]
    simp [L206_1,t46,t47,t48,t5,hlt,iindexAddr,y6,y7,g3,hcp,hrs1,hw1,-Int.natCast_add]
    exact ⟨_,rfl,fun t h1 h2 h3 h4=>by simp (disch:=omega) only [at_set_om];exact hK t h1 h2 h3 h4,by simp [hsl,e6],by simp⟩
   obtain ⟨T2,H2,r⟩:=ih (i+1) T1 H1 (by omega) v1 (hn.trans v2) s2 s3 s4
   exact ⟨T2,H2,s1.trans r.1,r.2⟩
end
section
variable {lo:Nat} {im:Img}
theorem slots_wlt {H:IH} {l:List (Nat×Nat)} {m:List Frm} (h:FrsAt H lo l m):∀w∈slotsOf m,w<18446744073709551616:=by
 induction h with
 |nil=>intro w hw;simp [slotsOf] at hw
 |cons h1 _ ih=>
  intro w hw
  simp only [slotsOf,List.flatMap_cons,List.mem_append] at hw
  rcases hw with hw|hw
  ·exact h1.wlt w hw
  ·exact ih w hw
theorem m_sweep (N:Nat) {H:IH} {A:VA} {σ:Mst} {u:Value} {ws:List Nat} (h:VmAt H lo im A σ) (hu:HeldAt H A.own u ws) (hw:∀w∈ws,w<18446744073709551616) (hwl:ws.length≤1000) (hsw:σ.swept<σ.steps):
  Out lo im H A (cal J okAll 206 #[ptrV A.p,u] H) (HeldV ws.length) (vSweep N ws σ):=by
 intro r σ' hx
 unfold vSweep at hx
 cases hc:collect N σ.hp (slotsOf σ.frames.reverse++ws) with
 |none=>rw [hc] at hx;simp at hx
 |some p=>
 obtain ⟨ws',hp'⟩:=p
 rw [hc] at hx
 simp only [Option.some.injEq,Prod.mk.injEq] at hx
 obtain ⟨rfl,rfl⟩:=hx
 have ho:=h.obj
 have hfl:=h.frlen
 obtain ⟨fa,fc,hfv⟩:=h.fvlen
 have hrl:=slotsOf_rev σ.frames
 have hsl:=slots_le σ.frames
 have e3:=h.ok.words
 have e4:=h.ok.fits
 have e5:=h.ok.stack
 have htot:(slotsOf σ.frames.reverse).length≤65536:=by omega
 suffices hh:∃(H':IH) (A':VA) (v:Value),cal J okAll 206 #[ptrV A.p,u] H=some (.ret v,H')∧VmAt H' lo im A' { σ with hp:=hp',frames:=(putSlots σ.frames.reverse ws').reverse,swept:=σ.swept+1 }∧Nx H A H' A'∧HeldV ws.length H' A' (ws'.drop (slotsOf σ.frames).length) v by
  obtain ⟨H',A',v,q1,q2,q3,q4⟩:=hh
  exact ⟨H',A',.ret v,q1,q2,q3,v,rfl,q4⟩
 obtain ⟨P,hP⟩:∃P:IH→Value→Prop,P=fun H' v=>∃A',VmAt H' lo im A' { σ with hp:=hp',frames:=(putSlots σ.frames.reverse ws').reverse,swept:=σ.swept+1 }∧Nx H A H' A'∧HeldV ws.length H' A' (ws'.drop (slotsOf σ.frames).length) v:=⟨_,rfl⟩
 suffices hh:∃(H':IH) (v:Value),cal J okAll 206 #[ptrV A.p,u] H=some (.ret v,H')∧P H' v by
  obtain ⟨H',v,q1,q2⟩:=hh
  rw [hP] at q2
  obtain ⟨A',q2⟩:=q2
  exact ⟨H',A',v,q1,q2⟩
 rw [cal206 _ _ (by simp)]
 obtain ⟨ua,un,uc,hus⟩:=hu.val
 simp only [VA.cells,ptrV] at ho
 rw [hfv] at ho
 simp [C206,regsOf,ptrV,hus,ho]
 generalize hX:run J okAll (.loop L206_0) _ _=X
 obtain ⟨T1,hT,a0,a1,a5,a15,a16,a17⟩:∃T1,run J okAll (.loop L206_0) T1 H=X∧T1.at 0=ptrV A.p∧T1.at 1=.slice ua un uc∧T1.at 5=.slice none 0 0∧T1.at 15=A.fv∧T1.at 16=.int .i64 (σ.frames.length:Int)∧T1.at 17=.int .i64 ((0:Nat):Int):=⟨_,hX,by simp [ptrV],by simp,by simp,by simp [hfv],by simp,by simp⟩
 obtain ⟨T2,H1,u1,r1,f1,w1,k2,b5⟩:=loop206a h (fun t=>T1.at t) a15 a16 σ.frames.length 0 T1 H _ (by omega) (.refl _ _) (.inl ⟨rfl,by simp [slotsOf]⟩) (fun _ _ _ _=>rfl) a5 a17
 have r1:=hT.symm.trans r1
 subst r1
 have b0:=(k2 0 (by omega) (by omega) (by omega)).trans a0
 have b1:=(k2 1 (by omega) (by omega) (by omega)).trans a1
 have h1:=h.fr f1
 have hu1:=hu.fr f1
 obtain ⟨u2,H2,p2,w2,f2⟩:=app_ws w1 f1.1 hu1.src (by omega)
 have f12:=f1.trans f2
 have h2:=h.fr f12
 have hwall:∀w∈slotsOf σ.frames.reverse++ws,w<18446744073709551616:=fun w hm=>by
  rcases List.mem_append.1 hm with hm|hm
  ·refine slots_wlt h.frs w ?_
   simp only [slotsOf,List.mem_flatMap,List.mem_reverse] at hm ⊢
   exact hm
  ·exact hw w hm
 obtain ⟨H3,rb,nb,c3,hh3,hrb3,hl3,hw3,fx3,n1,n2,n3⟩:=c_Collect h2.hp w2 hwall (by simp only [List.length_append];omega) hc
 obtain ⟨v3,x3⟩:=h2.heap2 hh3 fx3 n1 n2
 have nx3:Nx H A H3 _:=Nx.trans ⟨rfl,Fx.of_fr f12,fun x hx=>.inl hx⟩ x3
 obtain ⟨A3,hA3⟩:∃A3,A3= { A with hp:={ A.hp with hb:=nb } }:=⟨_,rfl⟩
 have hA3p:A3.p=A.p:=by rw [hA3]
 have hA3f:A3.fv=A.fv:=by rw [hA3]
 rw [←hA3] at v3 nx3
 have hlen:ws'.length=(slotsOf σ.frames.reverse).length+ws.length:=by rw [hl3,List.length_append]
 have o1:=h1.obj
 have o2:=h2.obj
 have o3:=v3.obj
 rw [hA3p] at o3
 have m3:=c_must (H:=H3) (ptrV A.p) true
 obtain ⟨xa,xc,hx1,_⟩:=w1.val
 obtain ⟨ya,yc,hy2,_⟩:=w2.val
 rw [hus,hx1] at p2
 rw [hx1] at b5
 rw [hy2] at p2 c3
 have hrv:rootV rb ws'.length=restV rb 0 ws'.length:=by unfold rootV restV;simp
 obtain ⟨za,zc,hz⟩:=restV_val rb 0 ws'.length (Nat.zero_le _)
 rw [hrv,hz] at c3
 simp only [VA.cells,ptrV,hA3f] at o1 o2 o3
 rw [hfv] at o1 o2 o3
 simp only [ptrV] at b0 m3
 simp only [HpA.ptr,List.length_append] at c3
 simp [b0,b1,b5,o1,o2,p2,c3,m3,o3]
 generalize hY:run J okAll (.loop L206_1) _ _=Y
 obtain ⟨T3,hT3,d0,d5,d46,d47,d48⟩:∃T3,run J okAll (.loop L206_1) T3 H3=Y∧T3.at 0=ptrV A.p∧T3.at 5=restV rb (slotsOf (σ.frames.reverse.take 0)).length ws'.length∧T3.at 46=A3.fv∧T3.at 47=.int .i64 (σ.frames.length:Int)∧T3.at 48=.int .i64 ((0:Nat):Int):=⟨_,hY,by simp [ptrV,b0],by simp [slotsOf,hz],by simp [hA3f,hfv],by simp,by simp⟩
 have hrbo:0<ws'.length→rb<H3.next∧rb ∉ A3.own∧H3.get rb=some (.cells (u64c ws') 62 false):=fun hp=>by
  obtain ⟨q1,q2,q3⟩:=hrb3 hp
  refine ⟨q1,fun hm=>?_,q3⟩
  rw [hA3] at hm
  simp only [VA.own,List.mem_cons] at hm
  have hall:∀x∈A.own,x≠rb:=fun x hx e=>by have:=(h2.own x hx).2;omega
  rcases hm with hm|hm|hm|hm|hm
  ·exact hall A.p (by simp [VA.own]) hm.symm
  ·exact hall A.hp.p (by simp [VA.own]) hm.symm
  ·exact hall A.hp.wb (by simp [VA.own]) hm.symm
  ·exact q2 hm
  ·exact hall rb (by simp only [VA.own,List.mem_cons];exact .inr (.inr (.inr (.inr hm)))) rfl
 obtain ⟨T4,H4,r4,v4,x4,k4,b4⟩:=loop206b (H0:=H3) (σ:={ σ with hp:=hp' }) (ws:=ws') (rb:=rb) (A:=A3) (im:=im) (lo:=lo) hw3 (by omega) hrbo (by simp only;omega) hfl (fun t=>T3.at t) d46 d47 σ.frames.length 0 T3 H3 (by simp only;omega) (by simpa [putSlots] using v3) (.refl _ _) (fun _ _ _ _ _=>rfl) d5 d48
 have r4:=hT3.symm.trans r4
 subst r4
 have g0:=(k4 0 (by omega) (by omega) (by omega) (by omega)).trans d0
 simp only at v4 b4
 have o4:=v4.obj
 rw [hA3p] at o4
 obtain ⟨v5,x5⟩:=v4.scal (σ':={ σ with hp:=hp',frames:=(putSlots σ.frames.reverse ws').reverse,swept:=σ.swept+1 }) ⟨rfl,rfl,rfl⟩ rfl rfl ⟨v4.ok.words,v4.ok.stack,v4.ok.fits,v4.ok.fuel,v4.ok.steps,v4.ok.made,by simp only;omega,v4.ok.out,v4.ok.inn⟩
 obtain ⟨H5,hH5⟩:∃H5,H5=H4.set A.p (.cells (A3.cells { σ with hp:=hp',frames:=(putSlots σ.frames.reverse ws').reverse,swept:=σ.swept+1 }) 84 false):=⟨_,rfl⟩
 rw [hA3p,←hH5] at v5 x5
 have w5:IntKind.i64.wrap ((σ.swept:Int)+1)=(σ.swept:Int)+1:=by
  have:=h.ok.swept;have:=h.ok.steps;have:=h.ok.fuel
  rw [wrapI];omega
 obtain ⟨ra,rc,hr5⟩:=restV_val rb (slotsOf σ.frames.reverse).length ws'.length (by omega)
 rw [hr5] at b4
 simp only [ptrV] at g0
 simp only [VA.cells,ptrV,hA3f,Int.natCast_add,Int.natCast_one,Int.cast_ofNat_Int] at o4 hH5
 rw [hfv] at o4 hH5
 refine ⟨H5,restV rb (slotsOf σ.frames.reverse).length ws'.length,?_,?_⟩
 ·rw [hr5]
  simp [regsOf,fin,iresult1,g0,b4,o4,w5,istore,Value.cells,plain1,overlay,←hH5]
 ·rw [hP]
  have x45:Nx H3 A3 H5 A3:=x4.trans x5
  refine ⟨A3,v5,nx3.trans x45,?_,fun w hm=>hw3 w (List.mem_of_mem_drop hm),by rw [List.length_drop];omega⟩
  unfold restV
  by_cases h0:ws'.length=0
  ·left
   rw [if_pos h0]
   exact ⟨rfl,by rw [List.eq_nil_of_length_eq_zero h0];simp⟩
  ·right
   rw [if_neg h0]
   obtain ⟨q1,q2,q3⟩:=hrbo (by omega)
   refine ⟨rb,(slotsOf σ.frames.reverse).length,capU,u64c ws',by rw [List.length_drop,hrl],Nat.lt_of_lt_of_le q1 x45.fx.1,q2,(x45.fx.2 rb q1 q2).trans q3,fun i hi=>?_⟩
   rw [List.length_drop] at hi
   rw [u64c_get ws' _ (by omega),List.getElem_drop]
   simp only [hrl]
theorem sweep_ok (N:Nat):SweepOk lo im (vSweep N):=by
 refine ⟨fun H A σ u ws h hu hw hl hs=>m_sweep N h hu hw hl hs,fun ws σ σ' r hx=>?_⟩
 unfold vSweep at hx
 cases hc:collect N σ.hp (slotsOf σ.frames.reverse++ws) with
 |none=>rw [hc] at hx;simp at hx
 |some p=>
  rw [hc] at hx
  simp only [Option.some.injEq,Prod.mk.injEq] at hx
  rw [←hx.2]
  exact collect_ly hc
end
def bset (w t c:Nat):Nat:=((BitVec.ofNat 64 w &&& ~~~ BitVec.ofNat 64 (255*2^t)) ||| BitVec.ofNat 64 (c*2^t)).toNat
theorem bset_lt (w t c:Nat):bset w t c<18446744073709551616:=(BitVec.isLt _)
theorem ofInt_wrap (n:Int):BitVec.ofInt 64 (IntKind.u64.wrap n)=BitVec.ofInt 64 n:=by
 rw [wrapU]
 apply BitVec.eq_of_toNat_eq
 rw [BitVec.toNat_ofInt,BitVec.toNat_ofInt]
 omega
theorem bset_eq (w t c:Nat):orI .u64 (andnI .u64 (w:Int) (IntKind.u64.wrap (255*2^t))) (IntKind.u64.wrap ((c:Int)*2^t))=((bset w t c:Nat):Int):=by
 have e1:((255:Int)*2^t)=((255*2^t:Nat):Int):=by simp
 have e2:((c:Int)*2^t)=((c*2^t:Nat):Int):=by simp
 have w1:∀x:BitVec 64,IntKind.u64.wrap ((x.toNat:Nat):Int)=((x.toNat:Nat):Int):=fun x=>wrapU_nat _ x.isLt
 have a1:andnI .u64 (w:Int) (IntKind.u64.wrap (255*2^t))=(((BitVec.ofNat 64 w &&& ~~~ BitVec.ofNat 64 (255*2^t)).toNat:Nat):Int):=by
  show IntKind.u64.wrap (((BitVec.ofInt 64 (w:Int) &&& ~~~ BitVec.ofInt 64 (IntKind.u64.wrap (255*2^t))).toNat:Nat):Int)=_
  rw [w1,ofInt_wrap,e1,BitVec.ofInt_natCast,BitVec.ofInt_natCast]
 rw [a1]
 show IntKind.u64.wrap (((BitVec.ofInt 64 (((BitVec.ofNat 64 w &&& ~~~ BitVec.ofNat 64 (255*2^t)).toNat:Nat):Int) ||| BitVec.ofInt 64 (IntKind.u64.wrap ((c:Int)*2^t))).toNat:Nat):Int)=_
 rw [w1,ofInt_wrap,e2,BitVec.ofInt_natCast,BitVec.ofInt_natCast,BitVec.ofNat_toNat,BitVec.setWidth_eq]
 rfl
theorem bset_byte (w c r j:Nat) (hr:r<8) (hj:j<8) (hc:c<256):bset w (r*8) c / 2^(j*8)%256=if j=r then c else w / 2^(j*8)%256:=by
 have h256:(256:Nat)=2^8:=rfl
 apply Nat.eq_of_testBit_eq
 intro k
 rw [h256,Nat.testBit_mod_two_pow,Nat.testBit_div_two_pow]
 by_cases hk:k<8
 rotate_left
 ·rw [decide_eq_false hk,Bool.false_and]
  split
  ·exact (Nat.testBit_lt_two_pow (Nat.lt_of_lt_of_le hc (by rw [h256];exact Nat.pow_le_pow_right (by omega) (by omega)))).symm
  ·rw [Nat.testBit_mod_two_pow,decide_eq_false hk,Bool.false_and]
 rw [decide_eq_true hk,Bool.true_and]
 have hi:j*8+k<64:=by omega
 have m1:(255*2^(r*8)).testBit (j*8+k)=decide (j=r):=by
  rw [Nat.mul_comm,Nat.testBit_two_pow_mul,show (255:Nat)=2^8-1 from rfl,Nat.testBit_two_pow_sub_one]
  by_cases h:j=r
  ·subst h;rw [decide_eq_true (by omega),decide_eq_true (by omega)];simp
  ·rw [decide_eq_false h]
   by_cases h2:r*8≤j*8+k
   ·rw [decide_eq_true h2,Bool.true_and];exact decide_eq_false (by omega)
   ·rw [decide_eq_false h2,Bool.false_and]
 have m2:(c*2^(r*8)).testBit (j*8+k)=(decide (j=r)&&c.testBit k):=by
  rw [Nat.mul_comm,Nat.testBit_two_pow_mul]
  by_cases h:j=r
  ·subst h;rw [decide_eq_true (by omega:j*8≤j*8+k),show j*8+k-j*8=k by omega];simp
  ·rw [decide_eq_false h,Bool.false_and]
   by_cases h2:r*8≤j*8+k
   ·rw [decide_eq_true h2,Bool.true_and]
    exact Nat.testBit_lt_two_pow (Nat.lt_of_lt_of_le hc (by rw [h256];exact Nat.pow_le_pow_right (by omega) (by omega)))
   ·rw [decide_eq_false h2,Bool.false_and]
 have m3:(bset w (r*8) c).testBit (j*8+k)=((w.testBit (j*8+k)&& !decide (j=r))||(decide (j=r)&&c.testBit k)):=by
  unfold bset
  rw [BitVec.testBit_toNat,BitVec.getLsbD_or,BitVec.getLsbD_and,BitVec.getLsbD_not,BitVec.getLsbD_ofNat,BitVec.getLsbD_ofNat,BitVec.getLsbD_ofNat,m1,m2,decide_eq_true hi]
  simp
 rw [show k+j*8=j*8+k by omega,m3]
 by_cases h:j=r
 ·rw [if_pos h,decide_eq_true h];simp
 ·rw [if_neg h,decide_eq_false h,Nat.testBit_mod_two_pow,Nat.testBit_div_two_pow,decide_eq_true hk,show k+j*8=j*8+k by omega];simp
def Hp.setByte (σ:Hp) (s i:Int) (c:Nat):Hp:=if σ.has s i true=true then σ.setW (s.toNat+1+i.toNat / 8) (bset (σ.w (s.toNat+1+i.toNat / 8)) (i.toNat%8*8) c) else σ
section
variable {H:IH} {lo:Nat} {im:Img} {A:VA} {σ:Mst}
theorem m_setByte (h:VmAt H lo im A σ) (hg:σ.hp.good=true) (s i:Int) (c:Nat) (hc:c<256):
  ∃H' e,cal J okAll 166 #[A.hp.ptr,.int .i64 s,.int .i64 i,.int .u8 (c:Int)] H=some (.ret (.int .i64 e),H')∧VmAt H' lo im A { σ with hp:=σ.hp.setByte s i c }∧Nx H A H' A:=by
 obtain ⟨hs,hf⟩:=(Hp.good_iff _).1 hg
 have hh:=c_has h.hp hs s i true
 rw [cal166 _ _ (by simp)]
 unfold Hp.setByte
 by_cases hb:σ.hp.has s i true=true
 rotate_left
 ·rw [if_neg hb]
  have hb':σ.hp.has s i true=false:=by simpa using hb
  rw [hb'] at hh
  exact ⟨H,1,by simp [C166,regsOf,fin,iresult1,hh],h,.refl _ _⟩
 rw [if_pos hb]
 rw [hb] at hh
 obtain ⟨n,k,rfl,rfl,h1,h2,h3⟩:=σ.hp.has_nat hb
 have h4:=hf n h1
 have hk3:σ.hp.kind (wShape (σ.hp.w n))=3:=by simpa using h2
 rw [if_pos hk3] at h4
 have hok:=h.hp.ok
 have ht:=hok.top
 have hob:=h.hp.obj
 have hws:=h.hp.ws
 simp only [Int.toNat_natCast]
 obtain ⟨q,hq⟩:∃q,q=k / 8:=⟨_,rfl⟩
 obtain ⟨r,hr⟩:∃r,r=k%8:=⟨_,rfl⟩
 rw [←hq,←hr]
 have hlt:n+1+q<σ.hp.ws.length:=by omega
 have hlt1:n+1+q+1≤σ.hp.ws.length:=by omega
 have hw:=hok.ws
 have e0:IntKind.i64.wrap ((k:Int) / 8)=(q:Int):=by rw [wrapI];omega
 have e1:IntKind.i64.wrap ((n:Int)+1)=(n:Int)+1:=by rw [wrapI];omega
 have e2:IntKind.i64.wrap ((n:Int)+1+q)=((n+1+q:Nat):Int):=by rw [wrapI];omega
 have e6:(k:Int).tmod 8=(r:Int):=by rw [Int.tmod_eq_emod_of_nonneg (by omega)];omega
 have e7:(k:Int)%8=(r:Int):=by omega
 obtain ⟨t,ht8⟩:∃t,t=r*8:=⟨_,rfl⟩
 have e8:IntKind.i64.wrap ((r:Int)*8)=(t:Int):=by rw [wrapI];omega
 have hm:min t 64=t:=by omega
 have hcl:=h.hp.cell _ hlt
 have hwe:=σ.hp.w_eq _ hlt
 have e9:=bset_eq (σ.hp.w (n+1+q)) t c
 have e10:IntKind.u64.wrap (c:Int)=(c:Int):=wrapU_nat c (by omega)
 rw [←ht8]
 obtain ⟨v1,v2⟩:=h.heap (h.hp.setW (i:=n+1+q) (w:=bset (σ.hp.w (n+1+q)) t c) (bset_lt _ _ _)) ((Fx.refl _ _).set (.inl (by simp)) _)
 refine ⟨_,0,?_,v1,v2⟩
 simp [C166,regsOf,fin,iresult1,hh,hob,hws,iindexAddr,e0,e1,e2,e6,e7,e8,hm,e9,e10,hlt,hlt1,hcl,hwe,istore,Value.cells,plain1,overlay,u64c_len,u64c_put,-Int.natCast_add]
end
def Hp.textL (σ:Hp) (a:Nat):List Nat:=(List.range (wLen (σ.w a))).map (σ.byteAt a)
def Hp.text (σ:Hp) (a:Nat):List Nat:=if σ.is a=true∧σ.kind (wShape (σ.w a))=3 then σ.textL a else []
theorem conv_lit' {H:IH} {b n c:Nat} {l:List Nat} {pr:Bool} (hg:H.get b=some (.cells (l.map byteV) 5 pr)) (hn:l.length=n):iconvert J 34 9 (.slice (some ⟨b,0,none⟩) n c) H=some (.string (outB l),H):=by
 have he:(l.map byteV).take n=(l.map fun (n:Nat)=>(n:Int)).map (Value.int .u8):=by
  rw [List.map_map,List.take_of_length_le (by simp [hn])];rfl
 have hm:bytesOfCells ((l.map byteV).take n)=some ((l.map fun (n:Nat)=>(n:Int)).map fun n=>UInt8.ofNat n.toNat):=by
  rw [he];exact bytesOf_ints _
 have hl:n≤(l.map byteV).length:=by simp [hn]
 unfold outB strOf
 generalize (l.map fun (n:Nat)=>(n:Int)).map (fun n=>UInt8.ofNat n.toNat)=r at hm ⊢
 generalize l.map byteV=cs at hg hm hl
 simp [iconvert,hg,hl,hm]
theorem upd_mid {α:Type} (z:α) (B:List α) (v:α):∀A:List α,List.take A.length (A++z::B)++v::List.drop (A.length+1) (A++z::B)=A++v::B
 | []=>by simp
 |x::A=>by
  have:=upd_mid z B v A
  simp only [List.length_cons,List.cons_append,List.take_succ_cons,List.drop_succ_cons,this]
section
variable {H:IH} {a:HpA} {σ:Hp}
theorem mk_u8 (H:IH) (n:Nat) (hn:n≤1000000):imakeSlice J 34 (.int .i64 (n:Int)) (.int .i64 (n:Int)) H=some (.slice (some ⟨H.next,0,none⟩) n n,H.push (.cells ((List.replicate n 0).map byteV) 5 false)):=by
 have h1:(n:Int)<9223372036854775808:=by omega
 have h2:(n:Int)≤281474976710656:=by omega
 have h3:(0:Int)≤n:=by omega
 have e:(List.range n).map (fun x=>(Value.int IntKind.u8 0).cells[x%(Value.int IntKind.u8 0).cells.size]!)=(List.replicate n 0).map byteV:=by
  have:∀x:Nat,(Value.int IntKind.u8 0).cells[x%(Value.int IntKind.u8 0).cells.size]! =.int .u8 0:=by
   intro x
   have:x%(Value.int IntKind.u8 0).cells.size=0:=Nat.mod_one x
   rw [this];rfl
  simp only [this]
  apply List.ext_getElem (by simp)
  intro i h1 h2
  simp [byteV]
 simp [imakeSlice,h1,h2,e]
theorem loop171 (h:HpAt H a σ) {o n nb:Nat} (ho:o≤65536) (hn:n≤1000000) (hin:∀i,i<n→o+1+i / 8<σ.ws.length) (hnb:H.next≤nb) (K:Nat→Value) (k0:K 0=a.ptr) (k1:K 1=.int .i64 (o:Int)) (k6:K 6=.slice (some ⟨nb,0,none⟩) n n) (k40:K 40=.int .i64 (n:Int)):∀(d i:Nat) (T:Regs) (H':IH),i+d=n→Fr H.next H H'→nb<H'.next→H'.get nb=some (.cells (((List.range i).map (σ.byteAt o)++List.replicate d 0).map byteV) 5 false)→(∀t,t<41→t≠7→T.at t=K t)→T.at 41=.int .i64 (i:Int)→
  ∃T' H'',run J okAll (.loop L171_0) T H'=some (.exit 0,T',H'')∧Fr H.next H H''∧nb<H''.next∧H''.get nb=some (.cells (((List.range n).map (σ.byteAt o)).map byteV) 5 false)∧(∀t,t<41→t≠7→T'.at t=K t):=by
 intro d
 induction d with
 |zero=>
  intro i T H' hd hf hnb2 hg hK t41
  have:i=n:=by omega
  subst this
  have t40:=(hK 40 (by omega) (by omega)).trans k40
  rw [r_loop]
  simp [L171_0,t40,t41]
  exact ⟨_,_,⟨rfl,rfl⟩,hf,hnb2,by simpa using hg,fun t h1 h2=>by simp (disch:=omega) only [at_set_om];exact hK t h1 h2⟩
 |succ d ih=>
  intro i T H' hd hf hnb2 hg hK t41
  have t0:=(hK 0 (by omega) (by omega)).trans k0
  have t1:=(hK 1 (by omega) (by omega)).trans k1
  have t6:=(hK 6 (by omega) (by omega)).trans k6
  have t40:=(hK 40 (by omega) (by omega)).trans k40
  have hlt:i<n:=by omega
  have h':=h.fr h.lt hf
  have hob:=h'.obj
  have hws:=h'.ws
  have hlw:=hin i hlt
  have hwl:=h.ok.ws
  obtain ⟨q,hq⟩:∃q,q=i / 8:=⟨_,rfl⟩
  obtain ⟨r,hr⟩:∃r,r=i%8:=⟨_,rfl⟩
  rw [←hq] at hlw
  have e0:IntKind.i64.wrap ((i:Int) / 8)=(q:Int):=by rw [wrapI];omega
  have e1:IntKind.i64.wrap ((o:Int)+1)=(o:Int)+1:=by rw [wrapI];omega
  have e2:IntKind.i64.wrap ((o:Int)+1+q)=((o+1+q:Nat):Int):=by rw [wrapI];omega
  have e6:(i:Int).tmod 8=(r:Int):=by rw [Int.tmod_eq_emod_of_nonneg (by omega)];omega
  have e7:(i:Int)%8=(r:Int):=by omega
  obtain ⟨t,ht8⟩:∃t,t=r*8:=⟨_,rfl⟩
  have e8:IntKind.i64.wrap ((r:Int)*8)=(t:Int):=by rw [wrapI];omega
  have hm:min t 64=t:=by omega
  have hcl:=h'.cell _ hlw
  have hwe:=σ.w_eq _ hlw
  have hB:σ.byteAt o i=σ.w (o+1+q) / 2^t%256:=by unfold Hp.byteAt;rw [←hq,←hr,←ht8]
  have e9:IntKind.u8.wrap ((σ.w (o+1+q):Int).fdiv (2^t))=((σ.byteAt o i:Nat):Int):=by
   have e:=fdiv_nat (σ.w (o+1+q)) (2^t)
   have e':(((2^t:Nat)):Int)=(2:Int)^t:=by simp
   rw [e'] at e
   rw [e,hB]
   simp [IntKind.wrap,IntKind.bits,IntKind.signed]
  have hw1:IntKind.i64.wrap ((i:Int)+1)=((i+1:Nat):Int):=by rw [wrap64 _ (by omega) (by omega)];simp
  have hlen:(((List.range i).map (σ.byteAt o)++List.replicate (d+1) 0).map byteV).length=n:=by simp;omega
  have hset:∀cs:List Value,cs=((List.range i).map (σ.byteAt o)++List.replicate (d+1) 0).map byteV→List.take i cs++Value.int .u8 ((σ.byteAt o i:Nat):Int)::List.drop (i+1) cs=((List.range (i+1)).map (σ.byteAt o)++List.replicate d 0).map byteV:=by
   rintro cs rfl
   have hA:(((List.range i).map (σ.byteAt o)).map byteV).length=i:=by simp
   have key:=upd_mid (byteV 0) ((List.replicate d 0).map byteV) (byteV (σ.byteAt o i)) (((List.range i).map (σ.byteAt o)).map byteV)
   rw [hA] at key
   rw [List.map_append,List.replicate_succ,List.map_cons]
   refine Eq.trans key ?_
   rw [List.range_succ]
   simp
  obtain ⟨cs,hcs⟩:∃cs,cs=((List.range i).map (σ.byteAt o)++List.replicate (d+1) 0).map byteV:=⟨_,rfl⟩
  have hset:=hset cs hcs
  rw [←hcs] at hg hlen
  have hlt1:i+1≤n:=hlt
  obtain ⟨T1,s1,s2,s3⟩:∃T1,run J okAll (.loop L171_0) T H'=run J okAll (.loop L171_0) T1 (H'.set nb (.cells (((List.range (i+1)).map (σ.byteAt o)++List.replicate d 0).map byteV) 5 false))∧(∀t,t<41→t≠7→T1.at t=K t)∧T1.at 41=.int .i64 ((i+1:Nat):Int):=by
   rw [←hset]
   rw [r_loop]
   simp only [HpA.ptr] at t0
   simp [L171_0,t0,t1,t6,t40,t41,hlt,hob,hws,iindexAddr,e0,e1,e2,e6,e7,e8,hm,e9,hlw,hcl,hwe,hg,hlen,hlt1,istore,Value.cells,plain1,overlay,hw1,-Int.natCast_add]
   exact ⟨_,rfl,fun t h1 h2=>by simp (disch:=omega) only [at_set_om];exact hK t h1 h2,by simp⟩
  obtain ⟨T2,H2,r⟩:=ih (i+1) T1 (H'.set nb (.cells (((List.range (i+1)).map (σ.byteAt o)++List.replicate d 0).map byteV) 5 false)) (by omega) (hf.set hnb _) (by rw [IH.next_set];exact hnb2) (by rw [IH.get_set,if_pos rfl]) s2 s3
  exact ⟨T2,H2,s1.trans r.1,r.2⟩
theorem c_Text (h:HpAt H a σ) (hg:σ.good=true) (o:Nat):∃H' e,cal J okAll 171 #[a.ptr,.int .i64 (o:Int)] H=some (.ret (.tuple #[.string (outB (σ.text o)),.int .i64 e]),H')∧Fr H.next H H':=by
 rw [cal171 _ _ (by simp)]
 have ci:=c_Is h (o:Int)
 have e0:(decide ((0:Int)≤(o:Int))&&σ.is ((o:Int)).toNat)=σ.is o:=by simp
 rw [e0] at ci
 simp only [HpA.ptr] at ci
 have ho0:outB []=⟨#[]⟩:=rfl
 by_cases hi:σ.is o=true
 rotate_left
 ·have hi':σ.is o=false:=by simpa using hi
  rw [hi'] at ci
  unfold Hp.text
  rw [if_neg (fun hh=>hi hh.1),ho0]
  exact ⟨H,1,by simp [C171,regsOf,fin,iresult1,ci],.refl _ _⟩
 rw [hi] at ci
 obtain ⟨hs,hf⟩:=(Hp.good_iff _).1 hg
 have y1:=hs o hi
 have y3:=hf o hi
 have ht:=h.ok.top
 have hwl:=h.ok.ws
 have y2:o<σ.ws.length:=by omega
 have hob:=h.obj
 have hws:=h.ws
 have hxl:=h.wlt o
 have hc:=h.cell o y2
 have hwe:=σ.w_eq o y2
 have hln:wLen (σ.w o)<1048576:=by unfold wLen;omega
 have cl:=c_Len H (σ.w o) hxl
 have cs:=c_Shape H (σ.w o) hxl
 obtain ⟨lb0,lc,el,hll⟩:=h.lyS
 obtain ⟨lb,rfl,hlg⟩:=hll (by omega)
 rw [el] at hob
 have hkd:=(lyc_get σ.ly (wShape (σ.w o)) y1).1
 rw [Nat.mul_comm,σ.kind_eq _ y1] at hkd
 by_cases hk:σ.kind (wShape (σ.w o))=3
 rotate_left
 ·unfold Hp.text
  rw [if_neg (fun hh=>hk hh.2),ho0]
  have hkD:decide (σ.kind (wShape (σ.w o))=3)=false:=decide_eq_false hk
  exact ⟨H,1,by simp [C171,regsOf,fin,iresult1,ci,hob,hws,iindexAddr,y2,hc,hwe,cs,y1,hlg,hkd,hkD,hk],.refl _ _⟩
 rw [if_pos hk] at y3
 unfold Hp.text
 rw [if_pos ⟨hi,hk⟩]
 unfold Hp.textL
 rw [hk] at hkd
 generalize σ.w o=x at*
 generalize wLen x=n at*
 generalize wShape x=s at*
 have m1:=mk_u8 H n (by omega)
 obtain ⟨H1,hH1⟩:∃H1,H1=H.push (.cells ((List.replicate n 0).map byteV) 5 false):=⟨_,rfl⟩
 rw [←hH1] at m1
 have f1:Fr H.next H H1:=by rw [hH1];exact (Fr.refl _ _).push (Nat.le_refl _) _
 have g1:H1.get H.next=some (.cells ((List.replicate n 0).map byteV) 5 false):=by rw [hH1,IH.get_push_same]
 suffices hh:∃H',finish J [.tmp 4,.tmp 5] (run J okAll C171 (regsOf #[a.ptr,.int .i64 (o:Int)].toList 0 .leaf) H)=some (.ret (.tuple #[.string (outB ((List.range n).map (σ.byteAt o))),.int .i64 0]),H')∧Fr H.next H H' by
  obtain ⟨H',e1,e2⟩:=hh
  exact ⟨H',0,e1,e2⟩
 simp [C171,regsOf,ci,hob,hws,iindexAddr,y2,hc,hwe,cs,y1,hlg,hkd,cl,m1]
 generalize hX:run J okAll (.loop L171_0) _ _=X
 obtain ⟨T1,hT,a0,a1,a6,a40,a41⟩:∃T1,run J okAll (.loop L171_0) T1 H1=X∧T1.at 0=a.ptr∧T1.at 1=.int .i64 (o:Int)∧T1.at 6=.slice (some ⟨H.next,0,none⟩) n n∧T1.at 40=.int .i64 (n:Int)∧T1.at 41=.int .i64 ((0:Nat):Int):=⟨_,hX,by simp,by simp,by simp,by simp,by simp⟩
 obtain ⟨T2,H2,r1,f2,n2,g2,k2⟩:=loop171 h (o:=o) (n:=n) (nb:=H.next) (by omega) (by omega) (fun i hi=>by omega) (Nat.le_refl _) (fun t=>T1.at t) a0 a1 a6 a40 n 0 T1 H1 (by omega) f1 (by rw [hH1];simp) (by simpa using g1) (fun _ _ _=>rfl) a41
 have r1:=hT.symm.trans r1
 subst r1
 have b6:=(k2 6 (by omega) (by omega)).trans a6
 have cv:=conv_lit' (n:=n) (c:=n) g2 (by simp)
 exact ⟨H2,by simp [regsOf,fin,iresult1,b6,cv],f2⟩
end
theorem cmp_pure (P:Program) (s u:ByteArray):pureRun P (Extern.BytealgCompare.compare #[.string s,.string u])=some (.int .i64 (Extern.BytealgCompare.cmp s u)):=by
 have e:Extern.BytealgCompare.compare #[.string s,.string u]=(do
   let a ←(pure s:Sem ByteArray)
   let b ←(pure u:Sem ByteArray)
   pure (.int .i64 (Extern.BytealgCompare.cmp a b))):=rfl
 rw [e,pureRun_bind]
 show Option.bind (some s) _=_
 simp only [Option.bind_some]
 rw [pureRun_bind]
 show Option.bind (some u) _=_
 simp only [Option.bind_some]
 rfl
theorem cmp_ext (T:Regs) (H:IH) (dst:Option Tmp) (type:TypeId) (pos:String) (after:Array Edge) (guard:Option (Nat×Bool)) (f x y:Operand) (g:FuncId) (fn:Func) (at_:Array TypeId) (s u:ByteArray) (hf:iev T f=.func (.func g) #[] #[]) (hx:iev T x=.string s) (hy:iev T y=.string u)
  (hfn:J.P.funcs[g]?=some fn) (hb0:hasBody J g=false) (hid:J.ident g=false) (hname:(fn.name== "runtime.NumGoroutine")=false) (hb:fn.body.isNone=true) (hn:Extern.findNext fn=none) (he:Extern.find fn=some Extern.BytealgCompare.compare):
  funcR J (.func (.func g) #[] #[]) #[.string s,.string u] ⟨dst,.call ⟨.value f,#[x,y],at_⟩,type,pos,after,guard⟩ T H=some (.val (.int .i64 (Extern.BytealgCompare.cmp s u)) H):=by
 simp only [funcR,hb0,hid,Bool.false_eq_true,if_false]
 refine ipure_of J T H ?_ (ext_run T dst type pos after guard hf hfn hname hb hn he ?_) rfl
 ·simp [Op.operands,Call.operands,hf,hx,hy,flat,flatN]
 ·simp only [List.map_toArray,List.map_cons,List.map_nil,hx,hy]
  exact cmp_pure J.P s u
theorem r_cmp (T:Regs) (H:IH) (dst:Option Tmp) (type:TypeId) (pos:String) (after:Array Edge) (guard:Option (Nat×Bool)) (x y:Operand) (at_:Array TypeId) (s u:ByteArray) (hx:iev T x=.string s) (hy:iev T y=.string u):
  funcR J (.func (.func 225) #[] #[]) #[.string s,.string u] ⟨dst,.call ⟨.value (.func 225),#[x,y],at_⟩,type,pos,after,guard⟩ T H=some (.val (.int .i64 (Extern.BytealgCompare.cmp s u)) H):=
 cmp_ext T H dst type pos after guard _ x y _ Tryz.f225 at_ s u rfl hx hy (by kernel_rfl) (by kernel_rfl) (by kernel_rfl) (by kernel_rfl) (by kernel_rfl) (by kernel_rfl) rfl
theorem c_Compare {H:IH} (s u:ByteArray):cal J okAll 172 #[.string s,.string u] H=some (.ret (.int .i64 (Extern.BytealgCompare.cmp s u)),H):=by
 have h1:cal J okAll 213 #[.string s,.string u] H=some (.ret (.int .i64 (Extern.BytealgCompare.cmp s u)),H):=by
  rw [cal213 _ _ (by simp)]
  simp [C213,regsOf,fin,iresult1,r_cmp]
 rw [cal172 _ _ (by simp)]
 simp [C172,regsOf,fin,iresult1,h1]
def bytesL (s:ByteArray):List Nat:=s.data.toList.map (·.toNat)
def Hp.setBytes (σ:Hp) (s:Nat):Nat→List Nat→Hp
 |_,[]=>σ
 |i,c::l=>(σ.setByte (s:Nat) (i:Nat) c).setBytes s (i+1) l
def Hp.goodBytes (σ:Hp) (s:Nat):Nat→List Nat→Bool
 |_,[]=>true
 |i,c::l=>σ.good&&(σ.setByte (s:Nat) (i:Nat) c).goodBytes s (i+1) l
def vSetBytes (s:Nat) (l:List Nat):VM Unit:=fun σ=>if σ.hp.goodBytes s 0 l then some (.ok (),{ σ with hp:=σ.hp.setBytes s 0 l }) else none
def vText (Sw:Swp) (x:Ins) (s:ByteArray):VM Unit:=do
 let r ←vMake Sw 0 s.size x.live []
 vSetBytes r.1 (bytesL s)
 vSet x.d (wPtr r.1)
def vByte (im:Img) (x:Ins):VM Unit:=do
 let o ←vObject x.a 3 3
 let n ←vNumber x.b
 vGood
 let r ←VM.get fun σ=>σ.hp.byte (o.1:Nat) (vIndex n)
 if r.2=0 then vSetInt x.d (r.1:Nat) else vThrow im (wImm 2)
def vTwo (x:Ins):VM (ByteArray×ByteArray):=do
 let o ←vObject x.a 3 3
 let p ←vObject x.b 3 3
 vGood
 VM.get fun σ=>(outB (σ.hp.text o.1),outB (σ.hp.text p.1))
def vCmp (x:Ins):VM Unit:=do
 let p ←vTwo x
 vSetInt x.d (Extern.BytealgCompare.cmp p.1 p.2)
def vCat (Sw:Swp) (im:Img) (x:Ins):VM Unit:=do
 let p ←vTwo x
 let k ←VM.get fun σ=>σ.hp.kindI 0
 vMust (decide (k=3))
 if 65536<p.1.size+p.2.size then vThrow im (wImm 3) else vText Sw x (p.1++p.2)
def vBytes (Sw:Swp) (im:Img) (x:Ins):VM Unit:=
 if x.op=11 then vLen x
 else if x.op=12 then vByte im x
 else if x.op=14 then vCmp x
 else vCat Sw im x
theorem vSetBytes_cases {s:Nat} {l:List Nat} {σ σ':Mst} {r:Except Int Unit} (h:vSetBytes s l σ=some (r,σ')):r=.ok ()∧σ'= { σ with hp:=σ.hp.setBytes s 0 l }∧σ.hp.goodBytes s 0 l=true:=by
 unfold vSetBytes at h
 split at h
 ·rename_i hg
  simp only [Option.some.injEq,Prod.mk.injEq] at h
  exact ⟨h.1.symm,h.2.symm,hg⟩
 ·simp at h
theorem outB_size (l:List Nat):(outB l).size=l.length:=by simp [outB,strOf,ByteArray.size]
theorem bytesL_lt (s:ByteArray):∀c∈bytesL s,c<256:=by
 intro c hc
 simp only [bytesL,List.mem_map] at hc
 obtain ⟨x,_,rfl⟩:=hc
 exact x.toNat_lt
theorem cmp_range (s u:ByteArray): -1≤Extern.BytealgCompare.cmp s u∧Extern.BytealgCompare.cmp s u≤1:=by
 unfold Extern.BytealgCompare.cmp
 split
 ·split<;>omega
 ·split
  ·omega
  ·split<;>omega
section
variable {H:IH} {lo:Nat} {im:Img} {A:VA} {σ:Mst}
theorem loop109 (a n:Nat) (l:List Nat) (hl:∀c∈l,c<256) (hn:l.length=n) (hnn:n≤65536) {b c:Nat} {H0:IH} (hb:b<H0.next) (hbo:b ∉ A.own) (hg0:H0.get b=some (.cells (l.map byteV) 5 false)) (K:Nat→Value) (k0:K 0=ptrV A.p) (k6:K 6=.int .i64 (a:Int)) (k22:K 22=.slice (some ⟨b,0,none⟩) n c) (k23:K 23=.int .i64 (n:Int)):∀(rest:List Nat) (i:Nat) (T:Regs) (H:IH) (σ:Mst),l.drop i=rest→i≤n→
  VmAt H lo im A σ→Nx H0 A H A→σ.hp.goodBytes a i rest=true→(∀t,t<24→t≠8→t≠9→T.at t=K t)→T.at 24=.int .i64 (i:Int)→
  ∃T' H',run J okAll (.loop L109_0) T H=some (.exit 0,T',H')∧VmAt H' lo im A { σ with hp:=σ.hp.setBytes a i rest }∧Nx H0 A H' A∧(∀t,t<24→t≠8→t≠9→T'.at t=K t):=by
 intro rest
 induction rest with
 |nil=>
  intro i T H σ hd hi h hx hg hK t24
  have:i=n:=by
   have:=congrArg List.length hd
   simp at this
   omega
  subst this
  have t23:=(hK 23 (by omega) (by omega) (by omega)).trans k23
  rw [r_loop]
  simp [L109_0,t23,t24]
  exact ⟨_,_,⟨rfl,rfl⟩,h,hx,fun t h1 h2 h3=>by simp (disch:=omega) only [at_set_om];exact hK t h1 h2 h3⟩
 |cons w rest ih=>
  intro i T H σ hd hi h hx hg hK t24
  have hlt:i<l.length:=by
   have:=congrArg List.length hd
   simp at this
   omega
  have hltn:i<n:=by omega
  rw [List.drop_eq_getElem_cons hlt] at hd
  simp only [List.cons.injEq] at hd
  obtain ⟨hd1,hd2⟩:=hd
  have hw:w<256:=hl w (hd1▸List.getElem_mem hlt)
  unfold Hp.goodBytes at hg
  simp only [Bool.and_eq_true] at hg
  obtain ⟨hg1,hg2⟩:=hg
  obtain ⟨H1,e,c1,h1,n1⟩:=m_setByte h hg1 (a:Int) (i:Int) w hw
  have t0:=(hK 0 (by omega) (by omega) (by omega)).trans k0
  have t6:=(hK 6 (by omega) (by omega) (by omega)).trans k6
  have t22:=(hK 22 (by omega) (by omega) (by omega)).trans k22
  have t23:=(hK 23 (by omega) (by omega) (by omega)).trans k23
  have gb:=(hx.fx.2 b hb hbo).trans hg0
  have hc:(l.map byteV)[i]?=some (.int .u8 (w:Int)):=by rw [List.getElem?_map,List.getElem?_eq_getElem hlt,hd1];rfl
  generalize l.map byteV=cs at gb hc
  have ho:=h.obj
  have hw1:IntKind.i64.wrap ((i:Int)+1)=((i+1:Nat):Int):=by rw [wrap64 _ (by omega) (by omega)];simp
  simp only [VA.cells,ptrV] at ho t0
  simp only [HpA.ptr] at c1
  obtain ⟨T1,s1,s2,s3⟩:∃T1,run J okAll (.loop L109_0) T H=run J okAll (.loop L109_0) T1 H1∧(∀t,t<24→t≠8→t≠9→T1.at t=K t)∧T1.at 24=.int .i64 ((i+1:Nat):Int):=by
   rw [r_loop]
   simp [L109_0,t0,t6,t22,t23,t24,hltn,ho,iindexAddr,gb,hc,c1,hw1,-Int.natCast_add]
   exact ⟨_,rfl,fun t h1 h2 h3=>by simp (disch:=omega) only [at_set_om];exact hK t h1 h2 h3,by simp⟩
  obtain ⟨T2,H2,r1,r2,r3,r4⟩:=ih (i+1) T1 H1 _ hd2 (by omega) h1 (hx.trans n1) hg2 s2 s3
  refine ⟨T2,H2,s1.trans r1,?_,r3,r4⟩
  unfold Hp.setBytes
  exact r2
theorem m_text {Sw:Swp} (hS:SweepOk lo im Sw) (x:Ins) (s:ByteArray) (hs:s.size≤65536) (h:VmAt H lo im A σ) {b o:Nat} (hblo:b<lo) (hx:InsAt H lo b o x) (hxl:InsLim x) (hst:σ.made<σ.steps∧σ.swept<σ.steps):
  Out lo im H A (cal J okAll 109 #[ptrV A.p,.pointer (some ⟨b,o,none⟩),.string s] H) UnitV (vText Sw x s σ):=by
 intro r σ' hr
 obtain ⟨cs,pr,vl,vm,vv,g0,g1,g2,g3,g4,g5,g6,g7,g8,g9,g10,g11,g12⟩:=hx.ex
 rw [cal109 _ _ (by simp)]
 unfold vText at hr
 obtain ⟨va,vc,hvv,_⟩:=id g12
 have g9':=g9
 rw [hvv] at g9'
 have hnil:HeldAt H A.own (.slice none 0 0) []:=.inl ⟨rfl,rfl⟩
 rcases VM.bind_cases hr with ⟨p,σ1,k1,hr2⟩|⟨k,k1,rfl⟩
 rotate_left
 ·obtain ⟨H2,A2,e2,c2,h2,n2,rv2⟩:=m_make hS h 0 (s.size:Int) (by omega) g12 (by have:=hxl.live;omega) hnil (by simp) (by simp) hst _ _ k1
  have rv2:e2=.pan (overV k):=rv2
  subst rv2
  simp only [ptrV,hvv] at c2
  exact ⟨H2,A2,.pan (overV k),by simp [C109,regsOf,fin,iresult1,ptrV,g0,g9',c2],h2,n2,rfl⟩
 obtain ⟨H2,A2,e2,c2,h2,n2,rv2⟩:=m_make hS h 0 (s.size:Int) (by omega) g12 (by have:=hxl.live;omega) hnil (by simp) (by simp) hst _ _ k1
 obtain ⟨at_,held⟩:=p
 obtain ⟨u2,rfl,u3,rfl,⟨hh1,hh2,hh3⟩,hat⟩:=rv2
 simp only at hh1 hh2 hh3 hat hr2
 have p2:A2.p=A.p:=n2.p
 rcases VM.bind_cases hr2 with ⟨_,σ7,l1,hr8⟩|⟨k,l1,_⟩
 rotate_left
 ·obtain ⟨l2,_⟩:=vSetBytes_cases l1
  simp at l2
 obtain ⟨_,rfl,l3⟩:=vSetBytes_cases l1
 obtain ⟨va2,vn2,vc2,hu3⟩:=hh1.val
 subst hu3
 simp only [ptrV,hvv] at c2
 obtain ⟨Hb,hHb⟩:∃Hb,Hb=H2.push (.cells ((bytesL s).map byteV) 5 false):=⟨_,rfl⟩
 have hbl:(bytesL s).length=s.size:=by unfold bytesL;rw [List.length_map];exact Array.length_toList
 have cvb:iconvert J 9 34 (.string s) H2=some (.slice (some ⟨H2.next,0,none⟩) s.size capU,Hb):=by
  rw [iconvert_strb,hHb]
  have e:bytesCells s=(bytesL s).map byteV:=by unfold bytesCells bytesL;rw [List.map_map];rfl
  rw [e]
 have fb:Fr H2.next H2 Hb:=by rw [hHb];exact (Fr.refl _ _).push (Nat.le_refl _) _
 have hb:=h2.fr fb
 simp [C109,regsOf,ptrV,g0,g9',c2,cvb,-iconvert_strb]
 generalize hX:run J okAll (.loop L109_0) _ _=X
 obtain ⟨T1,hT,a0,a1,a6,a22,a23,a24⟩:∃T1,run J okAll (.loop L109_0) T1 Hb=X∧T1.at 0=ptrV A.p∧T1.at 1=.pointer (some ⟨b,o,none⟩)∧T1.at 6=.int .i64 (at_:Int)∧T1.at 22=.slice (some ⟨H2.next,0,none⟩) s.size capU∧T1.at 23=.int .i64 (s.size:Int)∧T1.at 24=.int .i64 ((0:Nat):Int):=⟨_,hX,by simp [ptrV],by simp,by simp,by simp,by simp,by simp⟩
 obtain ⟨T2,H3,r1,h3,n3,k3⟩:=loop109 (lo:=lo) (im:=im) (A:=A2) at_ s.size (bytesL s) (bytesL_lt s) hbl hs (b:=H2.next) (c:=capU) (H0:=Hb) (by rw [hHb];simp) (fun hm=>by have:=(h2.own _ hm).2;omega) (by rw [hHb,IH.get_push_same]) (fun t=>T1.at t) (by rw [p2];exact a0) a6 a22 a23 (bytesL s) 0 T1 Hb _ rfl (by omega) hb (.refl _ _) l3 (fun _ _ _ _=>rfl) a24
 have r1:=hT.symm.trans r1
 subst r1
 have b0:=(k3 0 (by omega) (by omega) (by omega)).trans a0
 have b1:=(k3 1 (by omega) (by omega) (by omega)).trans a1
 have b6:=(k3 6 (by omega) (by omega) (by omega)).trans a6
 have nx3:Nx H A H3 A2:=(n2.trans ⟨rfl,Fx.of_fr fb,fun x hx=>.inl hx⟩).trans n3
 have g03:H3.get b=some (.cells cs 30 pr):=(nx3.same h b hblo).trans g0
 have hpt:=c_Ptr H3 at_ (by omega)
 obtain ⟨H4,A4,e4',c4,h4,n4,rv4⟩:=m_set h3 x.d (wPtr at_) (by unfold wPtr;omega) _ _ hr8
 refine ⟨H4,A4,e4',?_,h4,nx3.trans n4,rv4⟩
 simp only [ptrV] at b0
 simp only [ptrV,p2] at c4
 rcases rv4.unit with rfl|⟨k,rfl⟩<;>simp [regsOf,fin,iresult1,b0,b1,b6,g03,g2,hpt,c4]
theorem m_two {r:Except Int (ByteArray×ByteArray)} {σ':Mst} (h:VmAt H lo im A σ) (x:Ins) (hx:vTwo x σ=some (r,σ')):σ'=σ∧((∃o p n m,r=.ok (outB (σ.hp.text o),outB (σ.hp.text p))∧o<9223372036854775808∧p<9223372036854775808∧σ.hp.good=true∧cal J okAll 168 #[ptrV A.p,.int .i64 x.a,.int .i64 3,.int .i64 3] H=some (.ret (.tuple #[.int .i64 (o:Int),.int .i64 (n:Int)]),H)∧
  cal J okAll 168 #[ptrV A.p,.int .i64 x.b,.int .i64 3,.int .i64 3] H=some (.ret (.tuple #[.int .i64 (p:Int),.int .i64 (m:Int)]),H))∨
  (r=.error 6∧((cal J okAll 168 #[ptrV A.p,.int .i64 x.a,.int .i64 3,.int .i64 3] H=some (.pan (overV 6),H))∨(∃o n:Nat,cal J okAll 168 #[ptrV A.p,.int .i64 x.a,.int .i64 3,.int .i64 3] H=some (.ret (.tuple #[.int .i64 (o:Int),.int .i64 (n:Int)]),H)∧cal J okAll 168 #[ptrV A.p,.int .i64 x.b,.int .i64 3,.int .i64 3] H=some (.pan (overV 6),H))))):=by
 unfold vTwo at hx
 rcases VM.bind_cases hx with ⟨o,σ1,y1,hr2⟩|⟨k,y1,rfl⟩
 rotate_left
 ·obtain ⟨e,y2⟩:=m_object h _ _ _ y1
  rcases y2 with ⟨_,y2,_⟩|⟨y2,y3⟩
  ·simp at y2
  ·exact ⟨e,.inr ⟨by simp only [Except.error.injEq] at y2;rw [y2],.inl y3⟩⟩
 obtain ⟨e,y2⟩:=m_object h _ _ _ y1
 rw [e] at hr2
 rcases y2 with ⟨o',y2,y3,_,y4⟩|⟨y2,_⟩
 rotate_left
 ·simp at y2
 simp only [Except.ok.injEq] at y2
 subst y2
 rcases VM.bind_cases hr2 with ⟨p,σ2,z1,hr3⟩|⟨k,z1,rfl⟩
 rotate_left
 ·obtain ⟨e2,z2⟩:=m_object h _ _ _ z1
  rcases z2 with ⟨_,z2,_⟩|⟨z2,z3⟩
  ·simp at z2
  ·exact ⟨e2,.inr ⟨by simp only [Except.error.injEq] at z2;rw [z2],.inr ⟨_,_,y4,z3⟩⟩⟩
 obtain ⟨e2,z2⟩:=m_object h _ _ _ z1
 rw [e2] at hr3
 rcases z2 with ⟨p',z2,z3,_,z4⟩|⟨z2,_⟩
 rotate_left
 ·simp at z2
 simp only [Except.ok.injEq] at z2
 subst z2
 rcases VM.bind_cases hr3 with ⟨_,σ3,f1,hr4⟩|⟨k,f1,_⟩
 rotate_left
 ·obtain ⟨_,f2,_⟩:=vGood_cases f1
  simp at f2
 obtain ⟨e3,_,hg⟩:=vGood_cases f1
 rw [e3] at hr4
 obtain ⟨q1,q2⟩:=VM.get_cases hr4
 exact ⟨q2,.inl ⟨_,_,_,_,q1,y3,z3,hg,y4,z4⟩⟩
end
section
variable {lo:Nat} {im:Img}
theorem m_byte (x:Ins) (hop:x.op=12):InsOut lo im 110 x (vByte im x):=by
 intro H A σ b o h hblo hx hxl hne hst r σ' hr
 obtain ⟨cs,pr,vl,vm,vv,g0,g1,g2,g3,g4,g5,g6,g7,g8,g9,g10,g11,g12⟩:=hx.ex
 rw [cal110 _ _ (by simp)]
 rw [hop] at g1
 have ho:=h.obj
 simp only [VA.cells,ptrV] at ho
 unfold vByte at hr
 rcases VM.bind_cases hr with ⟨p,σ1,y1,hr2⟩|⟨k,y1,rfl⟩
 rotate_left
 ·obtain ⟨rfl,y2⟩:=m_object h _ _ _ y1
  rcases y2 with ⟨_,y2,_⟩|⟨y2,y3⟩
  ·simp at y2
  ·simp only [Except.error.injEq] at y2
   subst y2
   simp only [ptrV] at y3
   exact ⟨H,A,.pan (overV 6),by simp [C110,regsOf,fin,iresult1,ptrV,g0,g1,g3,y3],h,.refl _ _,rfl⟩
 obtain ⟨e1,y2⟩:=m_object h _ _ _ y1
 rw [e1] at hr2
 clear e1
 rcases y2 with ⟨p',y2,y3,_,y4⟩|⟨y2,_⟩
 rotate_left
 ·simp at y2
 simp only [Except.ok.injEq] at y2
 subst y2
 obtain ⟨at_,ln⟩:=p
 simp only [ptrV] at y4 y3 hr2
 rcases VM.bind_cases hr2 with ⟨n,σ2,x1,hr3⟩|⟨k,x1,rfl⟩
 rotate_left
 ·obtain ⟨rfl,x2⟩:=m_number h _ x1
  rcases x2 with ⟨_,x2,_⟩|⟨x2,x3⟩
  ·simp at x2
  ·simp only [Except.error.injEq] at x2
   subst x2
   simp only [ptrV] at x3
   exact ⟨H,A,.pan (overV 6),by simp [C110,regsOf,fin,iresult1,ptrV,g0,g1,g3,g4,y4,ho,x3],h,.refl _ _,rfl⟩
 obtain ⟨e2,x2⟩:=m_number h _ x1
 rw [e2] at hr3
 clear e2
 rcases x2 with ⟨n',x2,_,_,x3⟩|⟨x2,_⟩
 rotate_left
 ·simp at x2
 simp only [Except.ok.injEq] at x2
 subst x2
 simp only [ptrV] at x3
 rcases VM.bind_cases hr3 with ⟨_,σ3,z1,hr4⟩|⟨k,z1,_⟩
 rotate_left
 ·obtain ⟨_,z2,_⟩:=vGood_cases z1
  simp at z2
 obtain ⟨e3,_,hg⟩:=vGood_cases z1
 rw [e3] at hr4
 clear e3
 obtain ⟨hs,hf⟩:=(Hp.good_iff _).1 hg
 have hidx:=c_index (H:=H) n
 have hc:=c_Byte h.hp hs hf (at_:Nat) (vIndex n)
 rcases VM.bind_cases hr4 with ⟨w,σ4,w1,hr5⟩|⟨k,w1,_⟩
 rotate_left
 ·obtain ⟨w2,_⟩:=VM.get_cases w1
  simp at w2
 obtain ⟨w2,e4⟩:=VM.get_cases w1
 rw [e4] at hr5
 clear e4
 simp only [Except.ok.injEq] at w2
 rw [←w2] at hc
 have hwl:w.1<256:=by
  rw [w2];unfold Hp.byte;split
  ·unfold Hp.byteAt;simp only;omega
  ·simp
 obtain ⟨wv,we⟩:=w
 simp only [HpA.ptr] at hc hr5 hwl
 have hw8:IntKind.i64.wrap (wv:Int)=(wv:Int):=by rw [wrapI];omega
 by_cases hwe:we=0
 ·rw [if_pos hwe] at hr5
  obtain ⟨H1,A1,e,c1,h1,n1,rv1⟩:=m_setInt h x.d (wv:Nat) (by omega) _ _ hr5
  refine ⟨H1,A1,e,?_,h1,n1,rv1⟩
  simp only [ptrV] at c1
  rcases rv1.unit with rfl|⟨k,rfl⟩<;>simp [C110,regsOf,fin,iresult1,ptrV,g0,g1,g2,g3,g4,y4,ho,x3,hidx,hc,hwe,hw8,c1]
 ·rw [if_neg hwe] at hr5
  have hwd:decide (we=0)=false:=decide_eq_false hwe
  obtain ⟨H1,A1,e,c1,h1,n1,rv1⟩:=m_throw h (wImm 2) (wImm_lt 2) _ _ hr5
  have hi:=c_Imm H 2 (by omega)
  refine ⟨H1,A1,e,?_,h1,n1,rv1⟩
  simp only [ptrV] at c1
  rcases rv1.unit with rfl|⟨k,rfl⟩<;>simp [C110,regsOf,fin,iresult1,ptrV,g0,g1,g2,g3,g4,y4,ho,x3,hidx,hc,hwe,hwd,hi,c1]
theorem m_two_bad {H:IH} {A:VA} {σ:Mst} (_:VmAt H lo im A σ) {b o:Nat} {x:Ins} (hx:InsAt H lo b o x) (hop:x.op=14∨x.op=13)
  (hb:(cal J okAll 168 #[ptrV A.p,.int .i64 x.a,.int .i64 3,.int .i64 3] H=some (.pan (overV 6),H))∨(∃o n:Nat,cal J okAll 168 #[ptrV A.p,.int .i64 x.a,.int .i64 3,.int .i64 3] H=some (.ret (.tuple #[.int .i64 (o:Int),.int .i64 (n:Int)]),H)∧cal J okAll 168 #[ptrV A.p,.int .i64 x.b,.int .i64 3,.int .i64 3] H=some (.pan (overV 6),H))):
  finish J [] (run J okAll C110 (regsOf #[ptrV A.p,.pointer (some ⟨b,o,none⟩)].toList 0 .leaf) H)=some (.pan (overV 6),H):=by
 obtain ⟨cs,pr,vl,vm,vv,g0,g1,g2,g3,g4,g5,g6,g7,g8,g9,g10,g11,g12⟩:=hx.ex
 rcases hb with hb|⟨oo,n,h1,h2⟩
 ·simp only [ptrV] at hb
  rcases hop with hop|hop<;>rw [hop] at g1<;>simp [C110,regsOf,fin,iresult1,ptrV,g0,g1,g3,hb]
 ·simp only [ptrV] at h1 h2
  rcases hop with hop|hop<;>rw [hop] at g1<;>simp [C110,regsOf,fin,iresult1,ptrV,g0,g1,g3,g4,h1,h2]
theorem text_len {σ:Hp} (o:Nat):(σ.text o).length<1048576:=by
 unfold Hp.text
 split
 ·unfold Hp.textL wLen;simp;omega
 ·simp
theorem m_cmp (x:Ins) (hop:x.op=14):InsOut lo im 110 x (vCmp x):=by
 intro H A σ b o h hblo hx hxl hne hst r σ' hr
 obtain ⟨cs,pr,vl,vm,vv,g0,g1,g2,g3,g4,g5,g6,g7,g8,g9,g10,g11,g12⟩:=hx.ex
 rw [cal110 _ _ (by simp)]
 unfold vCmp at hr
 rcases VM.bind_cases hr with ⟨p,σ1,y1,hr2⟩|⟨k,y1,rfl⟩
 rotate_left
 ·obtain ⟨rfl,y2⟩:=m_two h x y1
  rcases y2 with ⟨_,_,_,_,y2,_⟩|⟨y2,y3⟩
  ·simp at y2
  ·simp only [Except.error.injEq] at y2
   subst y2
   exact ⟨H,A,.pan (overV 6),m_two_bad h hx (.inl hop) y3,h,.refl _ _,rfl⟩
 obtain ⟨e1,y2⟩:=m_two h x y1
 rw [e1] at hr2
 clear e1
 rcases y2 with ⟨oa,ob,na,nb,y2,l1,l2,hg,c1,c2⟩|⟨y2,_⟩
 rotate_left
 ·simp at y2
 simp only [Except.ok.injEq] at y2
 subst y2
 obtain ⟨H1,e1,t1,f1⟩:=c_Text h.hp hg oa
 have h1:=h.fr f1
 obtain ⟨H2,e2,t2,f2⟩:=c_Text h1.hp hg ob
 have h2:=h1.fr f2
 have n2:Nx H A H2 A:=⟨rfl,Fx.of_fr (f1.trans (f2.of_le f1.1)),fun x hx=>.inl hx⟩
 have n1:Nx H A H1 A:=⟨rfl,Fx.of_fr f1,fun x hx=>.inl hx⟩
 simp only at hr2
 generalize outB (σ.hp.text oa)=s at*
 generalize outB (σ.hp.text ob)=u at*
 have cc:=c_Compare (H:=H2) s u
 have hcr:=cmp_range s u
 generalize Extern.BytealgCompare.cmp s u=m at*
 obtain ⟨H3,A3,e,c3,h3,n3,rv3⟩:=m_setInt h2 x.d m (by omega) _ _ hr2
 have g01:H1.get b=some (.cells cs 30 pr):=(n1.same h b hblo).trans g0
 have g02:H2.get b=some (.cells cs 30 pr):=(n2.same h b hblo).trans g0
 rw [hop] at g1
 have ho:=h.obj
 have ho1:=h1.obj
 simp only [VA.cells,ptrV] at ho ho1
 simp only [ptrV] at c1 c2 c3
 simp only [HpA.ptr] at t1 t2
 refine ⟨H3,A3,e,?_,h3,n2.trans n3,rv3⟩
 rcases rv3.unit with rfl|⟨k,rfl⟩<;>simp [C110,regsOf,fin,iresult1,ptrV,g0,g1,g2,g3,g4,c1,c2,ho,t1,ho1,t2,g01,g02,cc,c3]
theorem m_cat {Sw:Swp} (hS:SweepOk lo im Sw) (x:Ins) (hop:x.op=13):InsOut lo im 110 x (vCat Sw im x):=by
 intro H A σ b o h hblo hx hxl hne hst r σ' hr
 obtain ⟨cs,pr,vl,vm,vv,g0,g1,g2,g3,g4,g5,g6,g7,g8,g9,g10,g11,g12⟩:=hx.ex
 rw [cal110 _ _ (by simp)]
 unfold vCat at hr
 rcases VM.bind_cases hr with ⟨p,σ1,y1,hr2⟩|⟨k,y1,rfl⟩
 rotate_left
 ·obtain ⟨rfl,y2⟩:=m_two h x y1
  rcases y2 with ⟨_,_,_,_,y2,_⟩|⟨y2,y3⟩
  ·simp at y2
  ·simp only [Except.error.injEq] at y2
   subst y2
   exact ⟨H,A,.pan (overV 6),m_two_bad h hx (.inr hop) y3,h,.refl _ _,rfl⟩
 obtain ⟨e1,y2⟩:=m_two h x y1
 rw [e1] at hr2
 clear e1
 rcases y2 with ⟨oa,ob,na,nb,y2,l1,l2,hg,c1,c2⟩|⟨y2,_⟩
 rotate_left
 ·simp at y2
 simp only [Except.ok.injEq] at y2
 subst y2
 obtain ⟨H1,e1,t1,f1⟩:=c_Text h.hp hg oa
 have h1:=h.fr f1
 obtain ⟨H2,e2,t2,f2⟩:=c_Text h1.hp hg ob
 have h2:=h1.fr f2
 have n2:Nx H A H2 A:=⟨rfl,Fx.of_fr (f1.trans (f2.of_le f1.1)),fun x hx=>.inl hx⟩
 have n1:Nx H A H1 A:=⟨rfl,Fx.of_fr f1,fun x hx=>.inl hx⟩
 simp only at hr2
 have s1:=outB_size (σ.hp.text oa)
 have s2:=outB_size (σ.hp.text ob)
 have s3:=text_len (σ:=σ.hp) oa
 have s4:=text_len (σ:=σ.hp) ob
 generalize outB (σ.hp.text oa)=s at*
 generalize outB (σ.hp.text ob)=u at*
 have g01:H1.get b=some (.cells cs 30 pr):=(n1.same h b hblo).trans g0
 have g02:H2.get b=some (.cells cs 30 pr):=(n2.same h b hblo).trans g0
 have hkd:=c_Kind h2.hp 0
 have hm1:=c_must (H:=H2) (ptrV A.p) true
 have hm2:=c_must (H:=H2) (ptrV A.p) false
 rw [hop] at g1
 have ho:=h.obj
 have ho1:=h1.obj
 have ho2:=h2.obj
 simp only [VA.cells,ptrV] at ho ho1 ho2
 simp only [ptrV] at c1 c2 hm1 hm2
 simp only [HpA.ptr] at t1 t2 hkd
 rcases VM.bind_cases hr2 with ⟨kd,σ3,w1,hr3⟩|⟨k,w1,_⟩
 rotate_left
 ·obtain ⟨w2,_⟩:=VM.get_cases w1
  simp at w2
 obtain ⟨w2,e4⟩:=VM.get_cases w1
 rw [e4] at hr3
 clear e4
 simp only [Except.ok.injEq] at w2
 rw [←w2] at hkd
 rcases VM.bind_cases hr3 with ⟨_,σ4,f3,hr5⟩|⟨k,f3,rfl⟩
 rotate_left
 ·obtain ⟨rfl,f4⟩:=vMust_cases f3
  rcases f4 with ⟨_,f4⟩|⟨f4,f5⟩
  ·simp at f4
  simp only [Except.error.injEq] at f5
  subst f5
  exact ⟨H2,A,.pan (overV 6),by simp [C110,regsOf,fin,iresult1,ptrV,g0,g1,g2,g3,g4,c1,c2,ho,t1,ho1,t2,g01,g02,ho2,hkd,f4,hm2],h2,n2,rfl⟩
 obtain ⟨e5,f4⟩:=vMust_cases f3
 rw [e5] at hr5
 clear e5
 rcases f4 with ⟨f4,_⟩|⟨_,f4⟩
 rotate_left
 ·simp at f4
 have wl:IntKind.i64.wrap ((s.size:Int)+(u.size:Int))=(s.size:Int)+(u.size:Int):=by rw [wrapI];omega
 by_cases hbig:65536<s.size+u.size
 ·rw [if_pos hbig] at hr5
  have hbD:(65536:Int)<(s.size:Int)+(u.size:Int):=by omega
  obtain ⟨H3,A3,e,c3,h3,n3,rv3⟩:=m_throw h2 (wImm 3) (wImm_lt 3) _ _ hr5
  have hi:=c_Imm H2 3 (by omega)
  simp only [ptrV] at c3
  refine ⟨H3,A3,e,?_,h3,n2.trans n3,rv3⟩
  rcases rv3.unit with rfl|⟨k,rfl⟩<;>simp [C110,regsOf,fin,iresult1,ptrV,g0,g1,g2,g3,g4,c1,c2,ho,t1,ho1,t2,g01,g02,ho2,hkd,f4,hm1,wl,hbD,hi,c3]
 ·rw [if_neg hbig] at hr5
  have hbD:¬(65536:Int)<(s.size:Int)+(u.size:Int):=by omega
  have hsz:(s++u).size≤65536:=by rw [ByteArray.size_append];omega
  have hx2:InsAt H2 lo b o x:=hx.same (n2.same h) hblo
  obtain ⟨H3,A3,e,c3,h3,n3,rv3⟩:=m_text hS x (s++u) hsz h2 hblo hx2 hxl ⟨hst.2.1,hst.2.2⟩ _ _ hr5
  have hcat:((((s.size+u.size:Nat):Int)>9223372036854775807))=False:=by simp only [eq_iff_iff,iff_false];omega
  simp only [ptrV] at c3
  refine ⟨H3,A3,e,?_,h3,n2.trans n3,rv3⟩
  rcases rv3.unit with rfl|⟨k,rfl⟩<;>simp [C110,regsOf,fin,iresult1,ptrV,g0,g1,g2,g3,g4,c1,c2,ho,t1,ho1,t2,g01,g02,ho2,hkd,f4,hm1,wl,hbD,bin_sadd (h:=hcat),c3]
theorem m_bytes {Sw:Swp} (hS:SweepOk lo im Sw) (x:Ins) (hop:x.op=11∨x.op=12∨x.op=13∨x.op=14):InsOut lo im 110 x (vBytes Sw im x):=by
 unfold vBytes
 by_cases k1:x.op=11
 ·rw [if_pos k1];exact m_len x k1
 rw [if_neg k1]
 by_cases k2:x.op=12
 ·rw [if_pos k2];exact m_byte x k2
 rw [if_neg k2]
 by_cases k4:x.op=14
 ·rw [if_pos k4];exact m_cmp x k4
 rw [if_neg k4]
 exact m_cat hS x (by omega)
end
theorem wIsImm_imm (n:Int):wIsImm (wImm n)=true:=by unfold wIsImm wImm;rw [decide_eq_true_eq];omega
theorem wInt_imm (n:Int) (h: -4611686018427387904≤n∧n≤4611686018427387903):wInt (wImm n)=n:=by unfold wInt wImm;split<;>omega
theorem vbind {α β:Type} (x:VM α) (f:α→VM β) (σ:Mst):(x >>= f) σ=VM.bind x f σ:=rfl
def hdSet (hd:List Nat) (a:Nat):List Nat:=hd.set (a / 64) (bitOr ((hd[a / 64]?).getD 0) (a%64))
def hdOf (l:List Nat):List Nat:=l.foldl hdSet (List.replicate 5 0)
theorem hdSet_len (hd:List Nat) (a:Nat):(hdSet hd a).length=hd.length:=by simp [hdSet]
theorem hdOf_len (l:List Nat):(hdOf l).length=5:=by
 have:∀(l:List Nat) (hd:List Nat),(l.foldl hdSet hd).length=hd.length:=by
  intro l
  induction l with
  |nil=>intro hd;rfl
  |cons a l ih=>intro hd;rw [List.foldl_cons,ih,hdSet_len]
 unfold hdOf;rw [this];rfl
theorem hdOf_snoc (l:List Nat) (a:Nat):hdOf (l++[a])=hdSet (hdOf l) a:=by unfold hdOf;rw [List.foldl_append];rfl
theorem odd_bit (w r:Nat):decide (w / 2^r%2=1)=w.testBit r:=by
 rw [Nat.testBit_eq_decide_div_mod_eq]
theorem hdSet_bit (hd:List Nat) (a b:Nat) (h:a / 64<hd.length):(((hdSet hd a)[b / 64]?).getD 0).testBit (b%64)=((((hd[b / 64]?).getD 0).testBit (b%64))||decide (a=b)):=by
 unfold hdSet
 rw [List.getElem?_set]
 by_cases h1:a / 64=b / 64
 ·rw [if_pos h1,if_pos (by omega),Option.getD_some,←or_two_pow,Nat.testBit_or,Nat.testBit_two_pow,h1]
  congr 1
  by_cases h2:a=b
  ·subst h2;simp
  ·rw [decide_eq_false h2];exact decide_eq_false (by omega)
 ·rw [if_neg h1,decide_eq_false (fun e=>h1 (by rw [e])),Bool.or_false]
theorem hdOf_bit:∀(l:List Nat) (b:Nat),(∀a∈l,a<320)→(((hdOf l)[b / 64]?).getD 0).testBit (b%64)=decide (b∈l):=by
 intro l b
 have key:∀(l:List Nat) (hd:List Nat),hd.length=5→(∀a∈l,a<320)→(((l.foldl hdSet hd)[b / 64]?).getD 0).testBit (b%64)=((((hd[b / 64]?).getD 0).testBit (b%64))||decide (b∈l)):=by
  intro l
  induction l with
  |nil=>intro hd _ _;simp
  |cons a l ih=>
   intro hd hl ha
   rw [List.foldl_cons,ih _ (by rw [hdSet_len];exact hl) (fun x hx=>ha x (List.mem_cons_of_mem _ hx)),hdSet_bit _ _ _ (by have:=ha a (by simp);omega),Bool.or_assoc]
   congr 1
   by_cases h1:a=b
   ·subst h1;simp
   ·by_cases h2:b∈l
    ·simp [h2]
    ·rw [decide_eq_false h1,decide_eq_false h2,decide_eq_false (by simp [h2,Ne.symm h1])];rfl
 intro h
 unfold hdOf
 rw [key l _ (by simp) h]
 have:((((List.replicate 5 0:List Nat)[b / 64]?).getD 0))=0:=by
  by_cases hb:b / 64<5
  ·rw [List.getElem?_replicate,if_pos hb];rfl
  ·rw [List.getElem?_replicate,if_neg hb];rfl
 rw [this];simp
def osz (n:Nat):Nat:=1+(n+7) / 8
def chainT:Nat→List (Nat×List Nat)→Nat→Prop
 |s,[],e=>s=e
 |s,(a,t)::l,e=>s=a∧chainT (a+osz t.length) l e
structure TH (σ:Hp) (os:List (Nat×List Nat)):Prop where
 ly:σ.ly= [(3,0),(2,0)]
 ws:σ.ws.length=300
 hd:σ.hd=hdOf (os.map (·.1))
 top:σ.top≤300
 chain:chainT 0 os σ.top
 head:∀p∈os,σ.w p.1=wHead 0 p.2.length
 byte:∀p∈os,∀i,i<8*((p.2.length+7) / 8)→σ.byteAt p.1 i=(p.2[i]?).getD 0
 zero:∀i,σ.top≤i→i<300→σ.w i=0
theorem chainT_lt:∀{os:List (Nat×List Nat)} {s e:Nat},chainT s os e→s≤e∧∀p∈os,s≤p.1∧p.1+osz p.2.length≤e
 | [],s,e,h=>by simp only [chainT] at h;exact ⟨by omega,fun p hp=>by simp at hp⟩
 |(a,t)::l,s,e,h=>by
  simp only [chainT] at h
  obtain ⟨h1,h2⟩:=h
  obtain ⟨h3,h4⟩:=chainT_lt h2
  have:1≤osz t.length:=by unfold osz;omega
  refine ⟨by omega,fun p hp=>?_⟩
  rcases List.mem_cons.1 hp with rfl|hp
  ·exact ⟨by simp only;omega,h3⟩
  ·have:=h4 p hp;exact ⟨by omega,this.2⟩
theorem chainT_snoc:∀{os:List (Nat×List Nat)} {s e:Nat} (t:List Nat),chainT s os e→chainT s (os++[(e,t)]) (e+osz t.length)
 | [],s,e,t,h=>by simp only [chainT] at h;subst h;simp [chainT]
 |(a,u)::l,s,e,t,h=>by simp only [chainT] at h;exact ⟨h.1,chainT_snoc t h.2⟩
theorem chainT_apart:∀{os:List (Nat×List Nat)} {s e:Nat},chainT s os e→∀p∈os,∀q∈os,p=q∨p.1+osz p.2.length≤q.1∨q.1+osz q.2.length≤p.1
 | [],s,e,h=>fun p hp=>by simp at hp
 |(a,t)::l,s,e,h=>fun p hp q hq=>by
  simp only [chainT] at h
  obtain ⟨h1,h2⟩:=h
  have h3:=(chainT_lt h2).2
  rcases List.mem_cons.1 hp with rfl|hp<;>rcases List.mem_cons.1 hq with rfl|hq
  ·exact .inl rfl
  ·exact .inr (.inl (h3 q hq).1)
  ·exact .inr (.inr (h3 p hp).1)
  ·exact chainT_apart h2 p hp q hq
section
variable {σ:Hp} {os:List (Nat×List Nat)}
theorem TH.is (H:TH σ os) (a:Nat):σ.is a=decide (a∈os.map (·.1)):=by
 have hc:=(chainT_lt H.chain).2
 have ht:=H.top
 have hpos:∀x∈os.map (·.1),x<320:=fun x hx=>by
  obtain ⟨p,hp,rfl⟩:=List.mem_map.1 hx
  have:=(hc p hp).2
  unfold osz at this
  omega
 unfold Hp.is Hp.bit
 rw [odd_bit,H.hd,hdOf_bit _ _ hpos]
 by_cases hm:a∈os.map (·.1)
 ·obtain ⟨p,hp,rfl⟩:=List.mem_map.1 hm
  have:=(hc p hp).2
  unfold osz at this
  rw [decide_eq_true (show p.1<σ.top by omega),Bool.true_and]
 ·rw [decide_eq_false hm,Bool.and_false]
theorem TH.kind (H:TH σ os):σ.kind 0=3:=by unfold Hp.kind;rw [H.ly];rfl
theorem TH.kindI (H:TH σ os):σ.kindI 0=3:=by unfold Hp.kindI Hp.kind;rw [H.ly];rfl
theorem TH.len (H:TH σ os) {p:Nat×List Nat} (hp:p∈os):p.2.length≤2392:=by
 have h1:=(chainT_lt H.chain).2 p hp
 have h2:=H.top
 unfold osz at h1
 omega
theorem wShape0 (n:Nat) (_:n<1048576):wShape (wHead 0 n)=0:=by unfold wShape wHead;omega
theorem wLen0 (n:Nat) (hn:n<1048576):wLen (wHead 0 n)=n:=by unfold wLen wHead;omega
theorem TH.good (H:TH σ os):σ.good=true:=by
 rw [Hp.good_iff]
 refine ⟨fun a ha=>?_,fun a ha=>?_⟩
 all_goals
  rw [H.is,decide_eq_true_eq] at ha
  obtain ⟨p,hp,rfl⟩:=List.mem_map.1 ha
  have hl:=H.len hp
  have hc:=((chainT_lt H.chain).2 p hp).2
  unfold osz at hc
  rw [H.head p hp,wShape0 _ (by omega)]
 ·rw [H.ly];simp
 ·rw [H.kind,if_pos rfl,wLen0 _ (by omega)];omega
theorem TH.isO (H:TH σ os) {p:Nat×List Nat} (hp:p∈os):σ.is p.1=true:=by rw [H.is,decide_eq_true_eq];exact List.mem_map.2 ⟨p,hp,rfl⟩
theorem TH.shapeOf (H:TH σ os) {p:Nat×List Nat} (hp:p∈os):σ.shapeOf p.1=0:=by
 have hl:=H.len hp
 unfold Hp.shapeOf;rw [if_pos (H.isO hp),H.head p hp,wShape0 _ (by omega)]
theorem TH.lenOf (H:TH σ os) {p:Nat×List Nat} (hp:p∈os):σ.lenOf p.1=p.2.length:=by
 have hl:=H.len hp
 unfold Hp.lenOf;rw [if_pos (H.isO hp),H.head p hp,wLen0 _ (by omega)]
theorem TH.text (H:TH σ os) {p:Nat×List Nat} (hp:p∈os):σ.text p.1=p.2:=by
 have hl:=H.len hp
 unfold Hp.text Hp.textL
 rw [H.head p hp,wShape0 _ (by omega),wLen0 _ (by omega),if_pos ⟨H.isO hp,H.kind⟩]
 apply List.ext_getElem (by simp)
 intro i h1 h2
 simp only [List.getElem_map,List.getElem_range]
 rw [H.byte p hp i (by omega),List.getElem?_eq_getElem h2];rfl
theorem TH.has (H:TH σ os) {p:Nat×List Nat} (hp:p∈os) (i:Int):σ.has (p.1:Nat) i true=(decide (0≤i)&&decide (i<p.2.length)):=by
 have hl:=H.len hp
 unfold Hp.has
 rw [Int.toNat_natCast,H.isO hp,H.head p hp,wShape0 _ (by omega),wLen0 _ (by omega),H.kind]
 simp
theorem TH.byteI (H:TH σ os) {p:Nat×List Nat} (hp:p∈os) (i:Nat) (hi:i<p.2.length):σ.byte (p.1:Nat) (i:Int)=(p.2[i],0):=by
 unfold Hp.byte
 rw [H.has hp,if_pos (by simp only [Bool.and_eq_true,decide_eq_true_eq];omega),Int.toNat_natCast,Int.toNat_natCast,H.byte p hp i (by omega),List.getElem?_eq_getElem hi];rfl
theorem TH.byte_bad (H:TH σ os) {p:Nat×List Nat} (hp:p∈os) (i:Int) (hi:i<0∨(p.2.length:Int)≤i):σ.byte (p.1:Nat) i=(0,1):=by
 unfold Hp.byte
 rw [H.has hp,if_neg (by simp only [Bool.and_eq_true,decide_eq_true_eq];omega)]
theorem TH.need (H:TH σ os) (n:Nat) (hn:n≤65536):σ.need 0 (n:Int)=(((osz n:Nat):Int),0):=by
 unfold Hp.need
 have hl:(0:Int)<(σ.ly.length:Int):=by rw [H.ly];decide
 rw [if_pos ⟨by omega,hl,by omega⟩]
 rw [show ((0:Int).toNat)=0 from rfl,H.kind,if_neg (by simp),if_neg (by omega),if_pos rfl]
 unfold osz
 congr 1
theorem byteAt_zero {σ:Hp} {a i:Nat} (h:σ.w (a+1+i / 8)=0):σ.byteAt a i=0:=by unfold Hp.byteAt;rw [h];simp
theorem TH.put (H:TH σ os) (n:Nat) (hn:n≤65536) (hr:σ.top+osz n≤300):TH (σ.put 0 n) (os++[(σ.top,List.replicate n 0)]):=by
 have hne:=H.need n hn
 have hz:1≤osz n:=by unfold osz;omega
 have hc:=(chainT_lt H.chain).2
 have hws:=H.ws
 have hw:∀j,(σ.put 0 n).w j=if j=σ.top then wHead 0 n else σ.w j:=fun j=>by
  unfold Hp.put Hp.w
  rw [H.kind,if_pos rfl]
  simp only
  rw [List.getElem?_set]
  by_cases h:σ.top=j
  ·rw [if_pos h,if_pos (by omega),if_pos h.symm];rfl
  ·rw [if_neg h,if_neg (Ne.symm h)]
 have htop:(σ.put 0 n).top=σ.top+osz n:=by
  unfold Hp.put
  simp only
  rw [show ((0:Nat):Int)=0 from rfl,hne];simp
 have hb:∀a i,a+1+i / 8≠σ.top→(σ.put 0 n).byteAt a i=σ.byteAt a i:=fun a i h=>by unfold Hp.byteAt;rw [hw,if_neg h]
 have hmem:∀p∈os,p.1+osz p.2.length≤σ.top:=fun p hp=>(hc p hp).2
 refine ⟨H.ly,?_,?_,by rw [htop];exact hr,?_,fun p hp=>?_,fun p hp i hi=>?_,fun i h1 h2=>?_⟩
 ·unfold Hp.put;rw [H.kind,if_pos rfl];simpa using H.ws
 ·rw [List.map_append]
  show (σ.put 0 n).hd=hdOf (os.map (·.1)++[σ.top])
  rw [hdOf_snoc,←H.hd];rfl
 ·rw [htop]
  have:=chainT_snoc (List.replicate n 0) H.chain
  rw [List.length_replicate] at this
  exact this
 ·rcases List.mem_append.1 hp with hp|hp
  ·have:=hmem p hp
   unfold osz at this
   rw [hw,if_neg (by omega)];exact H.head p hp
  ·simp only [List.mem_singleton] at hp
   subst hp
   rw [hw,if_pos rfl,List.length_replicate]
 ·rcases List.mem_append.1 hp with hp|hp
  ·have:=hmem p hp
   unfold osz at this
   rw [hb _ _ (by omega)];exact H.byte p hp i hi
  ·simp only [List.mem_singleton] at hp
   subst hp
   rw [List.length_replicate] at hi
   simp only
   rw [hb _ _ (by omega),byteAt_zero (H.zero _ (by omega) (by unfold osz at hr;omega)),List.getElem?_replicate]
   split<;>rfl
 ·rw [htop] at h1
  rw [hw,if_neg (by omega)];exact H.zero i (by omega) h2
theorem bset_at (w c i j:Nat) (hw:c<256):bset w (i%8*8) c / 2^(j%8*8)%256=if j%8=i%8 then c else w / 2^(j%8*8)%256:=bset_byte w c (i%8) (j%8) (by omega) (by omega) hw
theorem TH.setByte {a:Nat} {u:List Nat} (H:TH σ (os++[(a,u)])) (i:Nat) (hi:i<u.length) (c:Nat) (hc:c<256):TH (σ.setByte (a:Nat) (i:Nat) c) (os++[(a,u.set i c)]):=by
 have hm:(a,u)∈os++[(a,u)]:=by simp
 have hh:=H.has hm (i:Int)
 rw [show (decide ((0:Int)≤(i:Int))&&decide ((i:Int)<((u.length:Nat):Int)))=true by simp only [Bool.and_eq_true,decide_eq_true_eq];omega] at hh
 have hcl:=(chainT_lt H.chain).2
 have hap:=chainT_apart H.chain
 have hlast:=(hcl _ hm).2
 simp only at hlast
 have hl:=H.len hm
 simp only at hl
 have htop:=H.top
 have hws:=H.ws
 have e:σ.setByte (a:Nat) (i:Nat) c=σ.setW (a+1+i / 8) (bset (σ.w (a+1+i / 8)) (i%8*8) c):=by
  unfold Hp.setByte;rw [hh,if_pos rfl];simp
 rw [e]
 unfold osz at hlast
 have hw:∀j,(σ.setW (a+1+i / 8) (bset (σ.w (a+1+i / 8)) (i%8*8) c)).w j=if j=a+1+i / 8 then bset (σ.w (a+1+i / 8)) (i%8*8) c else σ.w j:=fun j=>by
  unfold Hp.setW Hp.w
  simp only
  rw [List.getElem?_set]
  by_cases h:a+1+i / 8=j
  ·rw [if_pos h,if_pos (by omega),if_pos h.symm];rfl
  ·rw [if_neg h,if_neg (Ne.symm h)]
 have hold:∀p∈os,p.1+osz p.2.length≤a:=fun p hp=>by
  rcases hap p (List.mem_append.2 (.inl hp)) _ hm with h|h|h
  ·exfalso
   have hnd:∀(os:List (Nat×List Nat)) (s e:Nat),chainT s (os++[(a,u)]) e→(a,u) ∉ os:=by
    intro os
    induction os with
    |nil=>intro s e _ h;simp at h
    |cons q os ih=>
     intro s e hc hmm
     obtain ⟨qa,qt⟩:=q
     simp only [List.cons_append,chainT] at hc
     rcases List.mem_cons.1 hmm with h|h
     ·simp only [Prod.mk.injEq] at h
      have:=((chainT_lt hc.2).2 (a,u) (by simp)).1
      simp only at this
      unfold osz at this
      omega
     ·exact ih _ _ hc.2 h
   exact hnd os _ _ H.chain (h▸hp)
  ·exact h
  ·simp only at h
   exfalso
   have key:∀(os:List (Nat×List Nat)) (s e:Nat),chainT s (os++[(a,u)]) e→∀p∈os,p.1<a:=by
    intro os
    induction os with
    |nil=>intro s e _ p h;simp at h
    |cons q os ih=>
     intro s e hc p hmm
     obtain ⟨qa,qt⟩:=q
     simp only [List.cons_append,chainT] at hc
     rcases List.mem_cons.1 hmm with h|h
     ·subst h
      have:=((chainT_lt hc.2).2 (a,u) (by simp)).1
      simp only at this ⊢
      unfold osz at this
      omega
     ·exact ih _ _ hc.2 p h
   have:=key os _ _ H.chain p hp
   unfold osz at h
   omega
 have hchain:∀(os:List (Nat×List Nat)) (s e:Nat),chainT s (os++[(a,u)]) e→chainT s (os++[(a,u.set i c)]) e:=by
  intro os
  induction os with
  |nil=>intro s e h;simpa [chainT] using h
  |cons q os ih=>
   intro s e h
   obtain ⟨qa,qt⟩:=q
   simp only [List.cons_append,chainT] at h ⊢
   exact ⟨h.1,ih _ _ h.2⟩
 refine ⟨H.ly,by unfold Hp.setW;simpa using H.ws,?_,H.top,hchain _ _ _ H.chain,fun p hp=>?_,fun p hp j hj=>?_,fun j h1 h2=>?_⟩
 ·have:=H.hd
  rw [List.map_append] at this ⊢
  exact this
 ·rcases List.mem_append.1 hp with hp|hp
  ·have:=hold p hp
   unfold osz at this
   rw [hw,if_neg (by omega)];exact H.head p (List.mem_append.2 (.inl hp))
  ·simp only [List.mem_singleton] at hp
   subst hp
   simp only
   rw [hw,if_neg (by omega),List.length_set];exact H.head _ hm
 ·rcases List.mem_append.1 hp with hp|hp
  ·have:=hold p hp
   unfold osz at this
   have:=H.byte p (List.mem_append.2 (.inl hp)) j hj
   unfold Hp.byteAt at this ⊢
   rw [hw,if_neg (by omega)];exact this
  ·simp only [List.mem_singleton] at hp
   subst hp
   simp only [List.length_set] at hj ⊢
   have hb:=H.byte _ hm j hj
   simp only at hb
   unfold Hp.byteAt at hb ⊢
   rw [hw,List.getElem?_set]
   by_cases hq:j / 8=i / 8
   ·rw [if_pos (by omega),←hq,bset_at _ _ _ _ hc]
    by_cases hr:j%8=i%8
    ·rw [if_pos hr,if_pos (by omega),if_pos hi];rfl
    ·rw [if_neg hr,if_neg (by omega)];exact hb
   ·rw [if_neg (by omega),if_neg (by omega)];exact hb
 ·rw [hw,if_neg (by simp only [Hp.setW] at h1;omega)];exact H.zero j h1 h2
theorem TH.setBytes {a:Nat} (t:List Nat) (ht:∀c∈t,c<256):∀(rest:List Nat) (i:Nat) {σ:Hp} {u:List Nat},t.drop i=rest→u.length=t.length→(∀j,j<i→u[j]?=t[j]?)→TH σ (os++[(a,u)])→σ.goodBytes a i rest=true∧TH (σ.setBytes a i rest) (os++[(a,t)])
 | [],i,σ,u,hd,hl,hu,H=>by
  have hi:t.length≤i:=by have:=congrArg List.length hd;simp at this;omega
  have:u=t:=by
   apply List.ext_getElem?
   intro j
   by_cases hj:j<i
   ·exact hu j hj
   ·rw [List.getElem?_eq_none (by omega),List.getElem?_eq_none (by omega)]
  subst this
  exact ⟨rfl,H⟩
 |c::rest,i,σ,u,hd,hl,hu,H=>by
  have hi:i<t.length:=by have:=congrArg List.length hd;simp at this;omega
  rw [List.drop_eq_getElem_cons hi] at hd
  simp only [List.cons.injEq] at hd
  have H1:=H.setByte i (by omega) c (ht c (hd.1▸List.getElem_mem hi))
  obtain ⟨g1,g2⟩:=TH.setBytes t ht rest (i+1) hd.2 (by rw [List.length_set];exact hl) (fun j hj=>by
   rw [List.getElem?_set]
   by_cases hij:i=j
   ·subst hij;rw [if_pos rfl,if_pos (by omega),List.getElem?_eq_getElem hi,hd.1]
   ·rw [if_neg hij];exact hu j (by omega)) H1
  unfold Hp.goodBytes Hp.setBytes
  exact ⟨by rw [H.good,Bool.true_and];exact g1,g2⟩
theorem TH.new:TH (Hp.new 300 [(3,0),(2,0)]) []:=by
 refine ⟨rfl,rfl,rfl,by decide,rfl,fun p hp=>by simp at hp,fun p hp=>by simp at hp,fun i _ h2=>?_⟩
 unfold Hp.new Hp.w
 rw [List.getElem?_replicate,if_pos h2];rfl
end
end Go.Proofs.YtchlbfmjnhgpgaaGreat.Idl
