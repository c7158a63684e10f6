/- The ideal machine: append, in general. -/
import Derived.Test.YtchlbfmjnhgpgaaGreatPack2
namespace Go.Proofs.YtchlbfmjnhgpgaaGreat.Idl
open Go
set_option maxRecDepth 100000
set_option linter.unusedSimpArgs false
structure ST (st e:TypeId) (k by_:Nat):Prop where
 und:J.und st=some (.slice e)
 size:J.size e=some k
 bytes:J.bytes e=some by_
 zero:∃z,J.zero e=some z∧z.cells.size=k
 pos:0<by_
 big:by_≤1000
section
variable {H:IH} {st e:TypeId} {k by_:Nat}
theorem app_nil (hT:ST st e k by_) {xb o m c:Nat} {new:List Value} (h1:icells H ⟨xb,o,none⟩ (m*k)=some new) (h2:new.length=m*k) (hm:0<m) (hb:m≤20000000):
  iappend J #[st,st] (.slice none 0 0) (.slice (some ⟨xb,o,none⟩) m c) H=some (.slice (some ⟨H.next,0,none⟩) m capU,H.push (.cells new e false)):=by
 obtain ⟨z,hz,hzk⟩:=hT.zero
 have e1:m*(3*by_)≤2^47:=by
  have:m*(3*by_)≤20000000*3000:=Nat.mul_le_mul hb (by have:=hT.big;omega)
  omega
 have e2:by_≤2^30:=by have:=hT.big;omega
 have e3:m≠0:=by omega
 simp only [iappend,List.getElem?_toArray,List.getElem?_cons_zero,List.getElem?_cons_succ,hT.und,hT.size,hT.bytes,hz,ilenOf,ifirst,e3,if_false,Nat.zero_add,e1,hT.pos,e2,hzk,true_and,and_self,if_true,h1,h2]
theorem app_some (hT:ST st e k by_) {xb o m c b len:Nat} {new cs:List Value} (h1:icells H ⟨xb,o,none⟩ (m*k)=some new) (h2:new.length=m*k) (hm:0<m) (hb:len+m≤20000000)
  (hg:H.get b=some (.cells cs e false)) (hl:len*k≤cs.length) (hp:new.all plain1=true):
  iappend J #[st,st] (.slice (some ⟨b,0,none⟩) len capU) (.slice (some ⟨xb,o,none⟩) m c) H=some (.slice (some ⟨H.next,0,none⟩) (len+m) capU,(H.set b .dead).push (.cells (cs.take (len*k)++new) e false)):=by
 obtain ⟨z,hz,hzk⟩:=hT.zero
 have e1:(len+m)*(3*by_)≤2^47:=by
  have:(len+m)*(3*by_)≤20000000*3000:=Nat.mul_le_mul hb (by have:=hT.big;omega)
  omega
 have e2:by_≤2^30:=by have:=hT.big;omega
 have e3:m≠0:=by omega
 have e4:((0:Nat)%k !=0)=false:=by simp
 simp only [iappend,List.getElem?_toArray,List.getElem?_cons_zero,List.getElem?_cons_succ,hT.und,hT.size,hT.bytes,hz,ilenOf,ifirst,e3,if_false,e1,hT.pos,e2,hzk,true_and,and_self,if_true,h1,h2,hg,hp,Nat.zero_add,hl,e4,Bool.or_false,Bool.false_eq_true,List.drop_zero]
theorem app_zero (hT:ST st e k by_) {s:Value} {b:Option Addr} {len c:Nat} (hs:s=.slice b len c) {xb:Option Addr} {c':Nat}:
  iappend J #[st,st] s (.slice xb 0 c') H=some (s,H):=by
 obtain ⟨z,hz,hzk⟩:=hT.zero
 subst hs
 simp only [iappend,List.getElem?_toArray,List.getElem?_cons_zero,List.getElem?_cons_succ,hT.und,hT.size,hT.bytes,hz,ilenOf,if_true]
end
theorem st_ly:ST 125 127 2 16:=⟨by simp,by simp,by simp,⟨_,by simp;rfl,by simp [Value.cells]⟩,by decide,by decide⟩
theorem st_u64:ST 136 62 1 8:=⟨by simp,by simp,by simp,⟨_,by simp;rfl,by simp [Value.cells]⟩,by decide,by decide⟩
theorem st_byte:ST 34 5 1 1:=⟨by simp,by simp,by simp,⟨_,by simp;rfl,by simp [Value.cells]⟩,by decide,by decide⟩
theorem st_frame:ST 82 131 1 8:=⟨by simp,by simp,by simp,⟨_,by simp;rfl,by simp [Value.cells]⟩,by decide,by decide⟩
theorem mk_u64 (H:IH) (n:Nat) (hn:n≤1000000):imakeSlice J 136 (.int .i64 (n:Int)) (.int .i64 (n:Int)) H=some (.slice (some ⟨H.next,0,none⟩) n n,H.push (.cells (u64c (List.replicate n 0)) 62 false)):=by
 have h1:(n:Int)<9223372036854775808:=by omega
 have h2:8*(n:Int)≤281474976710656:=by omega
 have h3:(0:Int)≤n:=by omega
 have e:(List.range n).map (fun x=>(Value.int IntKind.u64 0).cells[x%(Value.int IntKind.u64 0).cells.size]!)=u64c (List.replicate n 0):=by
  have:∀x:Nat,(Value.int IntKind.u64 0).cells[x%(Value.int IntKind.u64 0).cells.size]! =.int .u64 0:=by
   intro x
   have:x%(Value.int IntKind.u64 0).cells.size=0:=Nat.mod_one x
   rw [this];rfl
  simp only [this,u64c,List.map_replicate]
  apply List.ext_getElem<;>simp
 simp [imakeSlice,h1,h2,e]
set_option maxHeartbeats 8000000
section
variable {H:IH}
def LyAt (H:IH) (v:Value) (l:List (Int×Int)):Prop:=∃b c,v=.slice b l.length c∧(0<l.length→∃lb,b=some ⟨lb,0,none⟩∧lb<H.next∧H.get lb=some (.cells (lyc l) 127 false))
def lyOk (p:Int×Int):Bool:= !(decide (p.1<1)||decide (3<p.1)||decide (p.2<0)||decide (65536<p.2))
theorem loop64 (v:Value) (l:List (Int×Int)) (hl:LyAt H v l) (hlen:l.length≤512) (K:Nat→Value):∀(d i:Nat) (T:Regs) (H':IH),i+d=l.length→Fr H.next H H'→
  (∀t,t<4→T.at t=K t)→T.at 17=v→T.at 18=.int .i64 (l.length:Int)→T.at 19=.int .i64 (i:Int)→
  ∃T' H'',Fr H.next H H''∧if (l.drop i).all lyOk then run J okAll (.loop L64_0) T H'=some (.exit 0,T',H'')∧(∀t,t<4→T'.at t=K t)
   else run J okAll (.loop L64_0) T H'=some (.ret,T',H'')∧T'.at 4=.pointer none∧T'.at 5=.int .i64 1:=by
 intro d
 induction d with
 |zero=>
  intro i T H' hd hf hK t17 t18 t19
  have hi:i=l.length:=by omega
  subst hi
  rw [r_loop]
  simp [L64_0,t17,t18,t19]
  exact ⟨_,_,hf,⟨rfl,rfl⟩,fun t ht=>by simp (disch:=omega) only [at_set_gt];exact hK t ht⟩
 |succ d ih=>
  intro i T H' hd hf hK t17 t18 t19
  have hlt:i<l.length:=by omega
  obtain ⟨b,c,rfl,hb⟩:=hl
  obtain ⟨lb,rfl,hlb,hg0⟩:=hb (by omega)
  have hg:H'.get lb=_:=(hf.2 lb hlb).trans hg0
  have hc:=lyc_get l i hlt
  have hcs:cellsOf (some (.cells (lyc l) 127 false)) (i*2) 2=some [.int .i64 l[i].1,.int .i64 l[i].2]:=by
   rw [cellsOf_cells,if_pos (by rw [lyc_len];omega)]
   congr 1
   apply List.ext_getElem?
   intro j
   rw [List.getElem?_take,List.getElem?_drop,Nat.mul_comm]
   match j with
   |0=>simpa using hc.1
   |1=>simpa using hc.2
   |j+2=>simp;omega
  have hdr:(l.drop i).all lyOk=(lyOk l[i]&&(l.drop (i+1)).all lyOk):=by rw [List.drop_eq_getElem_cons hlt,List.all_cons]
  rw [hdr,r_loop]
  have hF:=(hf.push (by have:=hf.1;omega) (.cells [.int .i64 0,.int .i64 0] 127 false)).set (b:=H'.next) (by have:=hf.1;omega) (.cells [.int .i64 l[i].1,.int .i64 l[i].2] 127 false)
  have hw:IntKind.i64.wrap ((i:Int)+1)=((i+1:Nat):Int):=by rw [wrap64 _ (by omega) (by omega)];simp
  have hlo:lyOk l[i]= !(decide (l[i].1<1)||decide (3<l[i].1)||decide (l[i].2<0)||decide (65536<l[i].2)):=rfl
  rw [hlo]
  generalize l[i]=p at*
  obtain ⟨k,N⟩:=p
  dsimp only at*
  cases b1:decide (k<1) with
  |true=>
   simp [L64_0,t17,t18,t19,hlt,iindexAddr,hg,hcs,inew,istore,Value.cells,plain1,overlay,IH.get_push,IH.get_set,loadT_agg,b1,hw]
   exact ⟨_,_,hF,⟨rfl,rfl⟩,by simp,by simp⟩
  |false=>
   cases b2:decide (3<k) with
   |true=>
    simp [L64_0,t17,t18,t19,hlt,iindexAddr,hg,hcs,inew,istore,Value.cells,plain1,overlay,IH.get_push,IH.get_set,loadT_agg,b1,b2,hw]
    exact ⟨_,_,hF,⟨rfl,rfl⟩,by simp,by simp⟩
   |false=>
    cases b3:decide (N<0) with
    |true=>
     simp [L64_0,t17,t18,t19,hlt,iindexAddr,hg,hcs,inew,istore,Value.cells,plain1,overlay,IH.get_push,IH.get_set,loadT_agg,b1,b2,b3,hw]
     exact ⟨_,_,hF,⟨rfl,rfl⟩,by simp,by simp⟩
    |false=>
     cases b4:decide (65536<N) with
     |true=>
      simp [L64_0,t17,t18,t19,hlt,iindexAddr,hg,hcs,inew,istore,Value.cells,plain1,overlay,IH.get_push,IH.get_set,loadT_agg,b1,b2,b3,b4,hw]
      exact ⟨_,_,hF,⟨rfl,rfl⟩,by simp,by simp⟩
     |false=>
      simp [L64_0,t17,t18,t19,hlt,iindexAddr,hg,hcs,inew,istore,Value.cells,plain1,overlay,IH.get_push,IH.get_set,loadT_agg,b1,b2,b3,b4,hw]
      exact ih (i+1) _ _ (by omega) hF (fun t ht=>by simp (disch:=omega) only [at_set_gt];exact hK t ht) (by simp [t17]) (by simp [t18]) (by simp)
def Hp.new (n:Nat) (l:List (Int×Int)):Hp:=⟨List.replicate n 0,List.replicate (n / 64+1) 0,l,0⟩
theorem bl_heap (a b d:Option Addr) (l m n l' m' n':Nat):ibuild J 171 [(0,.slice a l l'),(1,.slice b m m'),(2,.slice d n n')]=some (.agg #[.slice a l l',.slice b m m',.slice d n n',.int .i64 0]):=by kernel_rfl
theorem c_New_bad (n:Nat) (hn:n≤65536) (v:Value) (l:List (Int×Int)) (hl:LyAt H v l) (hlen:l.length≤512) (hall:¬l.all lyOk=true):
  ∃H',cal J okAll 64 #[.int .i64 n,v] H=some (.ret (.tuple #[.pointer none,.int .i64 1]),H')∧Fr H.next H H':=by
 rw [cal64 _ _ (by simp)]
 have h1:decide ((512:Int)<l.length)=false:=decide_eq_false (by omega)
 have h2:decide ((65536:Int)<n)=false:=decide_eq_false (by omega)
 have h3:decide ((n:Int)<0)=false:=decide_eq_false (by omega)
 obtain ⟨b,c,rfl,hb⟩:=hl
 simp [C64,regsOf,fin,iresult1,h1,h2,h3]
 generalize hX:run J okAll (.loop L64_0) _ _=X
 obtain ⟨T1,hT,a0,a1,a17,a18,a19⟩:∃T1,run J okAll (.loop L64_0) T1 H=X∧T1.at 0=.int .i64 (n:Int)∧T1.at 1=.slice b l.length c∧T1.at 17=.slice b l.length c∧T1.at 18=.int .i64 (l.length:Int)∧T1.at 19=.int .i64 ((0:Nat):Int):=⟨_,hX,by simp,by simp,by simp,by simp,by simp⟩
 obtain ⟨T2,H2,f2,hr⟩:=loop64 _ l ⟨b,c,rfl,hb⟩ hlen (fun t=>T1.at t) l.length 0 T1 H (by omega) (Fr.refl _ _) (fun t ht=>rfl) a17 a18 a19
 rw [List.drop_zero] at hr
 rw [if_neg hall] at hr
 obtain ⟨hr1,hr2,hr3⟩:=hr
 rw [hT] at hr1
 subst hr1
 simp [regsOf,fin,iresult1,hr2,hr3]
 exact f2
theorem c_New (n:Nat) (hn:n≤65536) (v:Value) (l:List (Int×Int)) (hl:LyAt H v l) (hlen:l.length≤512) (hall:l.all lyOk=true):
  ∃H' a,cal J okAll 64 #[.int .i64 n,v] H=some (.ret (.tuple #[a.ptr,.int .i64 0]),H')∧Fr H.next H H'∧HpAt H' a (.new n l)∧H.next≤a.p∧H.next≤a.wb∧H.next≤a.hb∧(∀lb l c,a.lv=.slice (some ⟨lb,0,none⟩) l c→H.next≤lb):=by
 rw [cal64 _ _ (by simp)]
 have h1:decide ((512:Int)<l.length)=false:=decide_eq_false (by omega)
 have h2:decide ((65536:Int)<n)=false:=decide_eq_false (by omega)
 have h3:decide ((n:Int)<0)=false:=decide_eq_false (by omega)
 obtain ⟨b,c,rfl,hb⟩:=hl
 simp [C64,regsOf,fin,iresult1,h1,h2,h3]
 generalize hX:run J okAll (.loop L64_0) _ _=X
 obtain ⟨T1,hT,a0,a1,a17,a18,a19⟩:∃T1,run J okAll (.loop L64_0) T1 H=X∧T1.at 0=.int .i64 (n:Int)∧T1.at 1=.slice b l.length c∧T1.at 17=.slice b l.length c∧T1.at 18=.int .i64 (l.length:Int)∧T1.at 19=.int .i64 ((0:Nat):Int):=⟨_,hX,by simp,by simp,by simp,by simp,by simp⟩
 obtain ⟨T2,H2,f2,hr⟩:=loop64 _ l ⟨b,c,rfl,hb⟩ hlen (fun t=>T1.at t) l.length 0 T1 H (by omega) (Fr.refl _ _) (fun t ht=>rfl) a17 a18 a19
 rw [List.drop_zero] at hr
 rw [if_pos hall] at hr
 obtain ⟨hr1,hr2⟩:=hr
 rw [hT] at hr1
 subst hr1
 have b0:=(hr2 0 (by omega)).trans a0
 have b1:=(hr2 1 (by omega)).trans a1
 obtain ⟨q,hq⟩:∃q,q=n / 64:=⟨_,rfl⟩
 have w1:IntKind.i64.wrap ((n:Int) / 64)=(q:Int):=by rw [wrapI];omega
 have w2:IntKind.i64.wrap ((q:Int)+1)=((q+1:Nat):Int):=by rw [wrapI];omega
 have hN:Hp.new n l=⟨List.replicate n 0,List.replicate (q+1) 0,l,0⟩:=by rw [hq];rfl
 have hok:(Hp.new n l).Ok:=⟨by simp [Hp.new];omega,by simp [Hp.new],fun w hw=>by rw [List.eq_of_mem_replicate hw];decide,fun w hw=>by rw [List.eq_of_mem_replicate hw];decide,by simp [Hp.new];omega,Nat.zero_le _⟩
 rw [hN] at hok
 rw [hN]
 have hn2:=f2.1
 rcases Nat.eq_zero_or_pos l.length with hz|hp
 ·have ap:=app_zero st_ly (s:=.slice none 0 0) rfl (H:=H2) (xb:=b) (c':=c)
  have m1:=mk_u64 H2 n (by omega)
  have m2:=mk_u64 (H2.push (.cells (u64c (List.replicate n 0)) 62 false)) (q+1) (by omega)
  simp only [Int.natCast_add,Int.natCast_one,Int.cast_ofNat_Int] at m2
  rw [hz] at b1
  simp [regsOf,fin,iresult1,b0,b1,w1,w2,ap,m1,m2,iparts,bl_heap,inew,Value.cells]
  refine ⟨_,⟨H2.next+1+1,H2.next,H2.next+1,.slice none 0 0⟩,⟨rfl,rfl⟩,?_,⟨?_,?_,?_,.inl ⟨rfl,List.eq_nil_of_length_eq_zero hz⟩,hok,⟨by simp,by simp<;>omega,by simp<;>omega,fun lb l c e=>by simp at e⟩,by simp⟩,by simp<;>omega,by simp<;>omega,by simp<;>omega,fun lb l c e=>by simp at e⟩
  ·exact ((f2.push hn2 _).push (by simp<;>omega) _).push (by simp<;>omega) _
  ·simp [IH.get_push]<;>omega
  ·simp [IH.get_push]<;>omega
  ·simp [IH.get_push]<;>omega
 ·obtain ⟨lb,rfl,hlb,hg0⟩:=hb hp
  have ap:=app_nil st_ly (H:=H2) (xb:=lb) (o:=0) (m:=l.length) (c:=c) (new:=lyc l) (by have:=lyc_len l;simp [(f2.2 lb hlb).trans hg0,this,Nat.mul_comm];rw [List.take_of_length_le (by omega)]) (by rw [lyc_len,Nat.mul_comm]) (by omega) (by omega)
  have m1:=mk_u64 (H2.push (.cells (lyc l) 127 false)) n (by omega)
  have m2:=mk_u64 ((H2.push (.cells (lyc l) 127 false)).push (.cells (u64c (List.replicate n 0)) 62 false)) (q+1) (by omega)
  simp only [Int.natCast_add,Int.natCast_one,Int.cast_ofNat_Int] at m2
  simp [regsOf,fin,iresult1,b0,b1,w1,w2,ap,m1,m2,iparts,bl_heap,inew,Value.cells]
  refine ⟨_,⟨H2.next+1+1+1,H2.next+1,H2.next+1+1,.slice (some ⟨H2.next,0,none⟩) l.length capU⟩,⟨rfl,rfl⟩,?_,⟨?_,?_,?_,.inr ⟨_,rfl,?_⟩,hok,⟨by simp,by simp<;>omega,by simp<;>omega,fun lb l c e=>by simp at e;simp<;>omega⟩,by simp⟩,by simp<;>omega,by simp<;>omega,by simp<;>omega,fun lb l c e=>by simp at e;omega⟩
  ·exact (((f2.push hn2 _).push (by simp<;>omega) _).push (by simp<;>omega) _).push (by simp<;>omega) _
  ·simp [IH.get_push]<;>omega
  ·simp [IH.get_push]<;>omega
  ·simp [IH.get_push]<;>omega
  ·rw [IH.get_push_other _ _ _ (by simp<;>omega),IH.get_push_other _ _ _ (by simp<;>omega),IH.get_push_other _ _ _ (by simp<;>omega),IH.get_push_same]
end
structure Ins where
 op:Int
 d:Int
 a:Int
 b:Int
 c:Int
 n:Int
 l:List Int
 m:List Int
 live:List Int
structure Bl where
 inn:List Int
 code:List Ins
structure Fn where
 params:List Int
 result:Int
 slots:Int
 blocks:List Bl
structure Shp where
 kind:Int
 fields:List Int
 name:ByteArray
structure Typ where
 imm:Bool
 shapes:List Int
structure Img where
 types:List Typ
 shapes:List Shp
 strings:List ByteArray
 names:List ByteArray
 funcs:List Fn
 main:Int
 exn:Int
structure Frm where
 fn:Fn
 block:Int
 at_:Int
 slots:List Nat
structure Mst where
 fuel:Int
 heap:Int
 stack:Int
 input:List Nat
 collect:List Bool
 hp:Hp
 frames:List Frm
 words:Int
 inn:Nat
 made:Nat
 out:List Nat
 exn:ByteArray
 steps:Nat
 swept:Nat
def VM (α:Type):Type:=Mst→Option (Except Int α×Mst)
namespace VM
variable {α β:Type}
def ret (a:α):VM α:=fun σ=>some (.ok a,σ)
def bind (x:VM α) (f:α→VM β):VM β:=fun σ=>
 match x σ with
 |some (.ok a,σ')=>f a σ'
 |some (.error k,σ')=>some (.error k,σ')
 |none=>none
def upd (f:Mst→Mst):VM Unit:=fun σ=>some (.ok (),f σ)
def get (f:Mst→α):VM α:=fun σ=>some (.ok (f σ),σ)
def of (f:Mst→Option α):VM α:=fun σ=>(f σ).map fun a=>(.ok a,σ)
def fail:VM α:=fun _=>none
instance:Monad VM where
 pure:=VM.ret
 bind:=VM.bind
end VM
def vEnd {α:Type} (k:Int):VM α:=fun σ=>some (.error k,σ)
def vMust (b:Bool):VM Unit:=if b then VM.ret () else vEnd 6
def vTop:VM Frm:=VM.of fun σ=>σ.frames.head?
def Mst.setTop (σ:Mst) (f:Frm):Mst:={ σ with frames:=f::σ.frames.tail }
def vPop:VM Unit:=do
 let f ←vTop
 VM.upd fun σ=>{ σ with words:=σ.words-(f.fn.slots+2),frames:=σ.frames.tail }
def vSlot (i:Int):VM Nat:=do
 let f ←vTop
 vMust (decide (0≤i)&&decide (i<f.slots.length))
 VM.ret i.toNat
def vGet (i:Int):VM Nat:=do
 let k ←vSlot i
 let f ←vTop
 VM.ret ((f.slots[k]?).getD 0)
def vSet (i:Int) (w:Nat):VM Unit:=do
 let k ←vSlot i
 VM.upd fun σ=>match σ.frames with
  |f::fs=>{ σ with frames:={ f with slots:=f.slots.set k w }::fs }
  | []=>σ
def vSetInt (i n:Int):VM Unit:=vSet i (wImm n)
def vNumber (i:Int):VM Int:=do
 let w ←vGet i
 vMust (wIsImm w)
 VM.ret (wInt w)
def vJump (b:Int):VM Unit:=VM.upd fun σ=>match σ.frames with
  |f::fs=>{ σ with frames:={ f with block:=b,at_:=0 }::fs }
  | []=>σ
def LAt {α:Type} (lo k:Nat) (P:Nat→Nat→α→Prop) (v:Value) (l:List α):Prop:=
 ∃a c,v=.slice a l.length c∧(0<l.length→∃b o,a=some ⟨b,o,none⟩∧b<lo∧∀i (h:i<l.length),P b (o+i*k) l[i])
section
variable (H:IH) (lo:Nat)
def CellAt {α:Type} (e:TypeId) (V:α→Value) (b off:Nat) (x:α):Prop:=∃cs pr,H.get b=some (.cells cs e pr)∧cs[off]?=some (V x)
def intV (n:Int):Value:=.int .i64 n
def byteV (n:Nat):Value:=.int .u8 (n:Int)
abbrev IntsAt (v:Value) (l:List Int):Prop:=LAt lo 1 (CellAt H 3 intV) v l
structure InsAt (b off:Nat) (x:Ins):Prop where
 ex:∃cs pr vl vm vv,H.get b=some (.cells cs 30 pr)∧cs[off]?=some (.int .i64 x.op)∧cs[off+1]?=some (.int .i64 x.d)∧cs[off+2]?=some (.int .i64 x.a)∧
  cs[off+3]?=some (.int .i64 x.b)∧cs[off+4]?=some (.int .i64 x.c)∧cs[off+5]?=some (.int .i64 x.n)∧cs[off+6]?=some vl∧cs[off+7]?=some vm∧cs[off+8]?=some vv∧
  IntsAt H lo vl x.l∧IntsAt H lo vm x.m∧IntsAt H lo vv x.live
structure BlAt (b off:Nat) (x:Bl):Prop where
 ex:∃cs pr vi vc,H.get b=some (.cells cs 56 pr)∧cs[off]?=some vi∧cs[off+1]?=some vc∧IntsAt H lo vi x.inn∧LAt lo 9 (InsAt H lo) vc x.code
structure FnAt (b off:Nat) (x:Fn):Prop where
 ex:∃cs pr vp vb,H.get b=some (.cells cs 59 pr)∧cs[off]?=some vp∧cs[off+1]?=some (.int .i64 x.result)∧cs[off+2]?=some (.int .i64 x.slots)∧cs[off+3]?=some vb∧
  IntsAt H lo vp x.params∧LAt lo 2 (BlAt H lo) vb x.blocks
structure ShpAt (b off:Nat) (x:Shp):Prop where
 ex:∃cs pr vf,H.get b=some (.cells cs 90 pr)∧cs[off]?=some (.int .i64 x.kind)∧cs[off+1]?=some vf∧cs[off+2]?=some (.string x.name)∧IntsAt H lo vf x.fields
structure TypAt (b off:Nat) (x:Typ):Prop where
 ex:∃cs pr vf,H.get b=some (.cells cs 88 pr)∧cs[off]?=some (.bool x.imm)∧cs[off+1]?=some vf∧IntsAt H lo vf x.shapes
structure ImV where
 types:Value
 shapes:Value
 strings:Value
 names:Value
 funcs:Value
def ImV.cells (u:ImV) (im:Img):List Value:=[u.types,u.shapes,u.strings,u.names,u.funcs,.int .i64 im.main,.int .i64 im.exn]
structure ImvAt (u:ImV) (im:Img):Prop where
 types:LAt lo 2 (TypAt H lo) u.types im.types
 shapes:LAt lo 3 (ShpAt H lo) u.shapes im.shapes
 strings:LAt lo 1 (CellAt H 9 Value.string) u.strings im.strings
 names:LAt lo 1 (CellAt H 9 Value.string) u.names im.names
 funcs:LAt lo 4 (FnAt H lo) u.funcs im.funcs
def ImgAt (b:Nat) (im:Img):Prop:=b<lo∧∃u pr,H.get b=some (.cells (ImV.cells u im) 27 pr)∧ImvAt H lo u im
structure VA where
 p:Nat
 mp:Nat
 hp:HpA
 iv:Value
 cv:Value
 fv:Value
 ov:Value
 fr:List (Nat×Nat)
def bOf:Value→List Nat
 | .slice (some a) _ _=>[a.block]
 |_=>[]
def frOwn:List (Nat×Nat)→List Nat
 | []=>[]
 |q::l=>q.1::q.2::frOwn l
def VA.own (A:VA):List Nat:=A.p::A.hp.p::A.hp.wb::A.hp.hb::(bOf A.hp.lv++bOf A.fv++bOf A.ov++frOwn A.fr)
def ptrV (b:Nat):Value:=.pointer (some ⟨b,0,none⟩)
structure InsLim (x:Ins):Prop where
 n: -9223372036854775808≤x.n∧x.n≤9223372036854775807
 l:x.l.length≤1024
 m:x.m.length≤1024
 live:x.live.length≤200
structure FnLim (x:Fn):Prop where
 slots:x.slots≤200
 blocks:x.blocks.length≤2000
 code:∀b∈x.blocks,b.code.length≤20000∧∀y∈b.code,InsLim y
structure ImOk (im:Img):Prop where
 funcs:∀x∈im.funcs,FnLim x
 fnum:im.funcs.length≤1024
 shapes:im.shapes.length≤512
 fields:∀x∈im.shapes,x.fields.length≤200
 strings:∀x∈im.strings,x.size≤16384
structure FrAt (q:Nat×Nat) (f:Frm):Prop where
 ex:∃pb po,pb<lo∧FnAt H lo pb po f.fn∧H.get q.1=some (.cells [.pointer (some ⟨pb,po,none⟩),.int .i64 f.block,.int .i64 f.at_,.slice (some ⟨q.2,0,none⟩) f.slots.length f.slots.length] 138 false)
 slots:H.get q.2=some (.cells (u64c f.slots) 62 false)
 wlt:∀w∈f.slots,w<18446744073709551616
 len:(f.slots.length:Int)=f.fn.slots
 ok:FnLim f.fn
 at0:0≤f.at_∧f.at_≤20000
inductive FrsAt:List (Nat×Nat)→List Frm→Prop
 |nil:FrsAt [] []
 |cons {q:Nat×Nat} {f:Frm} {l:List (Nat×Nat)} {m:List Frm}:FrAt H lo q f→FrsAt l m→FrsAt (q::l) (f::m)
def FvAt (v:Value) (l:List Nat):Prop:=(v=.slice none 0 0∧l= [])∨∃b cs,v=.slice (some ⟨b,0,none⟩) l.length capU∧H.get b=some (.cells cs 131 false)∧l.length≤cs.length∧cs.take l.length=l.reverse.map ptrV
def OvAt (v:Value) (l:List Nat):Prop:=(v=.slice none 0 0∧l= [])∨∃b,v=.slice (some ⟨b,0,none⟩) l.length capU∧H.get b=some (.cells (l.map byteV) 5 false)
def VA.cells (A:VA) (σ:Mst):List Value:=[ptrV A.mp,A.iv,.int .i64 σ.fuel,.int .i64 σ.heap,.int .i64 σ.stack,A.cv,ptrV A.hp.p,A.fv,.int .i64 σ.words,.int .i64 (σ.inn:Int),.int .i64 (σ.made:Int),.int .i64 0,A.ov,.string σ.exn,.int .i64 (σ.steps:Int),.int .i64 (σ.swept:Int)]
def frWords:List Frm→Int
 | []=>0
 |f::l=>f.slots.length+2+frWords l
structure MOk (σ:Mst):Prop where
 words:σ.words=frWords σ.frames
 stack:σ.stack≤65536∧0≤σ.stack
 fits:σ.words≤σ.stack
 fuel:0≤σ.fuel∧σ.fuel≤16777216
 steps:(σ.steps:Int)≤σ.fuel
 made:σ.made≤σ.steps
 swept:σ.swept≤σ.steps
 out:σ.out.length≤σ.steps
 inn:σ.inn≤σ.input.length∧σ.input.length≤4611686018427387904∧∀c∈σ.input,c<256
structure VmAt (im:Img) (A:VA) (σ:Mst):Prop where
 obj:H.get A.p=some (.cells (A.cells σ) 84 false)
 img:ImgAt H lo A.mp im
 hp:HpAt H A.hp σ.hp
 inp:LAt lo 1 (CellAt H 5 byteV) A.iv σ.input
 col:LAt lo 1 (CellAt H 4 Value.bool) A.cv σ.collect
 frs:FrsAt H lo A.fr σ.frames
 fv:FvAt H A.fv (A.fr.map (·.1))
 ov:OvAt H A.ov σ.out
 nd:A.own.Nodup
 own:∀x∈A.own,lo≤x∧x<H.next
 lo:lo≤H.next
 ok:MOk σ
 imok:ImOk im
end
section
variable {H H':IH} {lo:Nat}
def SameB (lo:Nat) (H H':IH):Prop:=∀x,x<lo→H'.get x=H.get x
theorem LAt.mono {α:Type} {k:Nat} {P P':Nat→Nat→α→Prop} {v:Value} {l:List α} (h:LAt lo k P v l) (hp:∀b o x,b<lo→P b o x→P' b o x):LAt lo k P' v l:=by
 obtain ⟨a,c,h1,h2⟩:=h
 refine ⟨a,c,h1,fun hl=>?_⟩
 obtain ⟨b,o,h3,h4,h5⟩:=h2 hl
 exact ⟨b,o,h3,h4,fun i hi=>hp _ _ _ h4 (h5 i hi)⟩
theorem CellAt.same {α:Type} {e:TypeId} {V:α→Value} {b o:Nat} {x:α} (h:CellAt H e V b o x) (hs:SameB lo H H') (hb:b<lo):CellAt H' e V b o x:=by
 obtain ⟨cs,pr,h1,h2⟩:=h
 exact ⟨cs,pr,(hs b hb).trans h1,h2⟩
theorem IntsAt.same {v:Value} {l:List Int} (h:IntsAt H lo v l) (hs:SameB lo H H'):IntsAt H' lo v l:=LAt.mono h fun _ _ _ hb hx=>CellAt.same hx hs hb
theorem InsAt.same {b o:Nat} {x:Ins} (h:InsAt H lo b o x) (hs:SameB lo H H') (hb:b<lo):InsAt H' lo b o x:=by
 obtain ⟨cs,pr,vl,vm,vv,h1,h2,h3,h4,h5,h6,h7,h8,h9,h10,h11,h12,h13⟩:=h.ex
 exact ⟨cs,pr,vl,vm,vv,(hs b hb).trans h1,h2,h3,h4,h5,h6,h7,h8,h9,h10,IntsAt.same h11 hs,IntsAt.same h12 hs,IntsAt.same h13 hs⟩
theorem BlAt.same {b o:Nat} {x:Bl} (h:BlAt H lo b o x) (hs:SameB lo H H') (hb:b<lo):BlAt H' lo b o x:=by
 obtain ⟨cs,pr,vi,vc,h1,h2,h3,h4,h5⟩:=h.ex
 exact ⟨cs,pr,vi,vc,(hs b hb).trans h1,h2,h3,IntsAt.same h4 hs,h5.mono fun _ _ _ hb hx=>InsAt.same hx hs hb⟩
theorem FnAt.same {b o:Nat} {x:Fn} (h:FnAt H lo b o x) (hs:SameB lo H H') (hb:b<lo):FnAt H' lo b o x:=by
 obtain ⟨cs,pr,vp,vb,h1,h2,h3,h4,h5,h6,h7⟩:=h.ex
 exact ⟨cs,pr,vp,vb,(hs b hb).trans h1,h2,h3,h4,h5,IntsAt.same h6 hs,h7.mono fun _ _ _ hb hx=>BlAt.same hx hs hb⟩
theorem ShpAt.same {b o:Nat} {x:Shp} (h:ShpAt H lo b o x) (hs:SameB lo H H') (hb:b<lo):ShpAt H' lo b o x:=by
 obtain ⟨cs,pr,vf,h1,h2,h3,h4,h5⟩:=h.ex
 exact ⟨cs,pr,vf,(hs b hb).trans h1,h2,h3,h4,IntsAt.same h5 hs⟩
theorem TypAt.same {b o:Nat} {x:Typ} (h:TypAt H lo b o x) (hs:SameB lo H H') (hb:b<lo):TypAt H' lo b o x:=by
 obtain ⟨cs,pr,vf,h1,h2,h3,h4⟩:=h.ex
 exact ⟨cs,pr,vf,(hs b hb).trans h1,h2,h3,IntsAt.same h4 hs⟩
theorem ImvAt.same {u:ImV} {im:Img} (h:ImvAt H lo u im) (hs:SameB lo H H'):ImvAt H' lo u im:=
 ⟨h.types.mono fun _ _ _ hb hx=>TypAt.same hx hs hb,h.shapes.mono fun _ _ _ hb hx=>ShpAt.same hx hs hb,h.strings.mono fun _ _ _ hb hx=>CellAt.same hx hs hb,h.names.mono fun _ _ _ hb hx=>CellAt.same hx hs hb,
  h.funcs.mono fun _ _ _ hb hx=>FnAt.same hx hs hb⟩
theorem ImgAt.same {b:Nat} {im:Img} (h:ImgAt H lo b im) (hs:SameB lo H H'):ImgAt H' lo b im:=by
 obtain ⟨hb,u,pr,h1,h2⟩:=h
 exact ⟨hb,u,pr,(hs b hb).trans h1,ImvAt.same h2 hs⟩
theorem FrAt.same {q:Nat×Nat} {f:Frm} (h:FrAt H lo q f) (hs:SameB lo H H') (h1:H'.get q.1=H.get q.1) (h2:H'.get q.2=H.get q.2):FrAt H' lo q f:=by
 obtain ⟨pb,po,hp,hf,hg⟩:=h.ex
 exact ⟨⟨pb,po,hp,FnAt.same hf hs hp,h1.trans hg⟩,h2.trans h.slots,h.wlt,h.len,h.ok,h.at0⟩
theorem FrsAt.same {l:List (Nat×Nat)} {m:List Frm} (h:FrsAt H lo l m) (hs:SameB lo H H') (hx:∀x∈frOwn l,H'.get x=H.get x):FrsAt H' lo l m:=by
 induction h with
 |nil=>exact .nil
 |cons h1 _ ih=>exact .cons (FrAt.same h1 hs (hx _ (by simp [frOwn])) (hx _ (by simp [frOwn]))) (ih fun x hm=>hx x (by simp [frOwn,hm]))
theorem FrsAt.len {l:List (Nat×Nat)} {m:List Frm} (h:FrsAt H lo l m):l.length=m.length:=by
 induction h with
 |nil=>rfl
 |cons _ _ ih=>simp [ih]
theorem FvAt.same {v:Value} {l:List Nat} (h:FvAt H v l) (hx:∀x∈bOf v,H'.get x=H.get x):FvAt H' v l:=by
 rcases h with h|⟨b,cs,h1,h2,h3⟩
 ·exact .inl h
 ·exact .inr ⟨b,cs,h1,(hx b (by simp [h1,bOf])).trans h2,h3⟩
theorem OvAt.same {v:Value} {l:List Nat} (h:OvAt H v l) (hx:∀x∈bOf v,H'.get x=H.get x):OvAt H' v l:=by
 rcases h with h|⟨b,h1,h2⟩
 ·exact .inl h
 ·exact .inr ⟨b,h1,(hx b (by simp [h1,bOf])).trans h2⟩
theorem HpAt.same {a:HpA} {σ:Hp} (h:HpAt H a σ) (hn:H.next≤H'.next) (hp:H'.get a.p=H.get a.p) (hw:H'.get a.wb=H.get a.wb) (hh:H'.get a.hb=H.get a.hb) (hl:∀x∈bOf a.lv,H'.get x=H.get x):HpAt H' a σ:=
 h.mono hn hp hw hh fun lb l c e=>hl lb (by simp [e,bOf])
variable {im:Img} {A A':VA} {σ σ':Mst}
theorem VmAt.same (h:VmAt H lo im A σ) (hn:H.next≤H'.next) (hx:∀x,x<lo∨x∈A.own→H'.get x=H.get x):VmAt H' lo im A σ:=by
 have hs:SameB lo H H':=fun x hx'=>hx x (.inl hx')
 have ho:∀x,x∈A.own→H'.get x=H.get x:=fun x hx'=>hx x (.inr hx')
 refine ⟨(ho _ (by simp [VA.own])).trans h.obj,h.img.same hs,h.hp.same hn (ho _ (by simp [VA.own])) (ho _ (by simp [VA.own])) (ho _ (by simp [VA.own])) (fun x hm=>ho x (by simp [VA.own,hm])),h.inp.mono fun _ _ _ hb hx=>CellAt.same hx hs hb,h.col.mono fun _ _ _ hb hx=>CellAt.same hx hs hb,
  h.frs.same hs fun x hm=>ho x (by simp [VA.own,hm]),h.fv.same fun x hm=>ho x (by simp [VA.own,hm]),h.ov.same fun x hm=>ho x (by simp [VA.own,hm]),h.nd,fun x hm=>⟨(h.own x hm).1,Nat.lt_of_lt_of_le (h.own x hm).2 hn⟩,Nat.le_trans h.lo hn,h.ok,h.imok⟩
theorem VmAt.fx (h:VmAt H lo im A σ) {l:List Nat} (f:Fx l H H') (hl:∀x∈l,lo≤x∧x ∉ A.own):VmAt H' lo im A σ:=
 h.same f.1 fun x hx=>f.2 x (by rcases hx with hx|hx;exact Nat.lt_of_lt_of_le hx h.lo;exact (h.own x hx).2) fun hm=>by
  rcases hx with hx|hx
  ·have:=(hl x hm).1;omega
  ·exact (hl x hm).2 hx
theorem VmAt.setP (h:VmAt H lo im A σ) (hA:A'.p=A.p∧A'.mp=A.mp∧A'.hp=A.hp∧A'.iv=A.iv∧A'.cv=A.cv) (hσ:σ'.hp=σ.hp∧σ'.input=σ.input∧σ'.collect=σ.collect)
  (hH:H'=H.set A.p (.cells (A'.cells σ') 84 false)) (hsub:∀x∈A'.own,x∈A.own) (hnd:A'.own.Nodup) (hfr:FrsAt H lo A'.fr σ'.frames) (hfv:FvAt H A'.fv (A'.fr.map (·.1))) (hov:OvAt H A'.ov σ'.out)
  (hok:MOk σ'):VmAt H' lo im A' σ':=by
 obtain ⟨a1,a2,a3,a4,a5⟩:=hA
 obtain ⟨b1,b2,b3⟩:=hσ
 have hn:H'.next=H.next:=by rw [hH];rfl
 have hg:∀z,z≠A.p→H'.get z=H.get z:=fun z hz=>by rw [hH,IH.get_set,if_neg hz]
 have hpo:=(h.own A.p (by simp [VA.own])).1
 have hs:SameB lo H H':=fun z hz=>hg z (fun e=>by omega)
 have hr:∀z,z∈A'.hp.p::A'.hp.wb::A'.hp.hb::(bOf A'.hp.lv++bOf A'.fv++bOf A'.ov++frOwn A'.fr)→z≠A.p:=by
  intro z hz e
  have h1:=hnd
  rw [VA.own,List.nodup_cons] at h1
  rw [e,←a1] at hz
  exact h1.1 hz
 have hhp:=h.hp
 rw [←a3,←b1] at hhp
 refine ⟨by rw [a1,hH,IH.get_set,if_pos rfl],by rw [a2];exact h.img.same hs,hhp.same (by omega) (hg _ (hr _ (by simp))) (hg _ (hr _ (by simp))) (hg _ (hr _ (by simp))) (fun z hm=>hg z (hr z (by simp [hm]))),
  by rw [a4,b2];exact h.inp.mono fun _ _ _ hb hx=>CellAt.same hx hs hb,by rw [a5,b3];exact h.col.mono fun _ _ _ hb hx=>CellAt.same hx hs hb,
  hfr.same hs fun z hm=>hg z (hr z (by simp [hm])),hfv.same fun z hm=>hg z (hr z (by simp [hm])),hov.same fun z hm=>hg z (hr z (by simp [hm])),hnd,fun x hm=>by rw [hn];exact h.own x (hsub x hm),by rw [hn];exact h.lo,hok,h.imok⟩
end
def overV (k:Int):Value:=.iface 86 (.agg #[.int .i64 k])
theorem iop_mkIfaceS (J:Env) (T:Regs) (H:IH) (dst:Option Tmp) (type:TypeId) (pos:String) (after:Array Edge) (guard:Option (Nat×Bool)) (t:TypeId) (x:Operand) (h:∃fs,J.und t=some (.struct fs)):
  iop J ⟨dst,.makeInterface t x,type,pos,after,guard⟩ T H=some (.val (.iface t (iev T x)) H):=by
 obtain ⟨fs,h⟩:=h
 simp only [iop,h]
theorem und_over:∃fs,J.und 86=some (.struct fs):=⟨_,id rfl⟩
def panR (v:Value) (H:IH):Option OR:=match v with
 | .iface t v=>some (.pan (.iface t v) H)
 |_=>none
@[simp] theorem panR_iface (t:TypeId) (v:Value) (H:IH):panR (.iface t v) H=some (.pan (.iface t v) H):=rfl
@[simp] theorem iop_panic (J:Env) (T:Regs) (H:IH) (dst:Option Tmp) (type:TypeId) (pos:String) (after:Array Edge) (guard:Option (Nat×Bool)) (x:Operand):iop J ⟨dst,.panic x,type,pos,after,guard⟩ T H=panR (iev T x) H:=by
 cases h:iev T x<;>simp only [iop,h,panR]
theorem bl_over (k:Int):ibuild J 86 [(0,.int .i64 k)]=some (.agg #[.int .i64 k]):=by kernel_rfl
section
variable {H:IH} {lo:Nat} {im:Img} {A:VA} {σ:Mst}
theorem c_end (v:Value) (k:Int):cal J okAll 67 #[v,.int .i64 k] H=some (.pan (overV k),H):=by
 rw [cal67 _ _ (by simp)]
 simp [C67,regsOf,fin,iresult1,iparts,overV,bl_over,iop_mkIfaceS,und_over]
theorem c_must (v:Value) (b:Bool):cal J okAll 63 #[v,.bool b] H=some (if b then .ret (.tuple #[]) else .pan (overV 6),H):=by
 rw [cal63 _ _ (by simp)]
 have h:=c_end (H:=H) v 6
 cases b<;>simp [C63,regsOf,fin,iresult1,h]
theorem frWords_len (m:List Frm):(2*m.length:Int)≤frWords m:=by
 induction m with
 |nil=>simp [frWords]
 |cons f m ih=>simp only [frWords,List.length_cons];omega
theorem VmAt.frlen (h:VmAt H lo im A σ):σ.frames.length≤32768:=by
 have h1:=frWords_len σ.frames
 have h2:=h.ok.words
 have h3:=h.ok.fits
 have h4:=h.ok.stack
 omega
theorem VmAt.top (h:VmAt H lo im A σ) {f:Frm} {fs:List Frm} (hf:σ.frames=f::fs):∃q l,A.fr=q::l∧FrAt H lo q f∧FrsAt H lo l fs:=by
 have h1:=h.frs
 rw [hf] at h1
 generalize A.fr=x at h1
 cases h1 with
 |cons h2 h3=>exact ⟨_,_,rfl,h2,h3⟩
theorem c_top (h:VmAt H lo im A σ) {f:Frm} {fs:List Frm} (hf:σ.frames=f::fs) {q:Nat×Nat} {l:List (Nat×Nat)} (hq:A.fr=q::l):
  cal J okAll 66 #[ptrV A.p] H=some (.ret (ptrV q.1),H):=by
 rw [cal66 _ _ (by simp)]
 have ho:=h.obj
 have hv:=h.fv
 rw [hq] at hv
 rcases hv with ⟨_,hv⟩|⟨b,cs,e1,e2,e3,e4⟩
 ·simp at hv
 ·have hlen:=h.frlen
  rw [hf,List.length_cons,←show l.length=fs.length by have:=h.frs.len;rw [hq,hf] at this;simpa using this] at hlen
  have w1:IntKind.i64.wrap (l.length:Int)=(l.length:Int):=by rw [wrapI];omega
  have hlt:(l.length:Int)<l.length+1:=by omega
  have hcell:cs[l.length]?=some (ptrV q.1):=by
   have:=congrArg (fun u=>u[l.length]?) e4
   simpa using this
  simp only [VA.cells,e1,List.length_cons,List.length_map] at ho
  simp [C66,regsOf,fin,iresult1,ho,e2,w1,hlt,iindexAddr,hcell,ptrV]
theorem c_slot (h:VmAt H lo im A σ) {f:Frm} {fs:List Frm} (hf:σ.frames=f::fs) {q:Nat×Nat} {l:List (Nat×Nat)} (hq:A.fr=q::l) (i:Int):
  cal J okAll 102 #[ptrV A.p,.int .i64 i] H=some (if (decide (0≤i)&&decide (i<f.slots.length))=true then .ret (.pointer (some ⟨q.2,i.toNat,none⟩)) else .pan (overV 6),H):=by
 rw [cal102 _ _ (by simp)]
 have h1:=c_top h hf hq
 obtain ⟨q',l',e1,e2,e3⟩:=h.top hf
 rw [hq] at e1
 simp only [List.cons.injEq] at e1
 obtain ⟨rfl,rfl⟩:=e1
 obtain ⟨pb,po,_,_,hg⟩:=e2.ex
 have hm1:=c_must (H:=H) (ptrV A.p) true
 have hm2:=c_must (H:=H) (ptrV A.p) false
 simp only [ptrV] at h1 hm1 hm2
 cases b1:decide (0≤i) with
 |false=>simp [C102,regsOf,fin,iresult1,ptrV,h1,hg,b1,hm2]
 |true=>
  have b1':0≤i:=by simpa using b1
  cases b2:decide (i<f.slots.length) with
  |false=>simp [C102,regsOf,fin,iresult1,ptrV,h1,hg,b1,b2,hm2]
  |true=>
   have b2':i<f.slots.length:=by simpa using b2
   simp [C102,regsOf,fin,iresult1,ptrV,h1,hg,b1,b2,hm1,iindexAddr,b1',b2']
end
theorem VM.bind_cases {α β:Type} {x:VM α} {f:α→VM β} {σ σ':Mst} {r:Except Int β} (h:(x >>= f) σ=some (r,σ')):
  (∃a σ1,x σ=some (.ok a,σ1)∧f a σ1=some (r,σ'))∨∃k,x σ=some (.error k,σ')∧r=.error k:=by
 change VM.bind x f σ=_ at h
 unfold VM.bind at h
 split at h
 ·rename_i a σ1 e;exact .inl ⟨a,σ1,e,h⟩
 ·rename_i k σ1 e
  simp only [Option.some.injEq,Prod.mk.injEq] at h
  obtain ⟨rfl,rfl⟩:=h
  exact .inr ⟨k,e,rfl⟩
 ·simp at h
theorem VM.bind_ok {α β:Type} {x:VM α} {f:α→VM β} {σ σ1:Mst} {a:α} (h:x σ=some (.ok a,σ1)):(x >>= f) σ=f a σ1:=by
 change VM.bind x f σ=_
 unfold VM.bind
 rw [h]
theorem VM.bind_err {α β:Type} {x:VM α} {f:α→VM β} {σ σ1:Mst} {k:Int} (h:x σ=some (.error k,σ1)):(x >>= f) σ=some (.error k,σ1):=by
 change VM.bind x f σ=_
 unfold VM.bind
 rw [h]
theorem VM.bind_none {α β:Type} {x:VM α} {f:α→VM β} {σ:Mst} (h:x σ=none):(x >>= f) σ=none:=by
 change VM.bind x f σ=_
 unfold VM.bind
 rw [h]
theorem vMust_cases {b:Bool} {σ σ':Mst} {r:Except Int Unit} (h:vMust b σ=some (r,σ')):σ'=σ∧((b=true∧r=.ok ())∨(b=false∧r=.error 6)):=by
 unfold vMust at h
 cases b with
 |true=>
  simp only [if_true,VM.ret,Option.some.injEq,Prod.mk.injEq] at h
  exact ⟨h.2.symm,.inl ⟨rfl,h.1.symm⟩⟩
 |false=>
  simp only [Bool.false_eq_true,if_false,vEnd,Option.some.injEq,Prod.mk.injEq] at h
  exact ⟨h.2.symm,.inr ⟨rfl,h.1.symm⟩⟩
section
variable (lo:Nat)
structure Nx (H:IH) (A:VA) (H':IH) (A':VA):Prop where
 p:A'.p=A.p
 fx:Fx A.own H H'
 own:∀x∈A'.own,x∈A.own∨H.next≤x
theorem Nx.refl (H:IH) (A:VA):Nx H A H A:=⟨rfl,Fx.refl _ _,fun _ h=>.inl h⟩
theorem Nx.trans {H H' H'':IH} {A A' A'':VA} (h:Nx H A H' A') (h':Nx H' A' H'' A''):Nx H A H'' A'':=
 ⟨h'.p.trans h.p,h.fx.trans h'.fx h.own,fun x hx=>(h'.own x hx).elim (fun h1=>h.own x h1) fun h1=>.inr (Nat.le_trans h.fx.1 h1)⟩
theorem Nx.same {lo:Nat} {im:Img} {H H':IH} {A A':VA} {σ:Mst} (h:VmAt H lo im A σ) (n:Nx H A H' A'):SameB lo H H':=
 fun x hx=>n.fx.2 x (Nat.lt_of_lt_of_le hx h.lo) fun hm=>by have:=(h.own x hm).1;omega
def RV {α:Type} (V:IH→VA→α→Value→Prop) (H':IH) (A':VA) (r:Except Int α) (e:IE):Prop:=
 match r with
 | .ok a=>∃u,e=.ret u∧V H' A' a u
 | .error k=>e=.pan (overV k)
def UnitV:IH→VA→Unit→Value→Prop:=fun _ _ _ u=>u=.tuple #[]
def Out {α:Type} (im:Img) (H:IH) (A:VA) (c:Option (IE×IH)) (V:IH→VA→α→Value→Prop) (o:Option (Except Int α×Mst)):Prop:=
 ∀r σ',o=some (r,σ')→∃H' A' e,c=some (e,H')∧VmAt H' lo im A' σ'∧Nx H A H' A'∧RV V H' A' r e
end
section
variable {H:IH} {lo:Nat} {im:Img} {A:VA} {σ:Mst}
theorem vTop_eq {f:Frm} {fs:List Frm} (hf:σ.frames=f::fs):vTop σ=some (.ok f,σ):=by
 simp [vTop,VM.of,hf]
theorem vTop_nil (hf:σ.frames= []):vTop σ=none:=by
 simp [vTop,VM.of,hf]
theorem vSlot_eq {f:Frm} {fs:List Frm} (hf:σ.frames=f::fs) (i:Int):vSlot i σ=some (if (decide (0≤i)&&decide (i<f.slots.length))=true then .ok i.toNat else .error 6,σ):=by
 unfold vSlot
 rw [VM.bind_ok (vTop_eq hf)]
 cases hb:(decide (0≤i)&&decide (i<f.slots.length)) with
 |true=>rw [VM.bind_ok (a:=()) (σ1:=σ) rfl];rfl
 |false=>rw [VM.bind_err (k:=6) (σ1:=σ) rfl];rfl
theorem vSlot_nil (hf:σ.frames= []) (i:Int):vSlot i σ=none:=by
 unfold vSlot
 rw [VM.bind_none (vTop_nil hf)]
theorem frOwn_nd {q:Nat×Nat} {l:List (Nat×Nat)} (h:(frOwn (q::l)).Nodup):q.1≠q.2∧q.1 ∉ frOwn l∧q.2 ∉ frOwn l∧(frOwn l).Nodup:=by
 simp only [frOwn,List.nodup_cons,List.mem_cons,not_or] at h
 exact ⟨h.1.1,h.1.2,h.2.1,h.2.2⟩
theorem VA.own_split (h:A.own.Nodup):∀x∈frOwn A.fr,x≠A.p∧x≠A.hp.p∧x≠A.hp.wb∧x≠A.hp.hb∧x ∉ bOf A.hp.lv∧x ∉ bOf A.fv∧x ∉ bOf A.ov:=by
 intro x hx
 have hx2:x∈bOf A.hp.lv++bOf A.fv++bOf A.ov++frOwn A.fr:=List.mem_append_right _ hx
 simp only [VA.own,List.nodup_cons,List.mem_cons,not_or] at h
 obtain ⟨⟨_,_,_,h1⟩,⟨_,_,h2⟩,⟨_,h3⟩,h4,h5⟩:=h
 have h6:=(List.nodup_append.1 h5).2.2
 refine ⟨fun e=>h1 (e▸hx2),fun e=>h2 (e▸hx2),fun e=>h3 (e▸hx2),fun e=>h4 (e▸hx2),?_,?_,?_⟩<;>intro hm
 ·exact h6 x (by simp [hm]) x hx rfl
 ·exact h6 x (by simp [hm]) x hx rfl
 ·exact h6 x (by simp [hm]) x hx rfl
theorem VmAt.setTop (h:VmAt H lo im A σ) {f f':Frm} {fs:List Frm} (hf:σ.frames=f::fs) {q:Nat×Nat} {l:List (Nat×Nat)} (hq:A.fr=q::l) {H':IH} {y:Nat} {x:Blk} (hy:y=q.1∨y=q.2)
  (hH:H'=H.set y x) (hfr:FrAt H' lo q f') (hl:f'.slots.length=f.slots.length):VmAt H' lo im A { σ with frames:=f'::fs }∧Nx H A H' A:=by
 have hfo:frOwn A.fr=q.1::q.2::frOwn l:=by rw [hq];rfl
 have hy1:y∈frOwn A.fr:=by rw [hfo];rcases hy with rfl|rfl<;>simp
 have hyo:y∈A.own:=by simp only [VA.own,List.mem_cons,List.mem_append];simp [hy1]
 obtain ⟨s1,s2,s3,s4,s5,s6,s7⟩:=VA.own_split h.nd y hy1
 have hg:∀z,z≠y→H'.get z=H.get z:=fun z hz=>by rw [hH,IH.get_set,if_neg hz]
 have hs:SameB lo H H':=fun z hz=>hg z (fun e=>by have:=(h.own y hyo).1;omega)
 have hnd:(frOwn (q::l)).Nodup:=by
  have h1:=h.nd
  simp only [VA.own,List.nodup_cons] at h1
  have h2:=(List.nodup_append.1 h1.2.2.2.2).2.1
  rw [hq] at h2
  exact h2
 obtain ⟨n1,n2,n3,n4⟩:=frOwn_nd hnd
 have hn:H'.next=H.next:=by rw [hH];rfl
 have hfx:Fx A.own H H':=by rw [hH];exact (Fx.refl _ _).set (.inl hyo) _
 obtain ⟨q',l',e1,e2,e3⟩:=h.top hf
 rw [hq] at e1
 simp only [List.cons.injEq] at e1
 obtain ⟨rfl,rfl⟩:=e1
 refine ⟨⟨(hg _ (Ne.symm s1)).trans h.obj,h.img.same hs,h.hp.same (by omega) (hg _ (Ne.symm s2)) (hg _ (Ne.symm s3)) (hg _ (Ne.symm s4)) (fun z hm=>hg z (fun e=>s5 (e▸hm))),h.inp.mono fun _ _ _ hb hx=>CellAt.same hx hs hb,h.col.mono fun _ _ _ hb hx=>CellAt.same hx hs hb,
  ?_,h.fv.same fun z hm=>hg z (fun e=>s6 (e▸hm)),h.ov.same fun z hm=>hg z (fun e=>s7 (e▸hm)),h.nd,fun x hm=>by rw [hn];exact h.own x hm,by rw [hn];exact h.lo,⟨?_,h.ok.stack,h.ok.fits,h.ok.fuel,h.ok.steps,h.ok.made,h.ok.swept,h.ok.out,h.ok.inn⟩,h.imok⟩,⟨rfl,hfx,fun x hx=>.inl hx⟩⟩
 ·rw [hq]
  refine .cons hfr (e3.same hs fun z hm=>hg z fun e=>?_)
  subst e
  rcases hy with rfl|rfl
  ·exact n2 hm
  ·exact n3 hm
 ·have:=h.ok.words
  rw [hf] at this
  simp only [frWords] at this ⊢
  rw [hl];exact this
theorem m_set (h:VmAt H lo im A σ) (i:Int) (w:Nat) (hw:w<18446744073709551616):Out lo im H A (cal J okAll 103 #[ptrV A.p,.int .i64 i,.int .u64 w] H) UnitV (vSet i w σ):=by
 intro r σ' hx
 rw [cal103 _ _ (by simp)]
 unfold vSet at hx
 cases hf:σ.frames with
 |nil=>
  rw [VM.bind_none (vSlot_nil hf i)] at hx
  simp at hx
 |cons f fs=>
  obtain ⟨q,l,hq,e2,e3⟩:=h.top hf
  have h1:=c_slot h hf hq i
  have hsl:=e2.slots
  cases hb:(decide (0≤i)&&decide (i<f.slots.length)) with
  |false=>
   rw [VM.bind_err (k:=6) (σ1:=σ) (by rw [vSlot_eq hf,hb];rfl)] at hx
   simp only [Option.some.injEq,Prod.mk.injEq] at hx
   obtain ⟨rfl,rfl⟩:=hx
   rw [hb] at h1
   simp only [ptrV] at h1
   exact ⟨H,A,.pan (overV 6),by simp [C103,regsOf,fin,iresult1,ptrV,h1],h,.refl _ _,rfl⟩
  |true=>
   rw [VM.bind_ok (a:=i.toNat) (σ1:=σ) (by rw [vSlot_eq hf,hb];rfl)] at hx
   simp only [VM.upd,hf,Option.some.injEq,Prod.mk.injEq] at hx
   obtain ⟨rfl,rfl⟩:=hx
   rw [hb] at h1
   simp only [ptrV,if_true] at h1
   simp only [Bool.and_eq_true,decide_eq_true_eq] at hb
   have hlt:i.toNat<f.slots.length:=by omega
   have hlt1:i.toNat+1≤f.slots.length:=hlt
   obtain ⟨pb,po,hpb,hfn,hg⟩:=e2.ex
   have hqq:q.1≠q.2:=fun e=>by rw [e,hsl] at hg;simp at hg
   obtain ⟨u1,u2⟩:=h.setTop hf hq (f':={ f with slots:=f.slots.set i.toNat w }) (y:=q.2) (x:=.cells (u64c (f.slots.set i.toNat w)) 62 false) (.inr rfl) rfl
    ⟨⟨pb,po,hpb,FnAt.same hfn (fun z hz=>by rw [IH.get_set,if_neg (fun e=>by have:=(h.own q.2 (by simp [VA.own,hq,frOwn])).1;omega)]) hpb,by rw [IH.get_set,if_neg hqq,hg];simp⟩,by rw [IH.get_set,if_pos rfl],fun x hx=>by
     rcases List.mem_or_eq_of_mem_set hx with h5|h5
     ·exact e2.wlt x h5
     ·rw [h5];exact hw,by simpa using e2.len,e2.ok,e2.at0⟩ (by simp)
   exact ⟨_,A,.ret (.tuple #[]),by simp [C103,regsOf,fin,iresult1,ptrV,h1,hsl,hlt,hlt1,istore,Value.cells,plain1,overlay,u64c_len,u64c_put],u1,u2,⟨_,rfl,rfl⟩⟩
theorem wImm_lt (n:Int):wImm n<18446744073709551616:=by unfold wImm;omega
theorem m_setInt (h:VmAt H lo im A σ) (i n:Int) (hn: -9223372036854775808≤n∧n≤9223372036854775807):Out lo im H A (cal J okAll 106 #[ptrV A.p,.int .i64 i,.int .i64 n] H) UnitV (vSetInt i n σ):=by
 intro r σ' hx
 rw [cal106 _ _ (by simp)]
 obtain ⟨H',A',e,h1,h2,h3,h4⟩:=m_set h i (wImm n) (wImm_lt n) r σ' hx
 have h5:=c_Imm H n hn
 simp only [ptrV] at h1
 refine ⟨H',A',e,?_,h2,h3,h4⟩
 cases r with
 |ok a=>
  obtain ⟨u,rfl,rfl⟩:=h4
  simp [C106,regsOf,fin,iresult1,ptrV,h5,h1]
 |error k=>
  have h4:e=.pan (overV k):=h4
  subst h4
  simp [C106,regsOf,fin,iresult1,ptrV,h5,h1]
theorem vGet_eq {f:Frm} {fs:List Frm} (hf:σ.frames=f::fs) (i:Int):vGet i σ=some (if (decide (0≤i)&&decide (i<f.slots.length))=true then .ok ((f.slots[i.toNat]?).getD 0) else .error 6,σ):=by
 unfold vGet
 cases hb:(decide (0≤i)&&decide (i<f.slots.length)) with
 |true=>rw [VM.bind_ok (a:=i.toNat) (σ1:=σ) (by rw [vSlot_eq hf,hb];rfl),VM.bind_ok (vTop_eq hf)];rfl
 |false=>rw [VM.bind_err (k:=6) (σ1:=σ) (by rw [vSlot_eq hf,hb];rfl)];rfl
theorem vGet_nil (hf:σ.frames= []) (i:Int):vGet i σ=none:=by
 unfold vGet
 rw [VM.bind_none (vSlot_nil hf i)]
theorem rd_slot (h:VmAt H lo im A σ) {i:Int} {r:Except Int Nat} {σ':Mst} (hx:vGet i σ=some (r,σ')):
  σ'=σ∧((∃w b o,r=.ok w∧w<18446744073709551616∧cal J okAll 102 #[ptrV A.p,.int .i64 i] H=some (.ret (.pointer (some ⟨b,o,none⟩)),H)∧cellOf (H.get b) o=some (.int .u64 (w:Int)))∨
   (r=.error 6∧cal J okAll 102 #[ptrV A.p,.int .i64 i] H=some (.pan (overV 6),H))):=by
 cases hf:σ.frames with
 |nil=>rw [vGet_nil hf] at hx;simp at hx
 |cons f fs=>
  obtain ⟨q,l,hq,e2,e3⟩:=h.top hf
  have h1:=c_slot h hf hq i
  rw [vGet_eq hf,Option.some.injEq,Prod.mk.injEq] at hx
  obtain ⟨rfl,rfl⟩:=hx
  cases hb:(decide (0≤i)&&decide (i<f.slots.length)) with
  |false=>rw [hb] at h1;exact ⟨rfl,.inr ⟨rfl,h1⟩⟩
  |true=>
   rw [hb] at h1
   simp only [Bool.and_eq_true,decide_eq_true_eq] at hb
   have hlt:i.toNat<f.slots.length:=by omega
   refine ⟨rfl,.inl ⟨_,q.2,i.toNat,rfl,?_,h1,?_⟩⟩
   ·rw [List.getElem?_eq_getElem hlt];exact e2.wlt _ (List.getElem_mem hlt)
   ·rw [e2.slots,cellOf_cells,u64c_get _ _ hlt,List.getElem?_eq_getElem hlt];rfl
theorem m_number (h:VmAt H lo im A σ) (i:Int) {r:Except Int Int} {σ':Mst} (hx:vNumber i σ=some (r,σ')):
  σ'=σ∧((∃n,r=.ok n∧ -4611686018427387904≤n∧n≤4611686018427387903∧cal J okAll 98 #[ptrV A.p,.int .i64 i] H=some (.ret (.int .i64 n),H))∨
   (r=.error 6∧cal J okAll 98 #[ptrV A.p,.int .i64 i] H=some (.pan (overV 6),H))):=by
 rw [cal98 _ _ (by simp)]
 unfold vNumber at hx
 rcases VM.bind_cases hx with ⟨w,σ1,h1,h2⟩|⟨k,h1,h2⟩
 ·obtain ⟨rfl,h3⟩:=rd_slot h h1
  rcases h3 with ⟨w',b,o,e1,e2,e3,e4⟩|⟨e1,_⟩
  ·simp only [Except.ok.injEq] at e1
   subst e1
   have hi:=c_IsImm H w e2
   have hn:=c_Int H w e2
   have hm1:=c_must (H:=H) (ptrV A.p) true
   have hm2:=c_must (H:=H) (ptrV A.p) false
   simp only [ptrV] at e3 hm1 hm2
   rcases VM.bind_cases h2 with ⟨u,σ2,h3,h4⟩|⟨k,h3,h4⟩
   ·obtain ⟨rfl,h5⟩:=vMust_cases h3
    rcases h5 with ⟨h5,_⟩|⟨_,h5⟩
    ·change some (Except.ok (wInt w),σ2)=some (r,σ') at h4
     simp only [Option.some.injEq,Prod.mk.injEq] at h4
     obtain ⟨rfl,rfl⟩:=h4
     rw [h5] at hi
     refine ⟨rfl,.inl ⟨wInt w,rfl,by unfold wInt;split<;>omega,by unfold wInt;split<;>omega,?_⟩⟩
     simp [C98,regsOf,fin,iresult1,ptrV,e3,e4,hi,hn,hm1]
    ·simp at h5
   ·obtain ⟨rfl,h5⟩:=vMust_cases h3
    rcases h5 with ⟨_,h5⟩|⟨h5,h6⟩
    ·simp at h5
    ·simp only [Except.error.injEq] at h6
     subst h6
     rw [h5] at hi
     refine ⟨rfl,.inr ⟨h4,?_⟩⟩
     simp [C98,regsOf,fin,iresult1,ptrV,e3,e4,hi,hm2]
  ·simp at e1
 ·obtain ⟨rfl,h3⟩:=rd_slot h h1
  rcases h3 with ⟨w',b,o,e1,_⟩|⟨e1,e2⟩
  ·simp at e1
  ·simp only [Except.error.injEq] at e1
   subst e1
   simp only [ptrV] at e2
   refine ⟨rfl,.inr ⟨h2,?_⟩⟩
   simp [C98,regsOf,fin,iresult1,ptrV,e2]
end
def pend (f:Frm):Option Ins:=if 0≤f.block∧1≤f.at_ then (f.fn.blocks[f.block.toNat]?).bind fun b=>b.code[(f.at_-1).toNat]? else none
section
variable {H:IH} {lo:Nat} {im:Img} {A:VA} {σ:Mst}
theorem frWords_nonneg (m:List Frm):0≤frWords m:=by have:=frWords_len m;omega
theorem m_pop (h:VmAt H lo im A σ):Out lo im H A (cal J okAll 101 #[ptrV A.p] H) UnitV (vPop σ):=by
 intro r σ' hx
 rw [cal101 _ _ (by simp)]
 unfold vPop at hx
 cases hf:σ.frames with
 |nil=>
  rw [VM.bind_none (vTop_nil hf)] at hx
  simp at hx
 |cons f fs=>
  obtain ⟨q,l,hq,e2,e3⟩:=h.top hf
  rw [VM.bind_ok (vTop_eq hf)] at hx
  simp only [VM.upd,hf,Option.some.injEq,Prod.mk.injEq,List.tail_cons] at hx
  obtain ⟨rfl,rfl⟩:=hx
  have h1:=c_top h hf hq
  obtain ⟨pb,po,hpb,hfn,hg⟩:=e2.ex
  obtain ⟨cs,pr,vp,vb,g1,g2,g3,g4,g5,g6,g7⟩:=hfn.ex
  have ho:=h.obj
  have hv:=h.fv
  rw [hq] at hv
  rcases hv with ⟨_,hv⟩|⟨b,fc,v1,v2,v3,v4⟩
  ·simp at hv
  ·have hs:=e2.ok.slots
   have hlen:=e2.len
   have hw:=h.ok.words
   have hfits:=h.ok.fits
   have hst:=h.ok.stack
   have hnn:=frWords_nonneg fs
   rw [hf] at hw
   simp only [frWords] at hw
   have hfl:=h.frlen
   have hll:l.length=fs.length:=by have:=h.frs.len;rw [hq,hf] at this;simpa using this
   rw [hf,List.length_cons,←hll] at hfl
   have w1:IntKind.i64.wrap (f.fn.slots+2)=f.fn.slots+2:=by rw [wrapI];omega
   have w2:IntKind.i64.wrap (σ.words-(f.fn.slots+2))=σ.words-(f.fn.slots+2):=by rw [wrapI];omega
   have w3:IntKind.i64.wrap (l.length:Int)=(l.length:Int):=by rw [wrapI];omega
   have hlt:(l.length:Int)<l.length+1:=by omega
   simp only [List.map_cons,List.length_cons,List.length_map] at v1 v3 v4
   simp only [VA.cells,v1] at ho
   simp only [ptrV] at h1 ho
   have hpb2:pb≠A.p:=fun e=>by have:=(h.own A.p (by simp [VA.own])).1;omega
   have hqp:q.1≠A.p:=fun e=>by rw [e,h.obj] at hg;simp at hg
   have hbp:b≠A.p:=fun e=>by rw [e,h.obj] at v2;simp at v2
   obtain ⟨k1,k2⟩:VmAt (H.set A.p (.cells (({ A with fv:=.slice (some ⟨b,0,none⟩) l.length capU,fr:=l }:VA).cells { σ with words:=σ.words-(f.fn.slots+2),frames:=fs }) 84 false)) lo im { A with fv:=.slice (some ⟨b,0,none⟩) l.length capU,fr:=l } { σ with words:=σ.words-(f.fn.slots+2),frames:=fs }∧Nx H A (H.set A.p (.cells (({ A with fv:=.slice (some ⟨b,0,none⟩) l.length capU,fr:=l }:VA).cells { σ with words:=σ.words-(f.fn.slots+2),frames:=fs }) 84 false)) { A with fv:=.slice (some ⟨b,0,none⟩) l.length capU,fr:=l }:=by
    have hsub:List.Sublist (({ A with fv:=.slice (some ⟨b,0,none⟩) l.length capU,fr:=l }:VA).own) A.own:=by
     simp only [VA.own,v1,bOf,hq,frOwn]
     exact (((List.Sublist.refl _).append ((List.sublist_cons_self _ _).trans (List.sublist_cons_self _ _))).cons_cons _ |>.cons_cons _ |>.cons_cons _ |>.cons_cons _)
    refine ⟨h.setP ⟨rfl,rfl,rfl,rfl,rfl⟩ ⟨rfl,rfl,rfl⟩ rfl (fun x hx=>hsub.subset hx) (hsub.nodup h.nd) e3 (.inr ⟨b,fc,by simp,v2,by simp;omega,?_⟩) h.ov ⟨by simp only;omega,h.ok.stack,by simp only;omega,h.ok.fuel,h.ok.steps,h.ok.made,h.ok.swept,h.ok.out,h.ok.inn⟩,rfl,(Fx.refl _ _).set (.inl (by simp [VA.own])) _,fun x hx=>.inl (hsub.subset hx)⟩
    simp only [List.length_map]
    have:=congrArg (List.take l.length) v4
    rw [List.take_take,Nat.min_eq_left (by omega)] at this
    rw [this]
    simp
   refine ⟨_,_,.ret (.tuple #[]),?_,k1,k2,⟨_,rfl,rfl⟩⟩
   have hcap:l.length≤capU:=Nat.le_trans (show l.length≤32768 by omega) (by decide)
   simp [C101,regsOf,fin,iresult1,ptrV,h1,ho,hg,g1,g4,w1,w2,w3,hlt,hpb2,hqp,hbp,v2,IH.get_set,istore,Value.cells,plain1,overlay,islice,ibound,VA.cells,hcap]
theorem LAt.get {α:Type} {k:Nat} {P:Nat→Nat→α→Prop} {v:Value} {l:List α} (h:LAt lo k P v l) {i:Nat} {x:α} (hx:l[i]?=some x):∃b o c,v=.slice (some ⟨b,o,none⟩) l.length c∧b<lo∧i<l.length∧P b (o+i*k) x:=by
 obtain ⟨a,c,e,h1⟩:=h
 obtain ⟨hi,rfl⟩:=List.getElem?_eq_some_iff.1 hx
 obtain ⟨b,o,rfl,h2,h3⟩:=h1 (by omega)
 exact ⟨b,o,c,e,h2,hi,h3 i hi⟩
theorem c_pending {q:Nat×Nat} {f:Frm} (h:FrAt H lo q f) {x:Ins} (hx:pend f=some x):
  ∃b o,b<lo∧InsAt H lo b o x∧cal J okAll 104 #[ptrV q.1] H=some (.ret (.pointer (some ⟨b,o,none⟩)),H):=by
 rw [cal104 _ _ (by simp)]
 unfold pend at hx
 split at hx
 ·rename_i hb
  obtain ⟨hb0,ha1⟩:=hb
  cases hbl:f.fn.blocks[f.block.toNat]? with
  |none=>rw [hbl] at hx;simp at hx
  |some bl=>
   rw [hbl] at hx
   simp only [Option.bind_some] at hx
   obtain ⟨pb,po,hpb,hfn,hg⟩:=h.ex
   obtain ⟨cs,pr,vp,vb,g1,g2,g3,g4,g5,g6,g7⟩:=hfn.ex
   obtain ⟨b1,o1,c1,rfl,l1,i1,p1⟩:=g7.get hbl
   obtain ⟨cs2,pr2,vi,vc,g8,g9,g10,g11,g12⟩:=p1.ex
   obtain ⟨b2,o2,c2,rfl,l2,i2,p2⟩:=g12.get hx
   refine ⟨b2,_,l2,p2,?_⟩
   have ha0:=h.at0
   have w1:IntKind.i64.wrap (f.at_-1)=f.at_-1:=by rw [wrapI];omega
   have q1:f.block<f.fn.blocks.length:=by omega
   have q2:f.at_-1<bl.code.length:=by omega
   have q3:0≤f.at_-1:=by omega
   simp [C104,regsOf,fin,iresult1,ptrV,hg,g1,g5,g8,g10,w1,q1,q2,q3,hb0,ha1,iindexAddr]
 ·simp at hx
theorem m_jump (h:VmAt H lo im A σ) (hne:σ.frames≠[]) (b:Int):Out lo im H A (cal J okAll 97 #[ptrV A.p,.int .i64 b] H) UnitV (vJump b σ):=by
 intro r σ' hx
 rw [cal97 _ _ (by simp)]
 cases hf:σ.frames with
 |nil=>exact absurd hf hne
 |cons f fs=>
  simp only [vJump,VM.upd,hf,Option.some.injEq,Prod.mk.injEq] at hx
  obtain ⟨rfl,rfl⟩:=hx
  obtain ⟨q,l,hq,e2,e3⟩:=h.top hf
  have h1:=c_top h hf hq
  obtain ⟨pb,po,hpb,hfn,hg⟩:=e2.ex
  have hqo:=(h.own q.1 (by simp [VA.own,hq,frOwn])).1
  have hqq:q.2≠q.1:=fun e=>by have:=e2.slots;rw [e,hg] at this;simp at this
  obtain ⟨u1,u2⟩:=h.setTop hf hq (f':={ f with block:=b,at_:=0 }) (y:=q.1) (x:=.cells [.pointer (some ⟨pb,po,none⟩),.int .i64 b,.int .i64 0,.slice (some ⟨q.2,0,none⟩) f.slots.length f.slots.length] 138 false) (.inl rfl) rfl
   ⟨⟨pb,po,hpb,FnAt.same hfn (fun z hz=>by rw [IH.get_set,if_neg (fun e=>by omega)]) hpb,by rw [IH.get_set,if_pos rfl]⟩,by rw [IH.get_set,if_neg hqq];exact e2.slots,e2.wlt,e2.len,e2.ok,by simp⟩ rfl
  simp only [ptrV] at h1
  refine ⟨_,A,.ret (.tuple #[]),?_,u1,u2,⟨_,rfl,rfl⟩⟩
  simp [C97,regsOf,fin,iresult1,ptrV,h1,hg,istore,Value.cells,plain1,overlay]
end
def WsAt (H:IH) (lo:Nat) (u:Value) (ws:List Nat):Prop:=
 (u=.slice none 0 0∧ws= [])∨∃b,lo≤b∧b<H.next∧u=.slice (some ⟨b,0,none⟩) ws.length capU∧H.get b=some (.cells (u64c ws) 62 false)
theorem bs_u64 (H:IH) (w:Int):ibuildSlice J 136 1 [(0,.int .u64 w)] H=some (.slice (some ⟨H.next,0,none⟩) 1 1,H.push (.cells [.int .u64 w] 62 false)):=by kernel_rfl
theorem app_u64 {H:IH} {lo:Nat} {u:Value} {ws:List Nat} (h:WsAt H lo u ws) (hlo:lo≤H.next) (hl:ws.length≤1000000) (w:Nat):
  ∃u' H',iappend J #[136,136] u (.slice (some ⟨H.next,0,none⟩) 1 1) (H.push (.cells [.int .u64 (w:Int)] 62 false))=some (u',H')∧WsAt H' lo u' (ws++[w])∧Fr lo H H':=by
 have h1:icells (H.push (.cells [.int .u64 (w:Int)] 62 false)) ⟨H.next,0,none⟩ (1*1)=some [.int .u64 (w:Int)]:=by simp [IH.get_push]
 have hn:(H.push (.cells [.int .u64 (w:Int)] 62 false)).next=H.next+1:=by simp
 rcases h with ⟨rfl,rfl⟩|⟨b,b1,b2,rfl,b4⟩
 ·have:=app_nil st_u64 (c:=1) h1 (by simp) (by omega) (by omega)
  rw [hn] at this
  refine ⟨_,_,this,.inr ⟨H.next+1,by omega,by simp,by simp,?_⟩,((Fr.refl _ _).push hlo _).push (by simp;omega) _⟩
  rw [show H.next+1=(H.push (.cells [.int .u64 (w:Int)] 62 false)).next by simp,IH.get_push_same];rfl
 ·have hg:(H.push (.cells [.int .u64 (w:Int)] 62 false)).get b=some (.cells (u64c ws) 62 false):=by rw [IH.get_push_other _ _ _ b2];exact b4
  have:=app_some st_u64 (c:=1) (len:=ws.length) h1 (by simp) (by omega) (by omega) hg (by rw [u64c_len];omega) (by simp [plain1])
  rw [hn] at this
  refine ⟨_,_,this,.inr ⟨H.next+1,by omega,by simp,by simp,?_⟩,(((Fr.refl _ _).push hlo _).set b1 _).push (by simp;omega) _⟩
  rw [show H.next+1=((H.push (.cells [.int .u64 (w:Int)] 62 false)).set b .dead).next by simp,IH.get_push_same]
  rw [List.take_of_length_le (by rw [u64c_len];omega)];simp [u64c]
def vRead:List Int→VM (List Nat)
 | []=>VM.ret []
 |i::l=>do
  let w ←vGet i
  let ws ←vRead l
  VM.ret (w::ws)
theorem vGet_same {σ σ':Mst} {i:Int} {r:Except Int Nat} (hx:vGet i σ=some (r,σ')):σ'=σ∧(∀k,r=.error k→k=6):=by
 cases hf:σ.frames with
 |nil=>rw [vGet_nil hf] at hx;simp at hx
 |cons f fs=>
  rw [vGet_eq hf,Option.some.injEq,Prod.mk.injEq] at hx
  obtain ⟨rfl,rfl⟩:=hx
  refine ⟨rfl,fun k hk=>?_⟩
  split at hk<;>simp at hk
  exact hk.symm
theorem vRead_same:∀{l:List Int} {σ σ':Mst} {r:Except Int (List Nat)},vRead l σ=some (r,σ')→σ'=σ∧(∀k,r=.error k→k=6)∧(∀ws,r=.ok ws→ws.length=l.length)
 | [],σ,σ',r,hx=>by
  change some (Except.ok [],σ)=some (r,σ') at hx
  simp only [Option.some.injEq,Prod.mk.injEq] at hx
  obtain ⟨rfl,rfl⟩:=hx
  exact ⟨rfl,fun k hk=>by simp at hk,fun ws hw=>by simp at hw;simp [hw]⟩
 |i::l,σ,σ',r,hx=>by
  unfold vRead at hx
  rcases VM.bind_cases hx with ⟨w,σ1,h1,h2⟩|⟨k,h1,h2⟩
  ·obtain ⟨rfl,_⟩:=vGet_same h1
   rcases VM.bind_cases h2 with ⟨ws,σ2,h3,h4⟩|⟨k,h3,h4⟩
   ·obtain ⟨rfl,_,hl⟩:=vRead_same h3
    change some (Except.ok (w::ws),σ2)=some (r,σ') at h4
    simp only [Option.some.injEq,Prod.mk.injEq] at h4
    obtain ⟨rfl,rfl⟩:=h4
    exact ⟨rfl,fun k hk=>by simp at hk,fun ws' hw=>by simp at hw;rw [←hw];simp [hl ws rfl]⟩
   ·obtain ⟨rfl,he,_⟩:=vRead_same h3
    subst h4
    exact ⟨rfl,fun k' hk=>by simp at hk;rw [←hk];exact he k rfl,fun ws' hw=>by simp at hw⟩
  ·obtain ⟨rfl,he⟩:=vGet_same h1
   subst h2
   exact ⟨rfl,fun k' hk=>by simp at hk;rw [←hk];exact he k rfl,fun ws' hw=>by simp at hw⟩
section
variable {H:IH} {lo:Nat} {im:Img} {A:VA} {σ:Mst}
theorem VmAt.fr (h:VmAt H lo im A σ) {H':IH} (f:Fr H.next H H'):VmAt H' lo im A σ:=h.fx (l:=[]) (Fx.of_fr f) (by simp)
theorem loop100 (h:VmAt H lo im A σ) {v:Value} {l:List Int} (hl:IntsAt H lo v l) (hlen:l.length≤1000000):∀(rest:List Int) (i:Nat) (T:Regs) (H':IH) (ws:List Nat) (r:Except Int (List Nat)) (σ':Mst),
  l.drop i=rest→i≤l.length→Fr H.next H H'→vRead rest σ=some (r,σ')→WsAt H' H.next (T.at 4) ws→ws.length=i→(∀w∈ws,w<18446744073709551616)→T.at 0=ptrV A.p→T.at 7=v→T.at 8=.int .i64 (l.length:Int)→T.at 9=.int .i64 (i:Int)→
  ∃T' H'',Fr H.next H H''∧((∃ws',r=.ok ws'∧run J okAll (.loop L100_0) T H'=some (.exit 0,T',H'')∧WsAt H'' H.next (T'.at 4) (ws++ws')∧(∀w∈ws',w<18446744073709551616))∨(r=.error 6∧run J okAll (.loop L100_0) T H'=some (.pan (overV 6),T',H''))):=by
 intro rest
 induction rest with
 |nil=>
  intro i T H' ws r σ' hr hi hf hx hw hwl hwlt t0 t7 t8 t9
  have:i=l.length:=by have:=congrArg List.length hr;simp at this;omega
  subst this
  change some (Except.ok [],σ)=some (r,σ') at hx
  simp only [Option.some.injEq,Prod.mk.injEq] at hx
  obtain ⟨rfl,rfl⟩:=hx
  rw [r_loop]
  simp [L100_0,t7,t8,t9]
  exact ⟨_,_,hf,⟨rfl,rfl⟩,by simpa using hw⟩
 |cons j rest ih=>
  intro i T H' ws r σ' hr hi hf hx hw hwl hwlt t0 t7 t8 t9
  have hlt:i<l.length:=by have:=congrArg List.length hr;simp at this;omega
  have hj:l[i]?=some j:=by have:=congrArg (fun u=>u[0]?) hr;simpa using this
  have hr2:l.drop (i+1)=rest:=by rw [←List.tail_drop,hr];rfl
  obtain ⟨b,o,c,rfl,hb,_,hcell⟩:=hl.get hj
  have hsb:SameB lo H H':=fun x hx=>hf.2 x (Nat.lt_of_lt_of_le hx h.lo)
  obtain ⟨cs,pr,hg,hcs⟩:=hcell.same hsb hb
  simp only [Nat.mul_one] at hcs
  have h':=h.fr hf
  have hw1:IntKind.i64.wrap ((i:Int)+1)=((i+1:Nat):Int):=by rw [wrap64 _ (by omega) (by omega)];simp
  unfold vRead at hx
  rcases VM.bind_cases hx with ⟨w,σ1,h1,h2⟩|⟨k,h1,h2⟩
  ·obtain ⟨rfl,h3⟩:=rd_slot h' h1
   rcases h3 with ⟨w',b2,o2,e1,e2,e3,e4⟩|⟨e1,_⟩
   ·simp only [Except.ok.injEq] at e1
    subst e1
    obtain ⟨u',H2,a1,a2,a3⟩:=app_u64 hw hf.1 (by omega) w
    simp only [intV,ptrV] at hcs e3 t0
    obtain ⟨T1,s1,s2,s3,s4,s5,s6⟩:∃T1,run J okAll (.loop L100_0) T H'=run J okAll (.loop L100_0) T1 H2∧T1.at 4=u'∧T1.at 0=.pointer (some ⟨A.p,0,none⟩)∧T1.at 7=.slice (some ⟨b,o,none⟩) l.length c∧T1.at 8=.int .i64 (l.length:Int)∧T1.at 9=.int .i64 ((i+1:Nat):Int):=by
     rw [r_loop]
     simp [L100_0,t0,t7,t8,t9,hlt,iindexAddr,hg,hcs,e3,e4,bs_u64,iparts,a1,hw1]
     exact ⟨_,rfl,by simp,by simp [t0],by simp [t7],by simp [t8],by simp⟩
    rw [s1]
    rcases VM.bind_cases h2 with ⟨ws2,σ2,h4,h5⟩|⟨k,h4,h5⟩
    ·change some (Except.ok (w::ws2),σ2)=some (r,σ') at h5
     simp only [Option.some.injEq,Prod.mk.injEq] at h5
     obtain ⟨rfl,rfl⟩:=h5
     obtain ⟨T',H3,f3,g⟩:=ih (i+1) T1 H2 (ws++[w]) (.ok ws2) σ2 hr2 (by omega) (hf.trans a3) h4 (by rw [s2];exact a2) (by simp [hwl]) (fun x hx=>by rcases List.mem_append.1 hx with hx|hx;exact hwlt x hx;simp at hx;omega) s3 s4 s5 s6
     refine ⟨T',H3,f3,?_⟩
     rcases g with ⟨ws',g1,g2,g3,g4⟩|⟨g1,_⟩
     ·simp only [Except.ok.injEq] at g1
      subst g1
      exact .inl ⟨_,rfl,g2,by simpa using g3,fun x hx=>by rcases List.mem_cons.1 hx with hx|hx;omega;exact g4 x hx⟩
     ·simp at g1
    ·subst h5
     obtain ⟨T',H3,f3,g⟩:=ih (i+1) T1 H2 (ws++[w]) (.error k) σ' hr2 (by omega) (hf.trans a3) h4 (by rw [s2];exact a2) (by simp [hwl]) (fun x hx=>by rcases List.mem_append.1 hx with hx|hx;exact hwlt x hx;simp at hx;omega) s3 s4 s5 s6
     refine ⟨T',H3,f3,?_⟩
     rcases g with ⟨ws',g1,g2,g3⟩|⟨g1,g2⟩
     ·simp at g1
     ·simp only [Except.error.injEq] at g1
      subst g1
      exact .inr ⟨rfl,g2⟩
   ·simp at e1
  ·obtain ⟨rfl,h3⟩:=rd_slot h' h1
   rcases h3 with ⟨w',b2,o2,e1,_⟩|⟨e1,e2⟩
   ·simp at e1
   ·simp only [Except.error.injEq] at e1
    subst e1 h2
    simp only [intV,ptrV] at hcs e2 t0
    rw [r_loop]
    simp [L100_0,t0,t7,t8,t9,hlt,iindexAddr,hg,hcs,e2]
    exact hf
theorem m_read (h:VmAt H lo im A σ) {v:Value} {l:List Int} (hl:IntsAt H lo v l) (hlen:l.length≤1000000) {r:Except Int (List Nat)} {σ':Mst} (hx:vRead l σ=some (r,σ')):
  σ'=σ∧∃H',Fr H.next H H'∧((∃ws u,r=.ok ws∧cal J okAll 100 #[ptrV A.p,v] H=some (.ret u,H')∧WsAt H' H.next u ws∧(∀w∈ws,w<18446744073709551616))∨(r=.error 6∧cal J okAll 100 #[ptrV A.p,v] H=some (.pan (overV 6),H'))):=by
 obtain ⟨e,_⟩:=vRead_same hx
 refine ⟨e,?_⟩
 rw [cal100 _ _ (by simp)]
 obtain ⟨a,c,hv,_⟩:=id hl
 subst hv
 simp [C100,regsOf,fin,iresult1,ptrV]
 generalize hX:run J okAll (.loop L100_0) _ _=X
 obtain ⟨T1,hT,a4,a0,a7,a8,a9⟩:∃T1,run J okAll (.loop L100_0) T1 H=X∧T1.at 4=.slice none 0 0∧T1.at 0=ptrV A.p∧T1.at 7=.slice a l.length c∧T1.at 8=.int .i64 (l.length:Int)∧T1.at 9=.int .i64 ((0:Nat):Int):=⟨_,hX,by simp,by simp [ptrV],by simp,by simp,by simp⟩
 obtain ⟨T',H',f,g⟩:=loop100 h hl hlen l 0 T1 H [] r σ' rfl (by omega) (Fr.refl _ _) hx (.inl ⟨a4,rfl⟩) rfl (by simp) a0 a7 a8 a9
 rcases g with ⟨ws',rfl,g2,g3,g4⟩|⟨rfl,g2⟩
 ·rw [hT] at g2
  subst g2
  simp [regsOf,fin,iresult1]
  exact ⟨H',f,T'.at 4,⟨rfl,rfl⟩,by simpa using g3,g4⟩
 ·rw [hT] at g2
  subst g2
  simp [regsOf,fin,iresult1]
  exact f
end
def vKeepGo:List Int→List Nat→VM (List Nat)
 | [],nx=>VM.ret nx
 |i::l,nx=>do
  let w ←vGet i
  vKeepGo l (nx.set i.toNat w)
def vKeep (live:List Int):VM Unit:=do
 let f ←vTop
 let nx ←vKeepGo live (List.replicate f.slots.length 1)
 VM.upd fun σ=>match σ.frames with
  |f::fs=>{ σ with frames:={ f with slots:=nx }::fs }
  | []=>σ
theorem vGet_ok {σ σ':Mst} {f:Frm} {fs:List Frm} (hf:σ.frames=f::fs) {i:Int} {w:Nat} (hx:vGet i σ=some (.ok w,σ')):0≤i∧i<f.slots.length:=by
 rw [vGet_eq hf,Option.some.injEq,Prod.mk.injEq] at hx
 obtain ⟨h1,_⟩:=hx
 split at h1
 ·rename_i h;simp only [Bool.and_eq_true,decide_eq_true_eq] at h;exact h
 ·simp at h1
section
variable {H:IH} {lo:Nat} {im:Img} {A:VA} {σ:Mst}
theorem loop111a (n nb:Nat) (hn:n≤200) (K:Nat→Value) (hnb:H.next≤nb) (k5:K 5=.slice (some ⟨nb,0,none⟩) n n):∀(d i:Nat) (T:Regs) (H':IH),i+d=n→Fr H.next H H'→nb<H'.next→H'.get nb=some (.cells (u64c (List.replicate i 1++List.replicate d 0)) 62 false)→
  (∀t,t<6→T.at t=K t)→T.at 19=.int .i64 (n:Int)→T.at 20=.int .i64 (i:Int)→
  ∃T' H'',run J okAll (.loop L111_0) T H'=some (.exit 0,T',H'')∧Fr H.next H H''∧nb<H''.next∧H''.get nb=some (.cells (u64c (List.replicate n 1)) 62 false)∧(∀t,t<6→T'.at t=K t):=by
 intro d
 induction d with
 |zero=>
  intro i T H' hd hf hnb2 hg hK t19 t20
  have:i=n:=by omega
  subst this
  rw [r_loop]
  simp [L111_0,t19,t20]
  exact ⟨_,_,⟨rfl,rfl⟩,hf,hnb2,by simpa using hg,fun t ht=>by simp (disch:=omega) only [at_set_gt];exact hK t ht⟩
 |succ d ih=>
  intro i T H' hd hf hnb2 hg hK t19 t20
  have hlt:i<n:=by omega
  have t5:=(hK 5 (by omega)).trans k5
  have hi:=c_Imm H' 0 (by omega)
  have hi1:((wImm 0:Nat):Int)=1:=rfl
  have hw1:IntKind.i64.wrap ((i:Int)+1)=((i+1:Nat):Int):=by rw [wrap64 _ (by omega) (by omega)];simp
  have hl0:i+1≤i+(d+1):=by omega
  have e6:List.take i (u64c (List.replicate i 1++List.replicate (d+1) 0))++Value.int .u64 1::List.drop (i+1) (u64c (List.replicate i 1++List.replicate (d+1) 0))=u64c (List.replicate (i+1) 1++List.replicate d 0):=by
   rw [show (Value.int .u64 1)=Value.int .u64 ((1:Nat):Int) from rfl,u64c_put _ _ 1 (by simp)]
   congr 1
   rw [List.set_append_right _ _ (by simp),List.length_replicate,Nat.sub_self,List.replicate_succ,List.set_cons_zero,List.replicate_succ']
   simp
  rw [r_loop]
  simp [L111_0,t5,t19,t20,hlt,hg,iindexAddr,hi,hi1,istore,Value.cells,plain1,overlay,u64c_len,hl0,e6,hw1]
  exact ih (i+1) _ _ (by omega) (hf.set hnb _) (by simpa using hnb2) (by rw [IH.get_set,if_pos rfl]) (fun t ht=>by simp (disch:=omega) only [at_set_gt];exact hK t ht) (by simp [t19]) (by simp)
theorem loop111b (h:VmAt H lo im A σ) {f:Frm} {fs:List Frm} (hf:σ.frames=f::fs) {v:Value} {l:List Int} (hl:IntsAt H lo v l) (hlen:l.length≤1000000) (nb n:Nat) (hn:n=f.slots.length) (K:Nat→Value) (hnb:H.next≤nb) (k0:K 0=ptrV A.p) (k5:K 5=.slice (some ⟨nb,0,none⟩) n n):
  ∀(rest:List Int) (i:Nat) (T:Regs) (H':IH) (nx:List Nat) (r:Except Int (List Nat)) (σ':Mst),
  l.drop i=rest→i≤l.length→Fr H.next H H'→nb<H'.next→H'.get nb=some (.cells (u64c nx) 62 false)→nx.length=n→(∀w∈nx,w<18446744073709551616)→vKeepGo rest nx σ=some (r,σ')→(∀t,t<6→T.at t=K t)→T.at 28=v→T.at 29=.int .i64 (l.length:Int)→T.at 30=.int .i64 (i:Int)→
  σ'=σ∧∃T' H'',Fr H.next H H''∧nb<H''.next∧((∃nx',r=.ok nx'∧run J okAll (.loop L111_1) T H'=some (.exit 2,T',H'')∧H''.get nb=some (.cells (u64c nx') 62 false)∧nx'.length=n∧(∀w∈nx',w<18446744073709551616)∧(∀t,t<6→T'.at t=K t))∨(r=.error 6∧run J okAll (.loop L111_1) T H'=some (.pan (overV 6),T',H''))):=by
 intro rest
 induction rest with
 |nil=>
  intro i T H' nx r σ' hr hi hfr hnb2 hg hnl hwlt hx hK t28 t29 t30
  have:i=l.length:=by have:=congrArg List.length hr;simp at this;omega
  subst this
  change some (Except.ok nx,σ)=some (r,σ') at hx
  simp only [Option.some.injEq,Prod.mk.injEq] at hx
  obtain ⟨rfl,rfl⟩:=hx
  refine ⟨rfl,?_⟩
  rw [r_loop]
  simp [L111_1,t28,t29,t30]
  exact ⟨_,_,hfr,hnb2,⟨rfl,rfl⟩,hg,hnl,hwlt,fun t ht=>by simp (disch:=omega) only [at_set_gt];exact hK t ht⟩
 |cons j rest ih=>
  intro i T H' nx r σ' hr hi hfr hnb2 hg hnl hwlt hx hK t28 t29 t30
  have hlt:i<l.length:=by have:=congrArg List.length hr;simp at this;omega
  have hj:l[i]?=some j:=by have:=congrArg (fun u=>u[0]?) hr;simpa using this
  have hr2:l.drop (i+1)=rest:=by rw [←List.tail_drop,hr];rfl
  obtain ⟨b,o,c,rfl,hb,_,hcell⟩:=hl.get hj
  have hsb:SameB lo H H':=fun x hx=>hfr.2 x (Nat.lt_of_lt_of_le hx h.lo)
  obtain ⟨cs,pr,hgc,hcs⟩:=hcell.same hsb hb
  simp only [Nat.mul_one] at hcs
  have h':=h.fr hfr
  have t0:=(hK 0 (by omega)).trans k0
  have t5:=(hK 5 (by omega)).trans k5
  have hw1:IntKind.i64.wrap ((i:Int)+1)=((i+1:Nat):Int):=by rw [wrap64 _ (by omega) (by omega)];simp
  unfold vKeepGo at hx
  rcases VM.bind_cases hx with ⟨w,σ1,h1,h2⟩|⟨k,h1,h2⟩
  ·obtain ⟨g1,g2⟩:=vGet_ok hf h1
   obtain ⟨rfl,h3⟩:=rd_slot h' h1
   rcases h3 with ⟨w',b2,o2,e1,e2,e3,e4⟩|⟨e1,_⟩
   ·simp only [Except.ok.injEq] at e1
    subst e1
    simp only [intV,ptrV] at hcs e3 t0
    have g3:j<n:=by omega
    have g4:j.toNat+1≤nx.length:=by omega
    have g5:j.toNat<nx.length:=by omega
    obtain ⟨T1,s1,s2,s4,s5,s6⟩:∃T1,run J okAll (.loop L111_1) T H'=run J okAll (.loop L111_1) T1 (H'.set nb (.cells (u64c (nx.set j.toNat w)) 62 false))∧(∀t,t<6→T1.at t=K t)∧T1.at 28=.slice (some ⟨b,o,none⟩) l.length c∧T1.at 29=.int .i64 (l.length:Int)∧T1.at 30=.int .i64 ((i+1:Nat):Int):=by
     rw [r_loop]
     simp [L111_1,t0,t5,t28,t29,t30,hlt,iindexAddr,hgc,hcs,e3,e4,hg,g1,g3,g4,istore,Value.cells,plain1,overlay,u64c_len,u64c_put,g5,hw1]
     exact ⟨_,rfl,fun t ht=>by simp (disch:=omega) only [at_set_gt];exact hK t ht,by simp [t28],by simp [t29],by simp⟩
    rw [s1]
    exact ih (i+1) T1 _ (nx.set j.toNat w) r σ' hr2 (by omega) (hfr.set hnb _) (by simpa using hnb2) (by rw [IH.get_set,if_pos rfl]) (by simpa using hnl) (fun x hx=>by rcases List.mem_or_eq_of_mem_set hx with h5|h5;exact hwlt x h5;omega) h2 s2 s4 s5 s6
   ·simp at e1
  ·obtain ⟨rfl,h3⟩:=rd_slot h' h1
   rcases h3 with ⟨w',b2,o2,e1,_⟩|⟨e1,e2⟩
   ·simp at e1
   ·simp only [Except.error.injEq] at e1
    subst e1 h2
    simp only [intV,ptrV] at hcs e2 t0
    refine ⟨rfl,?_⟩
    rw [r_loop]
    simp [L111_1,t0,t28,t29,t30,hlt,iindexAddr,hgc,hcs,e2]
    exact ⟨_,_,hfr,hnb2,rfl,rfl⟩
theorem VmAt.newTop (h:VmAt H lo im A σ) {f f':Frm} {fs:List Frm} (hf:σ.frames=f::fs) {q:Nat×Nat} {l:List (Nat×Nat)} (hq:A.fr=q::l) {nb:Nat} (hnb:nb ∉ A.own) (hnl:lo≤nb) (hnn:nb<H.next) {H':IH} {x:Blk}
  (hH:H'=H.set q.1 x) (hfr:FrAt H' lo (q.1,nb) f') (hl:f'.slots.length=f.slots.length):VmAt H' lo im { A with fr:=(q.1,nb)::l } { σ with frames:=f'::fs }∧Fx A.own H H'∧∀x∈({ A with fr:=(q.1,nb)::l }:VA).own,x∈A.own∨x=nb:=by
 have hfo:frOwn A.fr=q.1::q.2::frOwn l:=by rw [hq];rfl
 have hy1:q.1∈frOwn A.fr:=by rw [hfo];simp
 have hyo:q.1∈A.own:=by simp only [VA.own,List.mem_cons,List.mem_append];simp [hy1]
 obtain ⟨s1,s2,s3,s4,s5,s6,s7⟩:=VA.own_split h.nd q.1 hy1
 have hg:∀z,z≠q.1→H'.get z=H.get z:=fun z hz=>by rw [hH,IH.get_set,if_neg hz]
 have hs:SameB lo H H':=fun z hz=>hg z (fun e=>by have:=(h.own q.1 hyo).1;omega)
 have h1:=h.nd
 have hnd:(frOwn (q::l)).Nodup:=by
  simp only [VA.own,List.nodup_cons] at h1
  have h2:=(List.nodup_append.1 h1.2.2.2.2).2.1
  rw [hq] at h2
  exact h2
 obtain ⟨n1,n2,n3,n4⟩:=frOwn_nd hnd
 have hn:H'.next=H.next:=by rw [hH];rfl
 have hfx:Fx A.own H H':=by rw [hH];exact (Fx.refl _ _).set (.inl hyo) _
 have hown:∀x∈({ A with fr:=(q.1,nb)::l }:VA).own,x∈A.own∨x=nb:=by
  intro x hx
  simp only [VA.own,frOwn,List.mem_cons,List.mem_append,hq] at hx ⊢
  rcases hx with hx|hx|hx|hx|hx|hx|hx|hx<;>simp [hx]
 obtain ⟨q',l',e1,e2,e3⟩:=h.top hf
 rw [hq] at e1
 simp only [List.cons.injEq] at e1
 obtain ⟨rfl,rfl⟩:=e1
 have hnd2:({ A with fr:=(q.1,nb)::l }:VA).own.Nodup:=by
  have hp:A.own=(A.p::A.hp.p::A.hp.wb::A.hp.hb::(bOf A.hp.lv++bOf A.fv++bOf A.ov++[q.1]))++q.2::frOwn l:=by simp [VA.own,hfo]
  have hp2:({ A with fr:=(q.1,nb)::l }:VA).own=(A.p::A.hp.p::A.hp.wb::A.hp.hb::(bOf A.hp.lv++bOf A.fv++bOf A.ov++[q.1]))++nb::frOwn l:=by simp [VA.own,frOwn]
  rw [hp] at h1 hnb
  rw [hp2]
  obtain ⟨m1,m2,m3⟩:=List.nodup_append.1 h1
  have hnb1:=fun hm=>hnb (List.mem_append_left _ hm)
  have hnb2:=fun hm=>hnb (List.mem_append_right _ (List.mem_cons_of_mem _ hm))
  refine List.nodup_append.2 ⟨m1,List.nodup_cons.2 ⟨hnb2,(List.nodup_cons.1 m2).2⟩,fun a ha b hb=>?_⟩
  rcases List.mem_cons.1 hb with rfl|hb
  ·exact fun e=>hnb1 (e▸ha)
  ·exact m3 a ha b (List.mem_cons_of_mem _ hb)
 refine ⟨⟨(hg _ (Ne.symm s1)).trans h.obj,h.img.same hs,h.hp.same (by omega) (hg _ (Ne.symm s2)) (hg _ (Ne.symm s3)) (hg _ (Ne.symm s4)) (fun z hm=>hg z (fun e=>s5 (e▸hm))),h.inp.mono fun _ _ _ hb hx=>CellAt.same hx hs hb,h.col.mono fun _ _ _ hb hx=>CellAt.same hx hs hb,
  .cons hfr (e3.same hs fun z hm=>hg z fun e=>n2 (e▸hm)),?_,h.ov.same fun z hm=>hg z (fun e=>s7 (e▸hm)),hnd2,fun x hm=>by rw [hn];rcases hown x hm with hm|rfl;exact h.own x hm;exact ⟨hnl,hnn⟩,by rw [hn];exact h.lo,⟨?_,h.ok.stack,h.ok.fits,h.ok.fuel,h.ok.steps,h.ok.made,h.ok.swept,h.ok.out,h.ok.inn⟩,h.imok⟩,hfx,hown⟩
 ·have:=FvAt.same (H':=H') h.fv fun z hm=>hg z (fun e=>s6 (e▸hm))
  rw [hq] at this
  exact this
 ·have:=h.ok.words
  rw [hf] at this
  simp only [frWords] at this ⊢
  rw [hl];exact this
theorem m_keep (h:VmAt H lo im A σ) {v:Value} {l:List Int} (hl:IntsAt H lo v l) (hlen:l.length≤1000000):Out lo im H A (cal J okAll 111 #[ptrV A.p,v] H) UnitV (vKeep l σ):=by
 intro r σ' hx
 rw [cal111 _ _ (by simp)]
 unfold vKeep at hx
 cases hf:σ.frames with
 |nil=>
  rw [VM.bind_none (vTop_nil hf)] at hx
  simp at hx
 |cons f fs=>
  rw [VM.bind_ok (vTop_eq hf)] at hx
  obtain ⟨q,ql,hq,e2,e3⟩:=h.top hf
  have h1:=c_top h hf hq
  obtain ⟨pb,po,hpb,hfn,hg⟩:=e2.ex
  obtain ⟨a,c,hv,_⟩:=id hl
  subst hv
  have hs:=e2.ok.slots
  have hle:=e2.len
  have hn200:f.slots.length≤200:=by omega
  have m1:=mk_u64 H f.slots.length (by omega)
  have hn0:H.next≤H.next:=Nat.le_refl _
  simp only [ptrV] at h1
  simp [C111,regsOf,fin,iresult1,ptrV,h1,hg,m1]
  generalize hX:run J okAll (.loop L111_0) _ _=X
  obtain ⟨T1,hT,a0,a4,a5,a19,a20,a1⟩:∃T1,run J okAll (.loop L111_0) T1 (H.push (.cells (u64c (List.replicate f.slots.length 0)) 62 false))=X∧T1.at 0=ptrV A.p∧T1.at 4=ptrV q.1∧T1.at 5=.slice (some ⟨H.next,0,none⟩) f.slots.length f.slots.length∧T1.at 19=.int .i64 (f.slots.length:Int)∧T1.at 20=.int .i64 ((0:Nat):Int)∧T1.at 1=.slice a l.length c:=⟨_,hX,by simp [ptrV],by simp [ptrV],by simp,by simp,by simp,by simp⟩
  obtain ⟨T2,H2,g1,g2,g3,g4,g5⟩:=loop111a (H:=H) f.slots.length H.next hn200 (fun t=>T1.at t) hn0 a5 f.slots.length 0 T1 (H.push (.cells (u64c (List.replicate f.slots.length 0)) 62 false)) (by omega) ((Fr.refl _ _).push hn0 _) (by simp) (by rw [IH.get_push_same];rfl) (fun t ht=>rfl) a19 a20
  have g1:=hT.symm.trans g1
  subst g1
  have b0:=(g5 0 (by omega)).trans a0
  have b1:=(g5 1 (by omega)).trans a1
  have b4:=(g5 4 (by omega)).trans a4
  have b5:=(g5 5 (by omega)).trans a5
  simp only [ptrV] at b0 b4
  simp [b0,b1,b4,b5]
  generalize hY:run J okAll (.loop L111_1) _ _=Y
  obtain ⟨T3,hT3,c0,c4,c5,c28,c29,c30⟩:∃T3,run J okAll (.loop L111_1) T3 H2=Y∧T3.at 0=ptrV A.p∧T3.at 4=ptrV q.1∧T3.at 5=.slice (some ⟨H.next,0,none⟩) f.slots.length f.slots.length∧T3.at 28=.slice a l.length c∧T3.at 29=.int .i64 (l.length:Int)∧T3.at 30=.int .i64 ((0:Nat):Int):=⟨_,hY,by simp [b0,ptrV],by simp [b4,ptrV],by simp [b5],by simp,by simp,by simp⟩
  have hlb:=loop111b h hf hl hlen H.next f.slots.length rfl (fun t=>T3.at t) hn0 c0 c5 l 0 T3 H2 (List.replicate f.slots.length 1)
  rcases VM.bind_cases hx with ⟨nx,σ1,x1,x2⟩|⟨k,x1,x2⟩
  ·obtain ⟨rfl,T4,H4,f4,n4,d⟩:=hlb _ σ1 rfl (by omega) g2 g3 g4 (by simp) (fun w hw=>by rw [List.eq_of_mem_replicate hw];decide) x1 (fun t ht=>rfl) c28 c29 c30
   rcases d with ⟨nx',d1,d2,d3,d4,d5,d6⟩|⟨d1,_⟩
   ·simp only [Except.ok.injEq] at d1
    subst d1
    have d2:=hT3.symm.trans d2
    subst d2
    have u4:=(d6 4 (by omega)).trans c4
    have u5:=(d6 5 (by omega)).trans c5
    simp only [ptrV] at u4
    simp only [VM.upd,hf,Option.some.injEq,Prod.mk.injEq] at x2
    obtain ⟨rfl,rfl⟩:=x2
    have h4:=h.fr f4
    obtain ⟨q',ql',y1,y2,y3⟩:=h4.top hf
    rw [hq] at y1
    simp only [List.cons.injEq] at y1
    obtain ⟨rfl,rfl⟩:=y1
    obtain ⟨pb',po',hpb',hfn',hg'⟩:=y2.ex
    simp [regsOf,fin,iresult1,u4,u5,hg',istore,Value.cells,plain1,overlay]
    have hqo:=(h4.own q.1 (by simp [VA.own,hq,frOwn])).1
    have hlo:=h.lo
    have hnbq:H.next≠q.1:=fun e=>by have:=(h.own q.1 (by simp [VA.own,hq,frOwn])).2;omega
    obtain ⟨u1,u2,u3⟩:=h4.newTop hf hq (f':={ f with slots:=nx }) (nb:=H.next) (x:=.cells [.pointer (some ⟨pb',po',none⟩),.int .i64 f.block,.int .i64 f.at_,.slice (some ⟨H.next,0,none⟩) nx.length nx.length] 138 false) (fun hm=>by have:=(h.own _ hm).2;omega) hlo n4 rfl
     ⟨⟨pb',po',hpb',FnAt.same hfn' (fun z hz=>by rw [IH.get_set,if_neg (fun e=>by omega)]) hpb',by rw [IH.get_set,if_pos rfl]⟩,by rw [IH.get_set,if_neg hnbq];exact d3,d5,by rw [d4];exact e2.len,e2.ok,e2.at0⟩ d4
    rw [d4] at u1 u2
    refine ⟨_,_,_,⟨rfl,rfl⟩,u1,⟨rfl,(Fx.of_fr f4).trans u2 (fun x hx=>.inl hx),fun x hx=>(u3 x hx).imp id (fun e=>by omega)⟩,⟨_,rfl,rfl⟩⟩
   ·simp at d1
  ·obtain ⟨rfl,T4,H4,f4,n4,d⟩:=hlb _ σ' rfl (by omega) g2 g3 g4 (by simp) (fun w hw=>by rw [List.eq_of_mem_replicate hw];decide) x1 (fun t ht=>rfl) c28 c29 c30
   rcases d with ⟨nx',d1,_⟩|⟨d1,d2⟩
   ·simp at d1
   ·simp only [Except.error.injEq] at d1
    subst d1 x2
    have d2:=hT3.symm.trans d2
    subst d2
    simp [regsOf,fin,iresult1]
    exact ⟨H4,A,.pan (overV 6),⟨rfl,rfl⟩,h.fr f4,⟨rfl,Fx.of_fr f4,fun x hx=>.inl hx⟩,rfl⟩
end
def Fn.frame (x:Fn) (args:List Nat):Frm:=⟨x,0,0,args++List.replicate (x.slots.toNat-args.length) 1⟩
def vCall (im:Img) (fi:Int) (args:List Nat):VM Unit:=do
 vMust (decide (0≤fi)&&decide (fi<im.funcs.length))
 let x ←VM.of fun _=>im.funcs[fi.toNat]?
 vMust (decide ((args.length:Int)≤x.slots)&&decide (args.length=x.params.length)&&decide (0<x.blocks.length))
 let full ←VM.get fun σ=>decide (σ.stack<σ.words+x.slots+2)
 if full then vEnd 5 else
 VM.upd fun σ=>{ σ with words:=σ.words+(x.slots+2),frames:=x.frame args::σ.frames }
def ArgAt (H:IH) (u:Value) (ws:List Nat):Prop:=(u=.slice none 0 0∧ws= [])∨∃b c,u=.slice (some ⟨b,0,none⟩) ws.length c∧b<H.next∧H.get b=some (.cells (u64c ws) 62 false)
section
variable {H:IH} {lo:Nat} {im:Img} {A A':VA} {σ σ':Mst}
theorem loop65 (G:IH) (fb sb:Nat) (x0 x1 x2:Value) (args:List Nat) (n:Nat) (hn:n≤200) (K:Nat→Value) (hfs:fb≠sb) (hfb:G.get fb=some (.cells [x0,x1,x2,.slice (some ⟨sb,0,none⟩) n n] 138 false)) (k7:K 7=ptrV fb):
  ∀(d i:Nat) (T:Regs) (H':IH),args.length+i+d=n→H'.next=G.next→(∀x,x≠sb→H'.get x=G.get x)→H'.get sb=some (.cells (u64c (args++List.replicate i 1++List.replicate d 0)) 62 false)→
  (∀t,t<8→T.at t=K t)→T.at 8=.int .i64 ((args.length+i:Nat):Int)→
  ∃T' H'',run J okAll (.loop L65_0) T H'=some (.exit 0,T',H'')∧H''.next=G.next∧(∀x,x≠sb→H''.get x=G.get x)∧H''.get sb=some (.cells (u64c (args++List.replicate (n-args.length) 1)) 62 false)∧(∀t,t<8→T'.at t=K t):=by
 intro d
 induction d with
 |zero=>
  intro i T H' hd hnx hx hg hK t8
  have t7:=(hK 7 (by omega)).trans k7
  have hgf:=(hx fb hfs).trans hfb
  have e:args.length+i=n:=by omega
  rw [e] at t8
  rw [r_loop]
  simp only [ptrV] at t7
  simp [L65_0,t7,t8,hgf]
  exact ⟨_,_,⟨rfl,rfl⟩,hnx,hx,by rw [hg];simp [show n-args.length=i by omega],fun t ht=>by simp (disch:=omega) only [at_set_gt];exact hK t ht⟩
 |succ d ih=>
  intro i T H' hd hnx hx hg hK t8
  have t7:=(hK 7 (by omega)).trans k7
  have hgf:=(hx fb hfs).trans hfb
  obtain ⟨j,hj⟩:∃j,j=args.length+i:=⟨_,rfl⟩
  rw [←hj] at t8
  have hlt:j<n:=by omega
  have hi:=c_Imm H' 0 (by omega)
  have hi1:((wImm 0:Nat):Int)=1:=rfl
  have hw1:IntKind.i64.wrap ((j:Int)+1)=((args.length+(i+1):Nat):Int):=by rw [wrap64 _ (by omega) (by omega)];simp;omega
  have hll:(args++List.replicate i 1++List.replicate (d+1) 0).length=n:=by simp;omega
  have hl0:j+1≤n:=by omega
  have e6:List.take j (u64c (args++List.replicate i 1++List.replicate (d+1) 0))++Value.int .u64 1::List.drop (j+1) (u64c (args++List.replicate i 1++List.replicate (d+1) 0))=u64c (args++List.replicate (i+1) 1++List.replicate d 0):=by
   rw [show (Value.int .u64 1)=Value.int .u64 ((1:Nat):Int) from rfl,u64c_put _ _ 1 (by omega)]
   congr 1
   have hz:j-(args++List.replicate i 1).length=0:=by simp;omega
   rw [List.set_append_right _ _ (by simp;omega),hz,List.replicate_succ,List.set_cons_zero,List.replicate_succ']
   simp
  rw [r_loop]
  simp only [ptrV] at t7
  have hlen2:=u64c_len (args++List.replicate i 1++List.replicate (d+1) 0)
  rw [hll] at hlen2
  generalize hL:u64c (args++List.replicate i 1++List.replicate (d+1) 0)=L at*
  simp [L65_0,t7,t8,hgf,hlt,hg,iindexAddr,hi,hi1,istore,Value.cells,plain1,overlay,hlen2,hl0,e6,hw1]
  exact ih (i+1) _ _ (by omega) (by simpa using hnx) (fun x hne=>by rw [IH.get_set,if_neg hne];exact hx x hne) (by rw [IH.get_set,if_pos rfl];simp) (fun t ht=>by simp (disch:=omega) only [at_set_gt];exact hK t ht) (by simp)
theorem bOf_some (a:Addr) (n c:Nat):bOf (.slice (some a) n c)= [a.block]:=rfl
theorem VmAt.pushFrame (h:VmAt H lo im A σ) {H':IH} {f:Frm} {fb sb nfb:Nat} {w:Int} (hn:H.next≤H'.next) (hx:∀x,x<H.next→x≠A.p→x ∉ bOf A.fv→H'.get x=H.get x)
  (hA:A'= { A with fv:=.slice (some ⟨nfb,0,none⟩) (A.fr.length+1) capU,fr:=(fb,sb)::A.fr }) (hσ:σ'= { σ with words:=w,frames:=f::σ.frames })
  (ho:H'.get A.p=some (.cells (A'.cells σ') 84 false)) (hfr:FrAt H' lo (fb,sb) f) {cs:List Value} (hfv:H'.get nfb=some (.cells cs 131 false)) (hcl:A.fr.length+1≤cs.length) (hct:cs.take (A.fr.length+1)=((A.fr.map (·.1)).reverse.map ptrV)++[ptrV fb])
  (b1:H.next≤fb∧fb<H'.next) (b2:H.next≤sb∧sb<H'.next) (b3:H.next≤nfb∧nfb<H'.next) (d1:fb≠sb) (d2:fb≠nfb) (d3:sb≠nfb) (hok:MOk σ'):VmAt H' lo im A' σ'∧Nx H A H' A':=by
 subst hA hσ
 have hnd:=h.nd
 have hlt:∀x∈A.own,x<H.next:=fun x hx=>(h.own x hx).2
 have hp:A.own=(A.p::A.hp.p::A.hp.wb::A.hp.hb::bOf A.hp.lv)++(bOf A.fv++(bOf A.ov++frOwn A.fr)):=by simp [VA.own]
 have hs:SameB lo H H':=fun x hx'=>hx x (Nat.lt_of_lt_of_le hx' h.lo) (fun e=>by have:=(h.own A.p (by simp [VA.own])).1;omega) (fun hm=>by have:=(h.own x (by simp [VA.own,hm])).1;omega)
 have hnp:∀x∈A.hp.p::A.hp.wb::A.hp.hb::(bOf A.hp.lv++bOf A.fv++bOf A.ov++frOwn A.fr),x≠A.p:=by
  intro x hx e
  rw [VA.own,List.nodup_cons] at hnd
  exact hnd.1 (e▸hx)
 have hnf:∀x,x∈A.hp.p::A.hp.wb::A.hp.hb::bOf A.hp.lv∨x∈bOf A.ov++frOwn A.fr→x ∉ bOf A.fv:=by
  intro x hx hm
  rw [hp] at hnd
  obtain ⟨m1,m2,m3⟩:=List.nodup_append.1 hnd
  rcases hx with hx|hx
  ·exact m3 x (List.mem_cons_of_mem _ hx) x (List.mem_append_left _ hm) rfl
  ·exact (List.nodup_append.1 m2).2.2 x hm x hx rfl
 have hg:∀x,x∈A.hp.p::A.hp.wb::A.hp.hb::bOf A.hp.lv∨x∈bOf A.ov++frOwn A.fr→H'.get x=H.get x:=by
  intro x hm
  refine hx x (hlt x ?_) (hnp x ?_) (hnf x hm)
  ·rw [hp];rcases hm with hm|hm
   ·exact List.mem_append_left _ (List.mem_cons_of_mem _ hm)
   ·exact List.mem_append_right _ (List.mem_append_right _ hm)
  ·rcases hm with hm|hm
   ·simp only [List.mem_cons,List.mem_append] at hm ⊢;rcases hm with hm|hm|hm|hm<;>simp [hm]
   ·simp only [List.mem_cons,List.mem_append] at hm ⊢;rcases hm with hm|hm<;>simp [hm]
 have hown:∀x∈({ A with fv:=.slice (some ⟨nfb,0,none⟩) (A.fr.length+1) capU,fr:=(fb,sb)::A.fr }:VA).own,(x∈A.own∧x ∉ bOf A.fv)∨x=fb∨x=sb∨x=nfb:=by
  intro x hx
  simp only [VA.own,frOwn,bOf_some,List.mem_cons,List.mem_append,List.not_mem_nil,or_false] at hx
  have h3:∀y,y∈A.own→y=A.p∨(y∈A.hp.p::A.hp.wb::A.hp.hb::bOf A.hp.lv∨y∈bOf A.ov++frOwn A.fr)→y ∉ bOf A.fv:=by
   intro y hy hc hm
   rcases hc with rfl|hc
   ·exact hnp A.p (by simp [hm]) rfl
   ·exact hnf y hc hm
  rcases hx with hx|hx|hx|hx|((hx|hx)|hx)|hx|hx|hx
  ·exact .inl ⟨by simp [VA.own,hx],h3 _ (by simp [VA.own,hx]) (.inl hx)⟩
  ·exact .inl ⟨by simp [VA.own,hx],h3 _ (by simp [VA.own,hx]) (.inr (.inl (by simp [hx])))⟩
  ·exact .inl ⟨by simp [VA.own,hx],h3 _ (by simp [VA.own,hx]) (.inr (.inl (by simp [hx])))⟩
  ·exact .inl ⟨by simp [VA.own,hx],h3 _ (by simp [VA.own,hx]) (.inr (.inl (by simp [hx])))⟩
  ·exact .inl ⟨by simp [VA.own,hx],h3 _ (by simp [VA.own,hx]) (.inr (.inl (by simp [hx])))⟩
  ·exact .inr (.inr (.inr hx))
  ·exact .inl ⟨by simp [VA.own,hx],h3 _ (by simp [VA.own,hx]) (.inr (.inr (by simp [hx])))⟩
  ·exact .inr (.inl hx)
  ·exact .inr (.inr (.inl hx))
  ·exact .inl ⟨by simp [VA.own,hx],h3 _ (by simp [VA.own,hx]) (.inr (.inr (by simp [hx])))⟩
 have hnd2:({ A with fv:=.slice (some ⟨nfb,0,none⟩) (A.fr.length+1) capU,fr:=(fb,sb)::A.fr }:VA).own.Nodup:=by
  have hq:({ A with fv:=.slice (some ⟨nfb,0,none⟩) (A.fr.length+1) capU,fr:=(fb,sb)::A.fr }:VA).own=(A.p::A.hp.p::A.hp.wb::A.hp.hb::bOf A.hp.lv)++(nfb::(bOf A.ov++(fb::sb::frOwn A.fr))):=by simp [VA.own,frOwn,bOf]
  rw [hq]
  have hnd3:=hnd
  rw [hp] at hnd3
  obtain ⟨m1,m2,m3⟩:=List.nodup_append.1 hnd3
  obtain ⟨m4,m5,m6⟩:=List.nodup_append.1 m2
  obtain ⟨m7,m8,m9⟩:=List.nodup_append.1 m5
  have z1:∀x,x∈A.p::A.hp.p::A.hp.wb::A.hp.hb::bOf A.hp.lv→x<H.next:=fun x hx=>hlt x (by rw [hp];exact List.mem_append_left _ hx)
  have z2:∀x,x∈bOf A.ov→x<H.next:=fun x hx=>hlt x (by rw [hp];simp [hx])
  have z3:∀x,x∈frOwn A.fr→x<H.next:=fun x hx=>hlt x (by rw [hp];simp [hx])
  refine List.nodup_append.2 ⟨m1,List.nodup_cons.2 ⟨?_,List.nodup_append.2 ⟨m7,List.nodup_cons.2 ⟨?_,List.nodup_cons.2 ⟨?_,m8⟩⟩,?_⟩⟩,?_⟩
  ·intro hm
   simp only [List.mem_append,List.mem_cons] at hm
   rcases hm with hm|hm|hm|hm
   ·have:=z2 _ hm;omega
   ·exact d2 hm.symm
   ·exact d3 hm.symm
   ·have:=z3 _ hm;omega
  ·intro hm
   rcases List.mem_cons.1 hm with hm|hm
   ·exact d1 hm
   ·have:=z3 _ hm;omega
  ·intro hm;have:=z3 _ hm;omega
  ·intro a ha b hb
   simp only [List.mem_cons] at hb
   have:=z2 _ ha
   rcases hb with rfl|rfl|hb
   ·omega
   ·omega
   ·exact m9 a ha b hb
  ·intro a ha b hb
   have:=z1 a ha
   simp only [List.mem_append,List.mem_cons] at hb
   rcases hb with rfl|hb|rfl|rfl|hb
   ·omega
   ·exact m3 a ha b (by simp [hb])
   ·omega
   ·omega
   ·exact m3 a ha b (by simp [hb])
 refine ⟨⟨ho,h.img.same hs,h.hp.same hn (hg _ (.inl (by simp))) (hg _ (.inl (by simp))) (hg _ (.inl (by simp))) (fun z hm=>hg z (.inl (by simp [hm]))),h.inp.mono fun _ _ _ hb hx=>CellAt.same hx hs hb,h.col.mono fun _ _ _ hb hx=>CellAt.same hx hs hb,
  .cons hfr (h.frs.same hs fun z hm=>hg z (.inr (by simp [hm]))),.inr ⟨nfb,cs,by simp,hfv,by simpa using hcl,by simpa using hct⟩,h.ov.same fun z hm=>hg z (.inr (by simp [hm])),hnd2,fun x hm=>?_,Nat.le_trans h.lo hn,hok,h.imok⟩,⟨rfl,⟨hn,fun x hx1 hx2=>hx x hx1 (fun e=>hx2 (by simp [VA.own,e])) (fun hm=>hx2 (by simp [VA.own,hm]))⟩,fun x hm=>?_⟩⟩
 ·have hlo:=h.lo
  rcases hown x hm with hm|rfl|rfl|rfl
  ·have:=h.own x hm.1;omega
  ·omega
  ·omega
  ·omega
 ·rcases hown x hm with hm|rfl|rfl|rfl
  ·exact .inl hm.1
  ·exact .inr b1.1
  ·exact .inr b2.1
  ·exact .inr b3.1
end
section
variable {H:IH} {lo:Nat} {im:Img} {A A':VA} {σ σ':Mst}
theorem cp_u64 {u:Value} {ws zs:List Nat} {sb n c:Nat} (hu:ArgAt H u ws) (hs:H.get sb=some (.cells (u64c zs) 62 false)) (hz:zs.length=n) (hl:ws.length≤n):
  ∃H',icopy J #[136,136] (.slice (some ⟨sb,0,none⟩) n c) u H=some (.int .i64 (ws.length:Int),H')∧H'.next=H.next∧(∀x,x≠sb→H'.get x=H.get x)∧H'.get sb=some (.cells (u64c (ws++zs.drop ws.length)) 62 false):=by
 rcases hu with ⟨rfl,rfl⟩|⟨b,cc,rfl,hb,hg⟩
 ·refine ⟨H,?_,rfl,fun _ _=>rfl,by simpa using hs⟩
  simp [icopy,ilenOf,ifirst]
 ·by_cases h0:ws.length=0
  ·have:ws= []:=List.eq_nil_of_length_eq_zero h0
   subst this
   refine ⟨H,?_,rfl,fun _ _=>rfl,by simpa using hs⟩
   simp [icopy,ilenOf,ifirst,hg,u64c]
  ·have hmin:Nat.min ws.length n=ws.length:=Nat.min_eq_left hl
   have hic:icells H ⟨b,0,none⟩ (ws.length*1)=some (u64c ws):=by
    have:=u64c_len ws
    simp [hg,this]
    rw [List.take_of_length_le (by omega)]
   have hpl:(u64c ws).all plain1=true:=by simp [u64c,plain1]
   have hne:u64c ws≠[]:=fun e=>h0 (by rw [←u64c_len ws,e];rfl)
   refine ⟨H.set sb (.cells (u64c (ws++zs.drop ws.length)) 62 false),?_,rfl,fun x hx=>by rw [IH.get_set,if_neg hx],by rw [IH.get_set,if_pos rfl]⟩
   have hput:iput H ⟨sb,0,none⟩ (u64c ws)=some (H.set sb (.cells (u64c (ws++zs.drop ws.length)) 62 false)):=by
    have e:overlay (u64c zs) 0 (u64c ws)=u64c (ws++zs.drop ws.length):=by simp [overlay,u64c,List.map_drop]
    rw [iput_eq,hs,putOf_cells,if_pos ⟨by rw [u64c_len,u64c_len];omega,hne,hpl⟩,e]
   simp only [icopy,List.getElem?_toArray,List.getElem?_cons_zero,st_u64.und,st_u64.size,ilenOf,hmin,ifirst,hic,h0,if_false,hput,Option.map_some]
theorem bl_spot (a:Option Addr):ibuild J 135 [(0,.pointer a)]=some (.agg #[.pointer a,.int .i64 0,.int .i64 0]):=by kernel_rfl
theorem bl_frame (a b:Option Addr) (n c:Nat):ibuild J 138 [(0,.agg #[.pointer a,.int .i64 0,.int .i64 0]),(1,.slice b n c)]=some (.agg #[.pointer a,.int .i64 0,.int .i64 0,.slice b n c]):=by kernel_rfl
theorem bs_frames (H:IH) (a:Option Addr):ibuildSlice J 82 1 [(0,.pointer a)] H=some (.slice (some ⟨H.next,0,none⟩) 1 1,H.push (.cells [.pointer a] 131 false)):=by kernel_rfl
theorem app_fr {H:IH} {v:Value} {l:List Nat} (h:FvAt H v l) (hb:∀x∈bOf v,x<H.next) (hl:l.length≤40000) (fb:Nat):
  ∃H' cs,iappend J #[82,82] v (.slice (some ⟨H.next,0,none⟩) 1 1) (H.push (.cells [ptrV fb] 131 false))=some (.slice (some ⟨H.next+1,0,none⟩) (l.length+1) capU,H')∧H'.next=H.next+2∧(∀x,x<H.next→x ∉ bOf v→H'.get x=H.get x)∧
   H'.get (H.next+1)=some (.cells cs 131 false)∧l.length+1≤cs.length∧cs.take (l.length+1)=l.reverse.map ptrV++[ptrV fb]:=by
 have h1:icells (H.push (.cells [ptrV fb] 131 false)) ⟨H.next,0,none⟩ (1*1)=some [ptrV fb]:=by simp [IH.get_push]
 have hn:(H.push (.cells [ptrV fb] 131 false)).next=H.next+1:=by simp
 rcases h with ⟨rfl,rfl⟩|⟨b,cs,rfl,b4,b5,b6⟩
 ·have:=app_nil st_frame (c:=1) h1 (by simp) (by omega) (by omega)
  rw [hn] at this
  refine ⟨_,[ptrV fb],this,by simp,fun x hx _=>by rw [IH.get_push_other _ _ _ (by simp;omega),IH.get_push_other _ _ _ hx],?_,by simp,by simp⟩
  rw [show H.next+1=(H.push (.cells [ptrV fb] 131 false)).next by simp,IH.get_push_same]
 ·have b2:b<H.next:=hb b (by simp [bOf])
  have hg:(H.push (.cells [ptrV fb] 131 false)).get b=some (.cells cs 131 false):=by rw [IH.get_push_other _ _ _ b2];exact b4
  have:=app_some st_frame (c:=1) (len:=l.length) h1 (by simp) (by omega) (by omega) hg (by omega) (by simp [plain1,ptrV])
  rw [hn] at this
  refine ⟨_,cs.take (l.length*1)++[ptrV fb],this,by simp,fun x hx hm=>?_,?_,by simp;omega,?_⟩
  ·rw [IH.get_push_other _ _ _ (by simp;omega),IH.get_set,if_neg (fun e=>hm (by simp [bOf,e])),IH.get_push_other _ _ _ hx]
  ·rw [show H.next+1=((H.push (.cells [ptrV fb] 131 false)).set b .dead).next by simp,IH.get_push_same]
  ·rw [Nat.mul_one,b6,List.take_of_length_le (by simp)]
theorem m_call (h:VmAt H lo im A σ) (fi:Int) {u:Value} {args:List Nat} (hu:ArgAt H u args) (hwlt:∀w∈args,w<18446744073709551616):Out lo im H A (cal J okAll 65 #[ptrV A.p,.int .i64 fi,u] H) UnitV (vCall im fi args σ):=by
 intro r σ' hx
 rw [cal65 _ _ (by simp)]
 have ho:=h.obj
 obtain ⟨hmp,iu,pr,hgi,hiv⟩:=h.img
 obtain ⟨fa,fc,hfv,hfl⟩:=id hiv.funcs
 have hm1:=c_must (H:=H) (ptrV A.p) true
 have hm2:=c_must (H:=H) (ptrV A.p) false
 obtain ⟨ua,uc,hua⟩:∃ua uc,u=.slice ua args.length uc:=by
  rcases hu with ⟨rfl,rfl⟩|⟨b,c,rfl,_⟩
  ·exact ⟨none,0,rfl⟩
  ·exact ⟨_,c,rfl⟩
 simp only [ptrV] at hm1 hm2
 simp only [VA.cells,ptrV] at ho
 simp only [ImV.cells,hfv] at hgi
 unfold vCall at hx
 rcases VM.bind_cases hx with ⟨_,σ1,x0,hx2⟩|⟨k,x0,rfl⟩
 ·obtain ⟨rfl,x1⟩:=vMust_cases x0
  rcases x1 with ⟨x1,_⟩|⟨_,x1⟩
  ·simp only [Bool.and_eq_true,decide_eq_true_eq] at x1
   obtain ⟨y1,y2⟩:=x1
   rcases VM.bind_cases hx2 with ⟨x,σ2,x3,hx3⟩|⟨k,x3,rfl⟩
   ·have hxe:im.funcs[fi.toNat]?=some x∧σ2=σ1:=by
     unfold VM.of at x3
     cases hz:im.funcs[fi.toNat]? with
     |none=>rw [hz] at x3;simp at x3
     |some z=>
      rw [hz] at x3
      simp only [Option.map_some,Option.some.injEq,Prod.mk.injEq,Except.ok.injEq] at x3
      exact ⟨by rw [x3.1],x3.2.symm⟩
    obtain ⟨hxf,rfl⟩:=hxe
    obtain ⟨pb,po,pc,e1,hpb,hi1,hfn⟩:=hiv.funcs.get hxf
    rw [hfv] at e1
    simp only [Value.slice.injEq] at e1
    obtain ⟨rfl,_,rfl⟩:=e1
    obtain ⟨cs,pr2,vp,vb,g1,g2,g3,g4,g5,g6,g7⟩:=hfn.ex
    obtain ⟨pa,pcc,rfl,_⟩:=id g6
    obtain ⟨ba,bcc,rfl,_⟩:=id g7
    have hlim:=h.imok.funcs x (List.mem_of_getElem? hxf)
    rcases VM.bind_cases hx3 with ⟨_,σ3,x4,hx4⟩|⟨k,x4,rfl⟩
    ·obtain ⟨rfl,x5⟩:=vMust_cases x4
     rcases x5 with ⟨x5,_⟩|⟨_,x5⟩
     ·simp only [Bool.and_eq_true,decide_eq_true_eq] at x5
      obtain ⟨⟨z1,z2⟩,z3⟩:=x5
      have z1d:decide ((args.length:Int)≤x.slots)=true:=decide_eq_true z1
      have z2d:decide ((args.length:Int)=x.params.length)=true:=decide_eq_true (by omega)
      have z3d:decide ((0:Int)<x.blocks.length)=true:=decide_eq_true (by omega)
      have z3':(0:Int)<x.blocks.length:=by omega
      obtain ⟨n,hn⟩:∃n:Nat,x.slots=n:=⟨x.slots.toNat,by omega⟩
      have hlim2:=hlim.slots
      have hfits:=h.ok.fits
      have hst:=h.ok.stack
      have hwd:=h.ok.words
      have hwn:=frWords_nonneg σ3.frames
      have w1:IntKind.i64.wrap (σ3.words+n)=σ3.words+n:=by rw [wrapI];omega
      have w2:IntKind.i64.wrap (σ3.words+n+2)=σ3.words+n+2:=by rw [wrapI];omega
      have w3:IntKind.i64.wrap ((n:Int)+2)=(n:Int)+2:=by rw [wrapI];omega
      have w4:IntKind.i64.wrap (σ3.words+((n:Int)+2))=σ3.words+((n:Int)+2):=by rw [wrapI];omega
      have hen:=c_end (H:=H) (ptrV A.p) 5
      simp only [ptrV] at hen
      rw [hn] at g4 z1d
      have z1n:args.length≤n:=by omega
      have z2n:x.params.length=args.length:=by omega
      have hpb2:pb≠A.p:=fun e=>by have:=(h.own A.p (by simp [VA.own])).1;omega
      have hmp2:A.mp≠A.p:=fun e=>by have:=(h.own A.p (by simp [VA.own])).1;omega
      rcases VM.bind_cases hx4 with ⟨full,σ4,x7,hx5⟩|⟨k,x7,_⟩
      ·simp only [VM.get,Option.some.injEq,Prod.mk.injEq,Except.ok.injEq] at x7
       obtain ⟨x7,rfl⟩:=x7
       cases full with
       |true=>
        rw [hn] at x7
        simp only [if_true,vEnd,Option.some.injEq,Prod.mk.injEq] at hx5
        obtain ⟨rfl,rfl⟩:=hx5
        refine ⟨H,A,.pan (overV 5),?_,h,.refl _ _,rfl⟩
        simp [C65,regsOf,fin,iresult1,ptrV,y1,y2,hm1,hm2,ho,hgi,iindexAddr,g1,g2,g4,g5,hua,z1n,z2n,z3,z3d,z3',w1,w2,x7,hen]
       |false=>
        rw [hn] at x7
        simp only [Bool.false_eq_true,if_false,VM.upd,Option.some.injEq,Prod.mk.injEq] at hx5
        obtain ⟨rfl,rfl⟩:=hx5
        obtain ⟨H1,hH1⟩:∃H1,H1=H.set A.p (.cells [.pointer (some ⟨A.mp,0,none⟩),A.iv,.int .i64 σ3.fuel,.int .i64 σ3.heap,.int .i64 σ3.stack,A.cv,.pointer (some ⟨A.hp.p,0,none⟩),A.fv,.int .i64 (σ3.words+((n:Int)+2)),.int .i64 (σ3.inn:Int),.int .i64 (σ3.made:Int),.int .i64 0,A.ov,.string σ3.exn,.int .i64 (σ3.steps:Int),.int .i64 (σ3.swept:Int)] 84 false):=⟨_,rfl⟩
        have n1:H1.next=H.next:=by rw [hH1];rfl
        have m1:=mk_u64 H1 n (by omega)
        obtain ⟨H2,hH2⟩:∃H2,H2=H1.push (.cells (u64c (List.replicate n 0)) 62 false):=⟨_,rfl⟩
        have n2:H2.next=H.next+1:=by rw [hH2];simp [n1]
        obtain ⟨H3,hH3⟩:∃H3,H3=H2.push (.cells [.pointer (some ⟨pb,po+fi.toNat*4,none⟩),.int .i64 0,.int .i64 0,.slice (some ⟨H.next,0,none⟩) n n] 138 false):=⟨_,rfl⟩
        have n3:H3.next=H.next+2:=by rw [hH3];simp [n2]
        rw [←hH2,n1] at m1
        have old:∀y,y<H.next→y≠A.p→H3.get y=H.get y:=by
         intro y hy hne
         rw [hH3,IH.get_push_other _ _ _ (by omega),hH2,IH.get_push_other _ _ _ (by omega),hH1,IH.get_set,if_neg hne]
        have k1:H3.get (H.next+1)=some (.cells [.pointer (some ⟨pb,po+fi.toNat*4,none⟩),.int .i64 0,.int .i64 0,.slice (some ⟨H.next,0,none⟩) n n] 138 false):=by rw [←n2,hH3,IH.get_push_same]
        have k2:H3.get H.next=some (.cells (u64c (List.replicate n 0)) 62 false):=by rw [hH3,IH.get_push_other _ _ _ (by omega),hH2,←n1,IH.get_push_same]
        have hg1b:H1.get pb=some (.cells cs 59 pr2):=by rw [hH1,IH.get_set,if_neg hpb2];exact g1
        have hu3:ArgAt H3 u args:=by
         rcases hu with hu|⟨b,c,v1,v2,v3⟩
         ·exact .inl hu
         ·exact .inr ⟨b,c,v1,by omega,(old b v2 (fun e=>by rw [e,h.obj] at v3;simp at v3)).trans v3⟩
        obtain ⟨H4,cp1,cp2,cp3,cp4⟩:=cp_u64 (n:=n) (c:=n) hu3 k2 (by simp) z1n
        rw [hua] at cp1
        simp [C65,regsOf,fin,iresult1,ptrV,y1,y2,hm1,hm2,ho,hgi,iindexAddr,g1,g2,g4,g5,hua,z1n,z2n,z3,z3d,z3',w1,w2,w3,w4,x7,hen,istore,Value.cells,plain1,overlay,hpb2,hmp2,←hH1,hg1b,m1,iparts,bl_spot,bl_frame,inew,n2,←hH3,k1,cp1]
        generalize hX:run J okAll (.loop L65_0) _ _=X
        obtain ⟨T1,hT,a0,a7,a8⟩:∃T1,run J okAll (.loop L65_0) T1 H4=X∧T1.at 0=ptrV A.p∧T1.at 7=ptrV (H.next+1)∧T1.at 8=.int .i64 ((args.length+0:Nat):Int):=⟨_,hX,by simp [ptrV],by simp [ptrV],by simp⟩
        have k3:H4.get (H.next+1)=some (.cells [.pointer (some ⟨pb,po+fi.toNat*4,none⟩),.int .i64 0,.int .i64 0,.slice (some ⟨H.next,0,none⟩) n n] 138 false):=by rw [cp3 _ (by omega)];exact k1
        obtain ⟨T2,H5,l1,l2,l3,l4,l5⟩:=loop65 H4 (H.next+1) H.next _ _ _ args n (by omega) (fun t=>T1.at t) (by omega) k3 a7 (n-args.length) 0 T1 H4 (by omega) rfl (fun _ _=>rfl) (by rw [cp4];simp) (fun t ht=>rfl) a8
        have l1:=hT.symm.trans l1
        subst l1
        have b0:=(l5 0 (by omega)).trans a0
        have b7:=(l5 7 (by omega)).trans a7
        have n5:H5.next=H.next+2:=by rw [l2,cp2,n3]
        have old5:∀y,y<H.next→y≠A.p→H5.get y=H.get y:=fun y hy hne=>by rw [l3 y (by omega),cp3 y (by omega)];exact old y hy hne
        have p5:H5.get A.p=H1.get A.p:=by
         have hpn:=(h.own A.p (by simp [VA.own])).2
         rw [l3 _ (by omega),cp3 _ (by omega),hH3,IH.get_push_other _ _ _ (by omega),hH2,IH.get_push_other _ _ _ (by omega)]
        have hpn:=(h.own A.p (by simp [VA.own])).2
        have hfv5:FvAt H5 A.fv (A.fr.map (·.1)):=FvAt.same h.fv fun z hm=>old5 z (h.own z (by simp [VA.own,hm])).2 (fun e=>by
         have h1:=h.nd
         rw [VA.own,List.nodup_cons] at h1
         exact h1.1 (by simp [←e,hm]))
        have hfl2:=h.frlen
        have hfll:=h.frs.len
        obtain ⟨H6,cs6,q1,q2,q3,q4,q5,q6⟩:=app_fr hfv5 (fun z hm=>by have:=(h.own z (by simp [VA.own,hm])).2;omega) (by simp;omega) (H.next+1)
        rw [n5] at q1 q2 q3 q4
        rw [hH1,IH.get_set,if_pos rfl] at p5
        simp only [ptrV] at b0 b7
        have hpf:A.p ∉ bOf A.fv:=fun hm=>by
         have h1:=h.nd
         rw [VA.own,List.nodup_cons] at h1
         exact h1.1 (by simp [hm])
        have p6:=(q3 A.p (by omega) hpf).trans p5
        simp only [ptrV] at q1
        simp [regsOf,fin,iresult1,b0,b7,p5,iparts,bs_frames,n5,q1,p6,istore,Value.cells,plain1,overlay]
        have hbf:∀y,H.next≤y→y ∉ bOf A.fv:=fun y hy hm=>by have:=(h.own y (by simp [VA.own,hm])).2;omega
        have hsl:(x.frame args).slots.length=n:=by simp [Fn.frame,hn];omega
        have e1:H6.get (H.next+1)=some (.cells [.pointer (some ⟨pb,po+fi.toNat*4,none⟩),.int .i64 0,.int .i64 0,.slice (some ⟨H.next,0,none⟩) n n] 138 false):=by
         rw [q3 _ (by omega) (hbf _ (by omega)),l3 _ (by omega)];exact k3
        have e2:H6.get H.next=some (.cells (u64c (x.frame args).slots) 62 false):=by
         rw [q3 _ (by omega) (hbf _ (by omega)),l4];simp [Fn.frame,hn]
        have old6:∀y,y<H.next→y≠A.p→y ∉ bOf A.fv→(H6.set A.p (.cells (({ A with fv:=.slice (some ⟨H.next+2+1,0,none⟩) (A.fr.length+1) capU,fr:=(H.next+1,H.next)::A.fr }:VA).cells { σ3 with words:=σ3.words+((n:Int)+2),frames:=x.frame args::σ3.frames }) 84 false)).get y=H.get y:=fun y hy hne hm=>by
         rw [IH.get_set,if_neg hne,q3 y (by omega) hm];exact old5 y hy hne
        have hlo:=h.lo
        have hpo:=(h.own A.p (by simp [VA.own])).1
        obtain ⟨u1,u2⟩:=h.pushFrame (f:=x.frame args) (fb:=H.next+1) (sb:=H.next) (nfb:=H.next+2+1) (w:=σ3.words+((n:Int)+2)) (H':=H6.set A.p (.cells (({ A with fv:=.slice (some ⟨H.next+2+1,0,none⟩) (A.fr.length+1) capU,fr:=(H.next+1,H.next)::A.fr }:VA).cells { σ3 with words:=σ3.words+((n:Int)+2),frames:=x.frame args::σ3.frames }) 84 false))
         (by simp;omega) old6 rfl rfl (by rw [IH.get_set,if_pos rfl])
         ⟨⟨pb,po+fi.toNat*4,hpb,FnAt.same hfn (fun z hz=>old6 z (by omega) (fun e=>by omega) (fun hm=>by have:=(h.own z (by simp [VA.own,hm])).1;omega)) hpb,by rw [IH.get_set,if_neg (by simp;omega),hsl];exact e1⟩,
          by rw [IH.get_set,if_neg (by simp;omega)];exact e2,fun w hw=>by
           rcases List.mem_append.1 hw with hw|hw
           ·exact hwlt w hw
           ·rw [List.eq_of_mem_replicate hw];decide,by rw [hsl];exact hn.symm,hlim,by simp [Fn.frame]⟩
         (by rw [IH.get_set,if_neg (by omega)];exact q4) (by simpa using q5) (by simpa using q6) (by simp;omega) (by simp;omega) (by simp;omega) (by omega) (by omega) (by omega)
         ⟨by simp only [frWords,hsl];omega,h.ok.stack,by simp only [decide_eq_false_iff_not] at x7;simp only;omega,h.ok.fuel,h.ok.steps,h.ok.made,h.ok.swept,h.ok.out,h.ok.inn⟩
        rw [hn]
        exact ⟨_,_,_,⟨rfl,rfl⟩,u1,u2,⟨_,rfl,rfl⟩⟩
      ·simp [VM.get] at x7
     ·simp at x5
    ·obtain ⟨rfl,x5⟩:=vMust_cases x4
     rcases x5 with ⟨_,x5⟩|⟨x5,x6⟩
     ·simp at x5
     ·simp only [Except.error.injEq] at x6
      subst x6
      refine ⟨H,A,.pan (overV 6),?_,h,.refl _ _,rfl⟩
      have ea:decide ((args.length:Int)=x.params.length)=decide (args.length=x.params.length):=by rw [decide_eq_decide];omega
      have eb:decide ((0:Int)<x.blocks.length)=decide (0<x.blocks.length):=by rw [decide_eq_decide];omega
      cases z1:decide ((args.length:Int)≤x.slots) with
      |false=>simp [C65,regsOf,fin,iresult1,ptrV,y1,y2,hm1,hm2,ho,hgi,iindexAddr,g1,g2,g4,hua,z1]
      |true=>
       cases z2:decide (args.length=x.params.length) with
       |false=>simp [C65,regsOf,fin,iresult1,ptrV,y1,y2,hm1,hm2,ho,hgi,iindexAddr,g1,g2,g4,hua,z1,ea,z2]
       |true=>
        cases z3:decide (0<x.blocks.length) with
        |false=>simp [C65,regsOf,fin,iresult1,ptrV,y1,y2,hm1,hm2,ho,hgi,iindexAddr,g1,g2,g4,g5,hua,z1,ea,z2,eb,z3]
        |true=>rw [z1,z2,z3] at x5;simp at x5
   ·unfold VM.of at x3
    cases hz:im.funcs[fi.toNat]? with
    |none=>rw [hz] at x3;simp at x3
    |some z=>rw [hz] at x3;simp at x3
  ·simp at x1
 ·obtain ⟨rfl,x1⟩:=vMust_cases x0
  rcases x1 with ⟨_,x1⟩|⟨x1,x2⟩
  ·simp at x1
  ·simp only [Except.error.injEq] at x2
   subst x2
   refine ⟨H,A,.pan (overV 6),?_,h,.refl _ _,rfl⟩
   cases y1:decide (0≤fi) with
   |false=>simp [C65,regsOf,fin,iresult1,ptrV,y1,hm2]
   |true=>
    cases y2:decide (fi<im.funcs.length) with
    |false=>simp [C65,regsOf,fin,iresult1,ptrV,y1,y2,hm2,ho,hgi]
    |true=>rw [y1,y2] at x1;simp at x1
end
def vIndex (n:Int):Int:=if n<0∨65536<n then -1 else n
def primF (k a b:Int):Option (Int×Bool):=
 if k=1 then some (wWrap (a+b),true) else if k=2 then some (wWrap (a-b),true) else if k=3 then some (wWrap (a*b),true)
 else if k=4 then some ((wDiv a b).getD 0,(wDiv a b).isSome) else if k=5 then some ((wMod a b).getD 0,(wMod a b).isSome)
 else if k=6 then some (if a<b then 1 else 0,true) else if k=7 then some (if a≤b then 1 else 0,true) else if k=8 then some (if a=b then 1 else 0,true)
 else none
def vPrim (x:Ins):VM (Int×Bool):=do
 let a ←vNumber x.a
 let b ←vNumber x.b
 match primF x.n a b with
 |some p=>VM.ret p
 |none=>vEnd 6
section
variable {H:IH} {lo:Nat} {im:Img} {A A':VA} {σ σ':Mst}
theorem c_index (n:Int):cal J okAll 170 #[.int .i64 n] H=some (.ret (.int .i64 (vIndex n)),H):=by
 rw [cal170 _ _ (by simp)]
 unfold vIndex
 cases b1:decide (n<0) with
 |true=>
  have:n<0:=by simpa using b1
  simp [C170,regsOf,fin,iresult1,b1,this]
 |false=>
  have:¬n<0:=by simpa using b1
  cases b2:decide (65536<n) with
  |true=>
   have:65536<n:=by simpa using b2
   simp [C170,regsOf,fin,iresult1,b1,b2,this]
  |false=>
   have:¬65536<n:=by simpa using b2
   simp only [*]
   simp [C170,regsOf,fin,iresult1,b1,b2]
theorem pairV_eq (r:Option Int):pairV r=.tuple #[.int .i64 (r.getD 0),.bool r.isSome]:=by cases r<;>rfl
theorem m_prim (h:VmAt H lo im A σ) {b o:Nat} {x:Ins} (hx:InsAt H lo b o x) {r:Except Int (Int×Bool)} (hr:vPrim x σ=some (r,σ')):
  σ'=σ∧((∃p,r=.ok p∧ -9223372036854775808≤p.1∧p.1≤9223372036854775807∧cal J okAll 107 #[ptrV A.p,.pointer (some ⟨b,o,none⟩)] H=some (.ret (.tuple #[.int .i64 p.1,.bool p.2]),H))∨(r=.error 6∧cal J okAll 107 #[ptrV A.p,.pointer (some ⟨b,o,none⟩)] H=some (.pan (overV 6),H))):=by
 obtain ⟨cs,pr,vl,vm,vv,g0,g1,g2,g3,g4,g5,g6,g7,g8,g9,g10,g11,g12⟩:=hx.ex
 rw [cal107 _ _ (by simp)]
 unfold vPrim at hr
 rcases VM.bind_cases hr with ⟨na,σ1,y1,hr2⟩|⟨k,y1,rfl⟩
 ·obtain ⟨rfl,y2⟩:=m_number h _ y1
  rcases y2 with ⟨na',y2,y3,y3',y4⟩|⟨y2,_⟩
  ·simp only [Except.ok.injEq] at y2
   subst y2
   rcases VM.bind_cases hr2 with ⟨nb,σ2,z1,hr3⟩|⟨k,z1,rfl⟩
   ·obtain ⟨rfl,z2⟩:=m_number h _ z1
    rcases z2 with ⟨nb',z2,z3,z3',z4⟩|⟨z2,_⟩
    ·simp only [Except.ok.injEq] at z2
     subst z2
     simp only [ptrV] at y4 z4
     have hen:=c_end (H:=H) (ptrV A.p) 6
     simp only [ptrV] at hen
     have rw1:=fun n=>wWrap_range n
     by_cases k1:x.n=1
     ·rw [k1] at g6 hr3
      simp only [primF,if_true,Int.reduceEq,if_false,VM.ret,Option.some.injEq,Prod.mk.injEq] at hr3
      obtain ⟨rfl,rfl⟩:=hr3
      have hc:=c_Add H na nb
      refine ⟨rfl,.inl ⟨_,rfl,by have:=rw1 (na+nb);simp only;omega,by have:=rw1 (na+nb);simp only;omega,?_⟩⟩
      simp [C107,regsOf,fin,iresult1,ptrV,g0,g3,g4,g6,y4,z4,hc]
     ·by_cases k2:x.n=2
      ·rw [k2] at g6 hr3
       simp only [primF,if_true,Int.reduceEq,if_false,VM.ret,Option.some.injEq,Prod.mk.injEq] at hr3
       obtain ⟨rfl,rfl⟩:=hr3
       have hc:=c_Sub H na nb
       refine ⟨rfl,.inl ⟨_,rfl,by have:=rw1 (na-nb);simp only;omega,by have:=rw1 (na-nb);simp only;omega,?_⟩⟩
       simp [C107,regsOf,fin,iresult1,ptrV,g0,g3,g4,g6,y4,z4,hc]
      ·by_cases k3:x.n=3
       ·rw [k3] at g6 hr3
        simp only [primF,if_true,Int.reduceEq,if_false,VM.ret,Option.some.injEq,Prod.mk.injEq] at hr3
        obtain ⟨rfl,rfl⟩:=hr3
        have hc:=c_Mul H na nb
        refine ⟨rfl,.inl ⟨_,rfl,by have:=rw1 (na*nb);simp only;omega,by have:=rw1 (na*nb);simp only;omega,?_⟩⟩
        simp [C107,regsOf,fin,iresult1,ptrV,g0,g3,g4,g6,y4,z4,hc]
       ·by_cases k4:x.n=4
        ·rw [k4] at g6 hr3
         simp only [primF,if_true,Int.reduceEq,if_false,VM.ret,Option.some.injEq,Prod.mk.injEq] at hr3
         obtain ⟨rfl,rfl⟩:=hr3
         have hc:=c_Div H na nb
         rw [pairV_eq] at hc
         refine ⟨rfl,.inl ⟨_,rfl,by unfold wDiv;split<;>simp only [Option.getD_none,Option.getD_some]<;>first|omega|(have:=rw1 (na.fdiv nb);omega),by unfold wDiv;split<;>simp only [Option.getD_none,Option.getD_some]<;>first|omega|(have:=rw1 (na.fdiv nb);omega),?_⟩⟩
         simp [C107,regsOf,fin,iresult1,ptrV,g0,g3,g4,g6,y4,z4,hc]
        ·by_cases k5:x.n=5
         ·rw [k5] at g6 hr3
          simp only [primF,if_true,Int.reduceEq,if_false,VM.ret,Option.some.injEq,Prod.mk.injEq] at hr3
          obtain ⟨rfl,rfl⟩:=hr3
          have hc:=c_Mod H na nb (by omega)
          rw [pairV_eq] at hc
          refine ⟨rfl,.inl ⟨_,rfl,by unfold wMod;split<;>simp only [Option.getD_none,Option.getD_some]<;>first|omega|(have:=rw1 (na.fmod nb);omega),by unfold wMod;split<;>simp only [Option.getD_none,Option.getD_some]<;>first|omega|(have:=rw1 (na.fmod nb);omega),?_⟩⟩
          simp [C107,regsOf,fin,iresult1,ptrV,g0,g3,g4,g6,y4,z4,hc]
         ·by_cases k6:x.n=6
          ·rw [k6] at g6 hr3
           simp only [primF,if_true,Int.reduceEq,if_false,VM.ret,Option.some.injEq,Prod.mk.injEq] at hr3
           obtain ⟨rfl,rfl⟩:=hr3
           refine ⟨rfl,.inl ⟨_,rfl,by simp only;split<;>omega,by simp only;split<;>omega,?_⟩⟩
           cases hc:decide (na<nb) with
           |true=>
            have hc':na<nb:=by simpa using hc
            simp [C107,regsOf,fin,iresult1,ptrV,g0,g3,g4,g6,y4,z4,hc,hc']
           |false=>
            have hc':¬na<nb:=by simpa using hc
            simp [C107,regsOf,fin,iresult1,ptrV,g0,g3,g4,g6,y4,z4,hc,hc']
          ·by_cases k7:x.n=7
           ·rw [k7] at g6 hr3
            simp only [primF,if_true,Int.reduceEq,if_false,VM.ret,Option.some.injEq,Prod.mk.injEq] at hr3
            obtain ⟨rfl,rfl⟩:=hr3
            refine ⟨rfl,.inl ⟨_,rfl,by simp only;split<;>omega,by simp only;split<;>omega,?_⟩⟩
            cases hc:decide (na≤nb) with
            |true=>
             have hc':na≤nb:=by simpa using hc
             simp [C107,regsOf,fin,iresult1,ptrV,g0,g3,g4,g6,y4,z4,hc,hc']
            |false=>
             have hc':¬na≤nb:=by simpa using hc
             simp [C107,regsOf,fin,iresult1,ptrV,g0,g3,g4,g6,y4,z4,hc,hc']
           ·by_cases k8:x.n=8
            ·rw [k8] at g6 hr3
             simp only [primF,if_true,Int.reduceEq,if_false,VM.ret,Option.some.injEq,Prod.mk.injEq] at hr3
             obtain ⟨rfl,rfl⟩:=hr3
             refine ⟨rfl,.inl ⟨_,rfl,by simp only;split<;>omega,by simp only;split<;>omega,?_⟩⟩
             cases hc:decide (na=nb) with
             |true=>
              have hc':na=nb:=by simpa using hc
              simp [C107,regsOf,fin,iresult1,ptrV,g0,g3,g4,g6,y4,z4,hc,hc']
             |false=>
              have hc':¬na=nb:=by simpa using hc
              simp [C107,regsOf,fin,iresult1,ptrV,g0,g3,g4,g6,y4,z4,hc,hc']
            ·have hp:primF x.n na nb=none:=by simp only [primF,k1,k2,k3,k4,k5,k6,k7,k8,if_false]
             rw [hp] at hr3
             simp only [vEnd,Option.some.injEq,Prod.mk.injEq] at hr3
             obtain ⟨rfl,rfl⟩:=hr3
             refine ⟨rfl,.inr ⟨rfl,?_⟩⟩
             simp [C107,regsOf,fin,iresult1,ptrV,g0,g3,g4,g6,y4,z4,k1,k2,k3,k4,k5,k6,k7,k8,hen]
    ·simp at z2
   ·obtain ⟨rfl,z2⟩:=m_number h _ z1
    rcases z2 with ⟨_,z2,_⟩|⟨z2,z4⟩
    ·simp at z2
    ·simp only [Except.error.injEq] at z2
     subst z2
     simp only [ptrV] at y4 z4
     refine ⟨rfl,.inr ⟨rfl,?_⟩⟩
     simp [C107,regsOf,fin,iresult1,ptrV,g0,g3,g4,y4,z4]
  ·simp at y2
 ·obtain ⟨rfl,y2⟩:=m_number h _ y1
  rcases y2 with ⟨_,y2,_⟩|⟨y2,y4⟩
  ·simp at y2
  ·simp only [Except.error.injEq] at y2
   subst y2
   simp only [ptrV] at y4
   refine ⟨rfl,.inr ⟨rfl,?_⟩⟩
   simp [C107,regsOf,fin,iresult1,ptrV,g0,g3,g4,y4]
end
def nameF (im:Img) (hp:Hp) (w:Nat):Option ByteArray:=
 if wIsImm w=true then some (if 0≤wInt w∧wInt w<im.names.length then (im.names[(wInt w).toNat]?).getD ⟨#[]⟩ else ⟨#[]⟩)
 else (im.shapes[if hp.is (wAt w)=true then wShape (hp.w (wAt w)) else 0]?).map (·.name)
def vThrowN (im:Img) (w:Nat):Nat→VM Unit
 |0=>VM.fail
 |n+1=>do
  vPop
  let e ←VM.get fun σ=>σ.frames.isEmpty
  if e then do
   let nm ←VM.of fun σ=>nameF im σ.hp w
   VM.upd fun σ=>{ σ with exn:=nm }
   vEnd 2
  else do
   let f ←vTop
   let x ←VM.of fun _=>pend f
   if x.b= -1 then vThrowN im w n
   else do
    vSet x.c w
    vJump x.b
def vThrow (im:Img) (w:Nat):VM Unit:=fun σ=>vThrowN im w σ.frames.length σ
theorem VM.of_cases {α:Type} {f:Mst→Option α} {σ σ':Mst} {r:Except Int α} (h:VM.of f σ=some (r,σ')):∃a,f σ=some a∧r=.ok a∧σ'=σ:=by
 unfold VM.of at h
 cases hz:f σ with
 |none=>rw [hz] at h;simp at h
 |some z=>rw [hz] at h;simp at h;exact ⟨z,rfl,h.1.symm,h.2.symm⟩
theorem VM.get_cases {α:Type} {f:Mst→α} {σ σ':Mst} {r:Except Int α} (h:VM.get f σ=some (r,σ')):r=.ok (f σ)∧σ'=σ:=by
 simp only [VM.get,Option.some.injEq,Prod.mk.injEq] at h
 exact ⟨h.1.symm,h.2.symm⟩
section
variable {H:IH} {lo:Nat} {im:Img} {A A':VA} {σ σ':Mst}
theorem VmAt.scal (h:VmAt H lo im A σ) (hσ:σ'.hp=σ.hp∧σ'.input=σ.input∧σ'.collect=σ.collect) (hf:σ'.frames=σ.frames) (hout:σ'.out=σ.out) (hok:MOk σ'):
  VmAt (H.set A.p (.cells (A.cells σ') 84 false)) lo im A σ'∧Nx H A (H.set A.p (.cells (A.cells σ') 84 false)) A:=
 ⟨h.setP ⟨rfl,rfl,rfl,rfl,rfl⟩ hσ rfl (fun _ hx=>hx) h.nd (by rw [hf];exact h.frs) h.fv (by rw [hout];exact h.ov) hok,rfl,(Fx.refl _ _).set (.inl (by simp [VA.own])) _,fun x hx=>.inl hx⟩
theorem VmAt.fvlen (h:VmAt H lo im A σ):∃a c,A.fv=.slice a σ.frames.length c:=by
 have hl:=h.frs.len
 rcases h.fv with ⟨h1,h2⟩|⟨b,cs,h1,_⟩
 ·have:A.fr.length=0:=by simpa using congrArg List.length h2
  exact ⟨none,0,by rw [h1,←hl,this]⟩
 ·exact ⟨some ⟨b,0,none⟩,capU,by rw [h1,←hl];simp⟩
theorem c_name (h:VmAt H lo im A σ) {w:Nat} (hw:w<18446744073709551616) {nm:ByteArray} (hn:nameF im σ.hp w=some nm):cal J okAll 164 #[ptrV A.p,.int .u64 w] H=some (.ret (.string nm),H):=by
 rw [cal164 _ _ (by simp)]
 have ho:=h.obj
 obtain ⟨hmp,iu,pr,hgi,hiv⟩:=h.img
 have hi:=c_IsImm H w hw
 have hn2:=c_Int H w hw
 have ha:=c_At H w hw
 obtain ⟨na,nc,hnv,_⟩:=id hiv.names
 obtain ⟨sa,sc,hsv,_⟩:=id hiv.shapes
 simp only [VA.cells,ptrV] at ho
 simp only [ImV.cells,hnv,hsv] at hgi
 unfold nameF at hn
 cases hb:wIsImm w with
 |true=>
  rw [hb] at hi hn
  simp only [if_true,Option.some.injEq] at hn
  cases b1:decide (0≤wInt w) with
  |false=>
   have b1':¬0≤wInt w:=by simpa using b1
   rw [if_neg (fun e=>b1' e.1)] at hn
   subst hn
   simp [C164,regsOf,fin,iresult1,ptrV,hi,hn2,b1]
  |true=>
   have b1':0≤wInt w:=by simpa using b1
   cases b2:decide (wInt w<im.names.length) with
   |false=>
    have b2':¬wInt w<im.names.length:=by simpa using b2
    rw [if_neg (fun e=>b2' e.2)] at hn
    subst hn
    simp [C164,regsOf,fin,iresult1,ptrV,hi,hn2,b1,b2,ho,hgi]
   |true=>
    have b2':wInt w<im.names.length:=by simpa using b2
    rw [if_pos ⟨b1',b2'⟩] at hn
    have hlt:(wInt w).toNat<im.names.length:=by omega
    obtain ⟨b,o,c,e1,e2,e3,e4⟩:=hiv.names.get (List.getElem?_eq_getElem hlt)
    rw [hnv] at e1
    simp only [Value.slice.injEq] at e1
    obtain ⟨rfl,_,rfl⟩:=e1
    obtain ⟨cs,pr2,g1,g2⟩:=e4
    simp only [Nat.mul_one] at g2
    rw [List.getElem?_eq_getElem hlt] at hn
    simp only [Option.getD_some] at hn
    rw [hn] at g2
    simp [C164,regsOf,fin,iresult1,ptrV,hi,hn2,b1,b1',b2,b2',ho,hgi,iindexAddr,g1,g2]
 |false=>
  rw [hb] at hi hn
  simp only [Bool.false_eq_true,if_false] at hn
  have hsh:=c_HShape h.hp (wAt w:Nat)
  obtain ⟨k,hk⟩:∃k,k=if σ.hp.is (wAt w)=true then wShape (σ.hp.w (wAt w)) else 0:=⟨_,rfl⟩
  rw [←hk] at hn
  have hsh2:∃e:Int,cal J okAll 162 #[.pointer (some ⟨A.hp.p,0,none⟩),.int .i64 (wAt w:Nat)] H=some (.ret (.tuple #[.int .i64 (k:Nat),.int .i64 e]),H):=by
   by_cases hc:σ.hp.is (wAt w)=true
   ·rw [if_pos ⟨by omega,by simpa using hc⟩] at hsh
    rw [if_pos hc] at hk
    exact ⟨0,by rw [hsh,hk];simp⟩
   ·rw [if_neg (fun e=>hc (by simpa using e.2))] at hsh
    rw [if_neg hc] at hk
    exact ⟨1,by rw [hsh,hk];simp⟩
  obtain ⟨e,hsh2⟩:=hsh2
  cases hs:im.shapes[k]? with
  |none=>rw [hs] at hn;simp at hn
  |some s=>
   rw [hs] at hn
   simp only [Option.map_some,Option.some.injEq] at hn
   obtain ⟨b,o,c,e1,e2,e3,e4⟩:=hiv.shapes.get hs
   rw [hsv] at e1
   simp only [Value.slice.injEq] at e1
   obtain ⟨rfl,_,rfl⟩:=e1
   obtain ⟨cs,pr2,vf,g1,g2,g3,g4,g5⟩:=e4.ex
   rw [hn] at g4
   simp [C164,regsOf,fin,iresult1,ptrV,hi,ha,ho,hgi,hsh2,iindexAddr,g1,g4,e3]
theorem vSet_frames {i:Int} {w:Nat} {f:Frm} {fs:List Frm} (hf:σ.frames=f::fs) {r:Except Int Unit} (hx:vSet i w σ=some (r,σ')):∃f',σ'.frames=f'::fs∧f'.fn=f.fn∧f'.block=f.block∧f'.at_=f.at_∧f'.slots.length=f.slots.length:=by
 unfold vSet at hx
 cases hb:(decide (0≤i)&&decide (i<f.slots.length)) with
 |false=>
  rw [VM.bind_err (k:=6) (σ1:=σ) (by rw [vSlot_eq hf,hb];rfl)] at hx
  simp only [Option.some.injEq,Prod.mk.injEq] at hx
  obtain ⟨rfl,rfl⟩:=hx
  exact ⟨f,hf,rfl,rfl,rfl,rfl⟩
 |true=>
  rw [VM.bind_ok (a:=i.toNat) (σ1:=σ) (by rw [vSlot_eq hf,hb];rfl)] at hx
  simp only [VM.upd,hf,Option.some.injEq,Prod.mk.injEq] at hx
  obtain ⟨rfl,rfl⟩:=hx
  exact ⟨_,rfl,rfl,rfl,rfl,by simp⟩
theorem jump_mem (h:VmAt H lo im A σ) {f:Frm} {fs:List Frm} (hf:σ.frames=f::fs) {q:Nat×Nat} {l:List (Nat×Nat)} (hq:A.fr=q::l) (b:Int):∃v s,H.get q.1=some (.cells [v,.int .i64 f.block,.int .i64 f.at_,s] 138 false)∧
  VmAt (H.set q.1 (.cells [v,.int .i64 b,.int .i64 0,s] 138 false)) lo im A { σ with frames:={ f with block:=b,at_:=0 }::fs }∧Nx H A (H.set q.1 (.cells [v,.int .i64 b,.int .i64 0,s] 138 false)) A:=by
 obtain ⟨q',l',e1,e2,e3⟩:=h.top hf
 rw [hq] at e1
 simp only [List.cons.injEq] at e1
 obtain ⟨rfl,rfl⟩:=e1
 obtain ⟨pb,po,hpb,hfn,hg⟩:=e2.ex
 have hqo:=(h.own q.1 (by simp [VA.own,hq,frOwn])).1
 have hqq:q.2≠q.1:=fun e=>by have:=e2.slots;rw [e,hg] at this;simp at this
 obtain ⟨u1,u2⟩:=h.setTop hf hq (f':={ f with block:=b,at_:=0 }) (y:=q.1) (x:=.cells [.pointer (some ⟨pb,po,none⟩),.int .i64 b,.int .i64 0,.slice (some ⟨q.2,0,none⟩) f.slots.length f.slots.length] 138 false) (.inl rfl) rfl
  ⟨⟨pb,po,hpb,FnAt.same hfn (fun z hz=>by rw [IH.get_set,if_neg (fun e=>by omega)]) hpb,by rw [IH.get_set,if_pos rfl]⟩,by rw [IH.get_set,if_neg hqq];exact e2.slots,e2.wlt,e2.len,e2.ok,by simp⟩ rfl
 exact ⟨_,_,hg,u1,u2⟩
theorem loop105 (w:Nat) (hw:w<18446744073709551616):∀(n:Nat) (H:IH) (A:VA) (σ σ':Mst) (T:Regs) (r:Except Int Unit),VmAt H lo im A σ→vThrowN im w n σ=some (r,σ')→T.at 0=ptrV A.p→T.at 1=.int .u64 (w:Int)→
  ∃H' A' T',VmAt H' lo im A' σ'∧Nx H A H' A'∧((r=.ok ()∧run J okAll (.loop L105_0) T H=some (.ret,T',H'))∨∃k,r=.error k∧run J okAll (.loop L105_0) T H=some (.pan (overV k),T',H')):=by
 intro n
 induction n with
 |zero=>intro H A σ σ' T r h hx;simp [vThrowN,VM.fail] at hx
 |succ n ih=>
  intro H A σ σ' T r h hx t0 t1
  unfold vThrowN at hx
  rcases VM.bind_cases hx with ⟨_,σ1,y1,hx1⟩|⟨k,y1,rfl⟩
  ·obtain ⟨H1,A1,e,c1,h1,n1,rv1⟩:=m_pop h _ _ y1
   obtain ⟨u,rfl,rfl⟩:=rv1
   have hp1:=n1.p
   simp only [ptrV] at c1 t0
   obtain ⟨fa,fc,hfv⟩:=h1.fvlen
   have ho1:=h1.obj
   simp only [VA.cells,hfv,ptrV,hp1] at ho1
   rcases VM.bind_cases hx1 with ⟨em,σ2,y2,hx2⟩|⟨k,y2,_⟩
   ·simp only [VM.get,Option.some.injEq,Prod.mk.injEq,Except.ok.injEq] at y2
    obtain ⟨y2,rfl⟩:=y2
    cases em with
    |true=>
     simp only [if_true] at hx2
     have hnil:σ1.frames= []:=by simpa using y2
     rcases VM.bind_cases hx2 with ⟨nm,σ3,y3,hx3⟩|⟨k,y3,_⟩
     ·obtain ⟨nm',hnm,e1,rfl⟩:=VM.of_cases y3
      simp only [Except.ok.injEq] at e1
      subst e1
      have cn:=c_name h1 hw hnm
      rw [hp1] at cn
      rw [VM.bind_ok (a:=()) (σ1:={ σ3 with exn:=nm }) rfl] at hx3
      simp only [vEnd,Option.some.injEq,Prod.mk.injEq] at hx3
      obtain ⟨rfl,rfl⟩:=hx3
      obtain ⟨u1,u2⟩:=h1.scal (σ':={ σ3 with exn:=nm }) ⟨rfl,rfl,rfl⟩ rfl rfl ⟨h1.ok.words,h1.ok.stack,h1.ok.fits,h1.ok.fuel,h1.ok.steps,h1.ok.made,h1.ok.swept,h1.ok.out,h1.ok.inn⟩
      have hen:=fun H=>c_end (H:=H) (ptrV A.p) 2
      simp only [ptrV] at cn hen
      simp only [VA.cells,hfv,ptrV,hp1] at u1 u2
      rw [hnil] at ho1 hfv
      obtain ⟨T',key⟩:∃T',run J okAll (.loop L105_0) T H=some (.pan (overV 2),T',H1.set A.p (.cells [.pointer (some ⟨A1.mp,0,none⟩),A1.iv,.int .i64 σ3.fuel,.int .i64 σ3.heap,.int .i64 σ3.stack,A1.cv,.pointer (some ⟨A1.hp.p,0,none⟩),.slice fa σ3.frames.length fc,.int .i64 σ3.words,.int .i64 (σ3.inn:Int),.int .i64 (σ3.made:Int),.int .i64 0,A1.ov,.string nm,.int .i64 (σ3.steps:Int),.int .i64 (σ3.swept:Int)] 84 false)):=by
       rw [r_loop]
       simp [L105_0,t0,t1,c1,ho1,cn,hen,istore,Value.cells,plain1,overlay,hnil]
      exact ⟨_,A1,T',u1,n1.trans u2,.inr ⟨2,rfl,key⟩⟩
     ·obtain ⟨nm',hnm,e1,_⟩:=VM.of_cases y3
      simp at e1
    |false=>
     simp only [Bool.false_eq_true,if_false] at hx2
     cases hf:σ1.frames with
     |nil=>rw [hf] at y2;simp at y2
     |cons f fs=>
      rw [VM.bind_ok (vTop_eq hf)] at hx2
      obtain ⟨q,l,hq,e2,e3⟩:=h1.top hf
      have ct:=c_top h1 hf hq
      rw [hp1] at ct
      rw [hf] at ho1
      rcases VM.bind_cases hx2 with ⟨x,σ3,y3,hx3⟩|⟨k,y3,_⟩
      ·obtain ⟨x',hpd,e4,rfl⟩:=VM.of_cases y3
       simp only [Except.ok.injEq] at e4
       subst e4
       obtain ⟨xb,xo,xlo,xi,cp⟩:=c_pending e2 hpd
       obtain ⟨cs,pr,vl,vm,vv,g0,g1,g2,g3,g4,g5,g6,g7,g8,g9,g10,g11,g12⟩:=xi.ex
       simp only [ptrV] at ct cp
       have hne:¬(fs.length:Int)+1=0:=by omega
       by_cases hb:x.b= -1
       ·rw [if_pos hb] at hx3
        rw [hb] at g4
        obtain ⟨T1,s1,s2,s3⟩:∃T1,run J okAll (.loop L105_0) T H=run J okAll (.loop L105_0) T1 H1∧T1.at 0=ptrV A1.p∧T1.at 1=.int .u64 (w:Int):=by
         rw [r_loop]
         simp [L105_0,t0,t1,c1,ho1,hne,ct,cp,g0,g4]
         exact ⟨_,rfl,by simp [t0,ptrV,hp1],by simp [t1]⟩
        obtain ⟨H2,A2,T2,u1,u2,u3⟩:=ih H1 A1 σ3 σ' T1 r h1 hx3 s2 s3
        rw [s1]
        exact ⟨H2,A2,T2,u1,n1.trans u2,u3⟩
       ·rw [if_neg hb] at hx3
        have hbd:decide (x.b= -1)=false:=decide_eq_false hb
        have xi2:∀{H2:IH} {A2:VA},Nx H1 A1 H2 A2→InsAt H2 lo xb xo x:=fun n=>xi.same (n.same h1) xlo
        rcases VM.bind_cases hx3 with ⟨_,σ4,y4,hx4⟩|⟨k,y4,rfl⟩
        ·obtain ⟨H2,A2,e,c2,h2,n2,rv2⟩:=m_set h1 _ w hw _ _ y4
         obtain ⟨u,rfl,rfl⟩:=rv2
         obtain ⟨cs',pr',vl',vm',vv',g0',g1',g2',g3',g4',_⟩:=(xi2 n2).ex
         obtain ⟨f',hf',_⟩:=vSet_frames hf y4
         obtain ⟨q2,l2,hq2,_,_⟩:=h2.top hf'
         have ct2:=c_top h2 hf' hq2
         obtain ⟨jv,js,jg,ju1,ju2⟩:=jump_mem h2 hf' hq2 x.b
         simp only [vJump,VM.upd,hf',Option.some.injEq,Prod.mk.injEq] at hx4
         obtain ⟨rfl,rfl⟩:=hx4
         have hp2:=n2.p
         have hxq:xb≠q2.1:=fun e=>by have:=(h2.own q2.1 (by simp [VA.own,hq2,frOwn])).1;omega
         simp only [ptrV,hp1] at c2
         simp only [ptrV,hp2,hp1] at ct2
         obtain ⟨T',key⟩:∃T',run J okAll (.loop L105_0) T H=some (.ret,T',H2.set q2.1 (.cells [jv,.int .i64 x.b,.int .i64 0,js] 138 false)):=by
          rw [r_loop]
          simp [L105_0,t0,t1,c1,ho1,hne,ct,cp,g0,g4,hbd,g5,c2,ct2,g0',g4',jg,istore,Value.cells,plain1,overlay]
         exact ⟨_,A2,T',ju1,(n1.trans n2).trans ju2,.inl ⟨rfl,key⟩⟩
        ·obtain ⟨H2,A2,e,c2,h2,n2,rv2⟩:=m_set h1 _ w hw _ _ y4
         have rv2:e=.pan (overV k):=rv2
         subst rv2
         simp only [ptrV,hp1] at c2
         obtain ⟨T',key⟩:∃T',run J okAll (.loop L105_0) T H=some (.pan (overV k),T',H2):=by
          rw [r_loop]
          simp [L105_0,t0,t1,c1,ho1,hne,ct,cp,g0,g4,hbd,g5,c2]
         exact ⟨H2,A2,T',h2,n1.trans n2,.inr ⟨k,rfl,key⟩⟩
      ·obtain ⟨_,_,e1,_⟩:=VM.of_cases y3
       simp at e1
   ·simp [VM.get] at y2
  ·obtain ⟨H1,A1,e,c1,h1,n1,rv1⟩:=m_pop h _ _ y1
   have rv1:e=.pan (overV k):=rv1
   subst rv1
   simp only [ptrV] at c1 t0
   obtain ⟨T',key⟩:∃T',run J okAll (.loop L105_0) T H=some (.pan (overV k),T',H1):=by
    rw [r_loop]
    simp [L105_0,t0,c1]
   exact ⟨H1,A1,T',h1,n1,.inr ⟨k,rfl,key⟩⟩
theorem m_throw (h:VmAt H lo im A σ) (w:Nat) (hw:w<18446744073709551616):Out lo im H A (cal J okAll 105 #[ptrV A.p,.int .u64 w] H) UnitV (vThrow im w σ):=by
 intro r σ' hx
 rw [cal105 _ _ (by simp)]
 simp [C105,regsOf,ptrV]
 generalize hX:run J okAll (.loop L105_0) _ _=X
 obtain ⟨T1,hT,a0,a1⟩:∃T1,run J okAll (.loop L105_0) T1 H=X∧T1.at 0=ptrV A.p∧T1.at 1=.int .u64 (w:Int):=⟨_,hX,by simp [ptrV],by simp⟩
 obtain ⟨H',A',T',u1,u2,u3⟩:=loop105 w hw σ.frames.length H A σ σ' T1 r h hx a0 a1
 rcases u3 with ⟨rfl,u3⟩|⟨k,rfl,u3⟩
 ·have u3:=hT.symm.trans u3
  subst u3
  exact ⟨H',A',.ret (.tuple #[]),by simp [fin,iresult1],u1,u2,⟨_,rfl,rfl⟩⟩
 ·have u3:=hT.symm.trans u3
  subst u3
  exact ⟨H',A',.pan (overV k),by simp [fin,iresult1],u1,u2,rfl⟩
end
structure Rest where
 text:Ins→ByteArray→VM Unit
 bytes:Ins→VM Unit
 fields:Ins→VM Unit
 choose:Ins→VM Unit
def Rest.none:Rest:=⟨fun _ _=>VM.fail,fun _=>VM.fail,fun _=>VM.fail,fun _=>VM.fail⟩
def vLast (R:Rest) (im:Img) (x:Ins):VM Unit:=
 if x.op=18 then vJump x.a
 else if x.op=19 then do
  let n ←vNumber x.a
  if n=0 then vJump x.c else vJump x.b
 else if x.op=20 then R.choose x
 else if x.op=21 then do
  let args ←vRead x.l
  vPop
  vCall im x.a args
 else if x.op=22 then do
  let w ←vGet x.a
  vPop
  let e ←VM.get fun σ=>σ.frames.isEmpty
  if e then vEnd 1
  else do
   let f ←vTop
   let y ←VM.of fun _=>pend f
   vSet y.d w
 else if x.op=23 then do
  let w ←vGet x.a
  vThrow im w
 else vEnd 6
section
variable {H:IH} {lo:Nat} {im:Img} {A A':VA} {σ σ':Mst}
def InsOut (lo:Nat) (im:Img) (f:FuncId) (x:Ins) (m:VM Unit):Prop:=∀(H:IH) (A:VA) (σ:Mst) (b o:Nat),VmAt H lo im A σ→b<lo→InsAt H lo b o x→InsLim x→σ.frames≠[]→σ.out.length<σ.steps∧σ.made<σ.steps∧σ.swept<σ.steps→Out lo im H A (cal J okAll f #[ptrV A.p,.pointer (some ⟨b,o,none⟩)] H) UnitV (m σ)
theorem WsAt.arg {H1 H2:IH} {A2:VA} {u:Value} {ws:List Nat} {n0:Nat} (hw:WsAt H1 n0 u ws) (hown:∀x∈A.own,x<n0) (n:Nx H1 A H2 A2):ArgAt H2 u ws:=by
 rcases hw with hw|⟨b,b1,b2,b3,b4⟩
 ·exact .inl hw
 ·exact .inr ⟨b,capU,b3,Nat.lt_of_lt_of_le b2 n.fx.1,(n.fx.2 b b2 fun hm=>by have:=hown b hm;omega).trans b4⟩
theorem m_last {R:Rest} {x:Ins} (hR:InsOut lo im 99 x (R.choose x)):InsOut lo im 68 x (vLast R im x):=by
 intro H A σ b o h hblo hx hxl hne hst r σ' hr
 obtain ⟨cs,pr,vl,vm,vv,g0,g1,g2,g3,g4,g5,g6,g7,g8,g9,g10,g11,g12⟩:=hx.ex
 rw [cal68 _ _ (by simp)]
 unfold vLast at hr
 by_cases k1:x.op=18
 ·rw [if_pos k1] at hr
  obtain ⟨H1,A1,e,c1,h1,n1,rv1⟩:=m_jump h hne _ _ _ hr
  refine ⟨H1,A1,e,?_,h1,n1,rv1⟩
  rw [k1] at g1
  simp only [ptrV] at c1
  cases r with
  |ok a=>
   obtain ⟨u,rfl,rfl⟩:=rv1
   simp [C68,regsOf,fin,iresult1,ptrV,g0,g1,g3,c1]
  |error k=>
   have rv1:e=.pan (overV k):=rv1
   subst rv1
   simp [C68,regsOf,fin,iresult1,ptrV,g0,g1,g3,c1]
 rw [if_neg k1] at hr
 by_cases k2:x.op=19
 ·rw [if_pos k2] at hr
  rw [k2] at g1
  rcases VM.bind_cases hr with ⟨n,σ1,y1,hr2⟩|⟨k,y1,rfl⟩
  ·obtain ⟨rfl,y2⟩:=m_number h _ y1
   rcases y2 with ⟨n',y2,y3,y3',y4⟩|⟨y2,_⟩
   ·simp only [Except.ok.injEq] at y2
    subst y2
    simp only [ptrV] at y4
    by_cases hn:n=0
    ·rw [if_pos hn] at hr2
     obtain ⟨H1,A1,e,c1,h1,n1,rv1⟩:=m_jump h hne _ _ _ hr2
     refine ⟨H1,A1,e,?_,h1,n1,rv1⟩
     simp only [ptrV] at c1
     rw [hn] at y4
     cases r with
     |ok a=>
      obtain ⟨u,rfl,rfl⟩:=rv1
      simp [C68,regsOf,fin,iresult1,ptrV,g0,g1,g3,g5,y4,c1]
     |error k=>
      have rv1:e=.pan (overV k):=rv1
      subst rv1
      simp [C68,regsOf,fin,iresult1,ptrV,g0,g1,g3,g5,y4,c1]
    ·rw [if_neg hn] at hr2
     obtain ⟨H1,A1,e,c1,h1,n1,rv1⟩:=m_jump h hne _ _ _ hr2
     refine ⟨H1,A1,e,?_,h1,n1,rv1⟩
     simp only [ptrV] at c1
     have hnd:decide (n=0)=false:=decide_eq_false hn
     cases r with
     |ok a=>
      obtain ⟨u,rfl,rfl⟩:=rv1
      simp [C68,regsOf,fin,iresult1,ptrV,g0,g1,g3,g4,y4,c1,hnd]
     |error k=>
      have rv1:e=.pan (overV k):=rv1
      subst rv1
      simp [C68,regsOf,fin,iresult1,ptrV,g0,g1,g3,g4,y4,c1,hnd]
   ·simp at y2
  ·obtain ⟨rfl,y2⟩:=m_number h _ y1
   rcases y2 with ⟨n',y2,_⟩|⟨y2,y4⟩
   ·simp at y2
   ·simp only [Except.error.injEq] at y2
    subst y2
    simp only [ptrV] at y4
    exact ⟨H,A,.pan (overV 6),by simp [C68,regsOf,fin,iresult1,ptrV,g0,g1,g3,y4],h,.refl _ _,rfl⟩
 rw [if_neg k2] at hr
 by_cases k3:x.op=20
 ·rw [if_pos k3] at hr
  rw [k3] at g1
  obtain ⟨H1,A1,e,c1,h1,n1,rv1⟩:=hR H A σ b o h hblo hx hxl hne hst _ _ hr
  refine ⟨H1,A1,e,?_,h1,n1,rv1⟩
  simp only [ptrV] at c1
  cases r with
  |ok a=>
   obtain ⟨u,rfl,rfl⟩:=rv1
   simp [C68,regsOf,fin,iresult1,ptrV,g0,g1,c1]
  |error k=>
   have rv1:e=.pan (overV k):=rv1
   subst rv1
   simp [C68,regsOf,fin,iresult1,ptrV,g0,g1,c1]
 rw [if_neg k3] at hr
 by_cases k4:x.op=21
 ·rw [if_pos k4] at hr
  rw [k4] at g1
  rcases VM.bind_cases hr with ⟨args,σ1,y1,hr2⟩|⟨k,y1,rfl⟩
  ·obtain ⟨rfl,H1,f1,y2⟩:=m_read h g10 (by have:=hxl.l;omega) y1
   rcases y2 with ⟨ws,u,y2,y3,y4,y5⟩|⟨y2,_⟩
   ·simp only [Except.ok.injEq] at y2
    subst y2
    have h1:=h.fr f1
    simp only [ptrV] at y3
    rcases VM.bind_cases hr2 with ⟨_,σ2,z1,hr3⟩|⟨k,z1,rfl⟩
    ·obtain ⟨H2,A2,e2,c2,h2,n2,rv2⟩:=m_pop h1 _ _ z1
     obtain ⟨u2,rfl,rfl⟩:=rv2
     have harg:=y4.arg (fun x hx=>(h.own x hx).2) n2
     obtain ⟨H3,A3,e3,c3,h3,n3,rv3⟩:=m_call h2 x.a harg y5 _ _ hr3
     have hn01:Nx H A H1 A:=⟨rfl,Fx.of_fr f1,fun x hx=>.inl hx⟩
     obtain ⟨cs',pr',vl',vm',vv',g0',g1',g2',g3',_⟩:=(hx.same (hn01.same h) hblo).ex
     obtain ⟨cs3,pr3,vl3,vm3,vv3,q0,q1,q2,q3,_⟩:=(hx.same ((hn01.trans n2).same h) hblo).ex
     have hp2:=n2.p
     simp only [ptrV,hp2] at c2 c3
     refine ⟨H3,A3,e3,?_,h3,(hn01.trans n2).trans n3,rv3⟩
     cases r with
     |ok a=>
      obtain ⟨u3,rfl,rfl⟩:=rv3
      simp [C68,regsOf,fin,iresult1,ptrV,g0,g1,g7,y3,c2,q0,q3,c3]
     |error k=>
      have rv3:e3=.pan (overV k):=rv3
      subst rv3
      simp [C68,regsOf,fin,iresult1,ptrV,g0,g1,g7,y3,c2,q0,q3,c3]
    ·obtain ⟨H2,A2,e2,c2,h2,n2,rv2⟩:=m_pop h1 _ _ z1
     have rv2:e2=.pan (overV k):=rv2
     subst rv2
     have hn01:Nx H A H1 A:=⟨rfl,Fx.of_fr f1,fun x hx=>.inl hx⟩
     simp only [ptrV] at c2
     exact ⟨H2,A2,.pan (overV k),by simp [C68,regsOf,fin,iresult1,ptrV,g0,g1,g7,y3,c2],h2,hn01.trans n2,rfl⟩
   ·simp at y2
  ·obtain ⟨rfl,H1,f1,y2⟩:=m_read h g10 (by have:=hxl.l;omega) y1
   rcases y2 with ⟨ws,u,y2,_⟩|⟨y2,y3⟩
   ·simp at y2
   ·simp only [Except.error.injEq] at y2
    subst y2
    simp only [ptrV] at y3
    exact ⟨H1,A,.pan (overV 6),by simp [C68,regsOf,fin,iresult1,ptrV,g0,g1,g7,y3],h.fr f1,⟨rfl,Fx.of_fr f1,fun x hx=>.inl hx⟩,rfl⟩
 rw [if_neg k4] at hr
 by_cases k5:x.op=22
 ·rw [if_pos k5] at hr
  rw [k5] at g1
  rcases VM.bind_cases hr with ⟨w,σ1,y1,hr2⟩|⟨k,y1,rfl⟩
  ·obtain ⟨rfl,y2⟩:=rd_slot h y1
   rcases y2 with ⟨w',b2,o2,y2,y3,y4,y5⟩|⟨y2,_⟩
   ·simp only [Except.ok.injEq] at y2
    subst y2
    simp only [ptrV] at y4
    rcases VM.bind_cases hr2 with ⟨_,σ2,z1,hr3⟩|⟨k,z1,rfl⟩
    ·obtain ⟨H2,A2,e2,c2,h2,n2,rv2⟩:=m_pop h _ _ z1
     obtain ⟨u2,rfl,rfl⟩:=rv2
     have hp2:=n2.p
     simp only [ptrV] at c2
     obtain ⟨fa,fc,hfv⟩:=h2.fvlen
     have ho2:=h2.obj
     simp only [VA.cells,hfv,ptrV,hp2] at ho2
     rcases VM.bind_cases hr3 with ⟨em,σ3,z2,hr4⟩|⟨k,z2,_⟩
     ·obtain ⟨z2,rfl⟩:=VM.get_cases z2
      simp only [Except.ok.injEq] at z2
      cases hf:σ3.frames with
      |nil=>
       rw [hf] at z2 ho2
       simp only [List.isEmpty_nil] at z2
       subst z2
       simp only [if_true,vEnd,Option.some.injEq,Prod.mk.injEq] at hr4
       obtain ⟨rfl,rfl⟩:=hr4
       have hen:=c_end (H:=H2) (ptrV A.p) 1
       simp only [ptrV] at hen
       exact ⟨H2,A2,.pan (overV 1),by simp [C68,regsOf,fin,iresult1,ptrV,g0,g1,g3,y4,y5,c2,ho2,hen],h2,n2,rfl⟩
      |cons f fs=>
       rw [hf] at z2 ho2
       simp only [List.isEmpty_cons] at z2
       subst z2
       simp only [Bool.false_eq_true,if_false] at hr4
       rw [VM.bind_ok (vTop_eq hf)] at hr4
       have hne2:¬(fs.length:Int)+1=0:=by omega
       rcases VM.bind_cases hr4 with ⟨y,σ4,z3,hr5⟩|⟨k,z3,_⟩
       ·obtain ⟨y',hpd,z4,rfl⟩:=VM.of_cases z3
        simp only [Except.ok.injEq] at z4
        subst z4
        obtain ⟨q,l,hq,e5,e6⟩:=h2.top hf
        have ct:=c_top h2 hf hq
        obtain ⟨xb,xo,xlo,xi,cp⟩:=c_pending e5 hpd
        obtain ⟨cs2,pr2,vl2,vm2,vv2,j0,j1,j2,_⟩:=xi.ex
        obtain ⟨H3,A3,e3,c3,h3,n3,rv3⟩:=m_set h2 y.d w y3 _ _ hr5
        refine ⟨H3,A3,e3,?_,h3,n2.trans n3,rv3⟩
        simp only [ptrV,hp2] at ct cp c3
        cases r with
        |ok a=>
         obtain ⟨u3,rfl,rfl⟩:=rv3
         simp [C68,regsOf,fin,iresult1,ptrV,g0,g1,g3,y4,y5,c2,ho2,hne2,ct,cp,j0,j2,c3]
        |error k=>
         have rv3:e3=.pan (overV k):=rv3
         subst rv3
         simp [C68,regsOf,fin,iresult1,ptrV,g0,g1,g3,y4,y5,c2,ho2,hne2,ct,cp,j0,j2,c3]
       ·obtain ⟨_,_,z4,_⟩:=VM.of_cases z3
        simp at z4
     ·obtain ⟨z2,_⟩:=VM.get_cases z2
      simp at z2
    ·obtain ⟨H2,A2,e2,c2,h2,n2,rv2⟩:=m_pop h _ _ z1
     have rv2:e2=.pan (overV k):=rv2
     subst rv2
     simp only [ptrV] at c2
     exact ⟨H2,A2,.pan (overV k),by simp [C68,regsOf,fin,iresult1,ptrV,g0,g1,g3,y4,y5,c2],h2,n2,rfl⟩
   ·simp at y2
  ·obtain ⟨rfl,y2⟩:=rd_slot h y1
   rcases y2 with ⟨_,_,_,y2,_⟩|⟨y2,y4⟩
   ·simp at y2
   ·simp only [Except.error.injEq] at y2
    subst y2
    simp only [ptrV] at y4
    exact ⟨H,A,.pan (overV 6),by simp [C68,regsOf,fin,iresult1,ptrV,g0,g1,g3,y4],h,.refl _ _,rfl⟩
 rw [if_neg k5] at hr
 by_cases k6:x.op=23
 ·rw [if_pos k6] at hr
  rw [k6] at g1
  rcases VM.bind_cases hr with ⟨w,σ1,y1,hr2⟩|⟨k,y1,rfl⟩
  ·obtain ⟨rfl,y2⟩:=rd_slot h y1
   rcases y2 with ⟨w',b2,o2,y2,y3,y4,y5⟩|⟨y2,_⟩
   ·simp only [Except.ok.injEq] at y2
    subst y2
    obtain ⟨H1,A1,e,c1,h1,n1,rv1⟩:=m_throw h w y3 _ _ hr2
    refine ⟨H1,A1,e,?_,h1,n1,rv1⟩
    simp only [ptrV] at c1 y4
    cases r with
    |ok a=>
     obtain ⟨u,rfl,rfl⟩:=rv1
     simp [C68,regsOf,fin,iresult1,ptrV,g0,g1,g3,y4,y5,c1]
    |error k=>
     have rv1:e=.pan (overV k):=rv1
     subst rv1
     simp [C68,regsOf,fin,iresult1,ptrV,g0,g1,g3,y4,y5,c1]
   ·simp at y2
  ·obtain ⟨rfl,y2⟩:=rd_slot h y1
   rcases y2 with ⟨_,_,_,y2,_⟩|⟨y2,y4⟩
   ·simp at y2
   ·simp only [Except.error.injEq] at y2
    subst y2
    simp only [ptrV] at y4
    exact ⟨H,A,.pan (overV 6),by simp [C68,regsOf,fin,iresult1,ptrV,g0,g1,g3,y4],h,.refl _ _,rfl⟩
 rw [if_neg k6] at hr
 simp only [vEnd,Option.some.injEq,Prod.mk.injEq] at hr
 obtain ⟨rfl,rfl⟩:=hr
 have hen:=c_end (H:=H) (ptrV A.p) 6
 simp only [ptrV] at hen
 exact ⟨H,A,.pan (overV 6),by simp [C68,regsOf,fin,iresult1,ptrV,g0,g1,k1,k2,k3,k4,k5,k6,hen],h,.refl _ _,rfl⟩
end
section
variable {H:IH} {lo:Nat} {im:Img} {A A':VA} {σ σ':Mst}
theorem bs_byte (H:IH) (c:Int):ibuildSlice J 34 1 [(0,.int .u8 c)] H=some (.slice (some ⟨H.next,0,none⟩) 1 1,H.push (.cells [.int .u8 c] 5 false)):=by kernel_rfl
theorem app_out {H:IH} {v:Value} {l:List Nat} (h:OvAt H v l) (hb:∀x∈bOf v,x<H.next) (hl:l.length≤17000000) (c:Nat):
  ∃H',iappend J #[34,34] v (.slice (some ⟨H.next,0,none⟩) 1 1) (H.push (.cells [.int .u8 (c:Int)] 5 false))=some (.slice (some ⟨H.next+1,0,none⟩) (l.length+1) capU,H')∧H'.next=H.next+2∧(∀x,x<H.next→x ∉ bOf v→H'.get x=H.get x)∧
   H'.get (H.next+1)=some (.cells ((l++[c]).map byteV) 5 false):=by
 have h1:icells (H.push (.cells [.int .u8 (c:Int)] 5 false)) ⟨H.next,0,none⟩ (1*1)=some [.int .u8 (c:Int)]:=by simp [IH.get_push]
 have hn:(H.push (.cells [.int .u8 (c:Int)] 5 false)).next=H.next+1:=by simp
 rcases h with ⟨rfl,rfl⟩|⟨b,rfl,b4⟩
 ·have:=app_nil st_byte (c:=1) h1 (by simp) (by omega) (by omega)
  rw [hn] at this
  refine ⟨_,this,by simp,fun x hx _=>by rw [IH.get_push_other _ _ _ (by simp;omega),IH.get_push_other _ _ _ hx],?_⟩
  rw [show H.next+1=(H.push (.cells [.int .u8 (c:Int)] 5 false)).next by simp,IH.get_push_same];rfl
 ·have b2:b<H.next:=hb b (by simp [bOf])
  have hg:(H.push (.cells [.int .u8 (c:Int)] 5 false)).get b=some (.cells (l.map byteV) 5 false):=by rw [IH.get_push_other _ _ _ b2];exact b4
  have:=app_some st_byte (c:=1) (len:=l.length) h1 (by simp) (by omega) (by omega) hg (by simp) (by simp [plain1])
  rw [hn] at this
  refine ⟨_,this,by simp,fun x hx hm=>?_,?_⟩
  ·rw [IH.get_push_other _ _ _ (by simp;omega),IH.get_set,if_neg (fun e=>hm (by simp [bOf,e])),IH.get_push_other _ _ _ hx]
  ·rw [show H.next+1=((H.push (.cells [.int .u8 (c:Int)] 5 false)).set b .dead).next by simp,IH.get_push_same]
   rw [Nat.mul_one,List.take_of_length_le (by simp)];simp [byteV]
theorem VmAt.newOv (h:VmAt H lo im A σ) {H':IH} {nb:Nat} {l:List Nat} (hn:H.next≤H'.next) (hx:∀x,x<H.next→x≠A.p→x ∉ bOf A.ov→H'.get x=H.get x)
  (hA:A'= { A with ov:=.slice (some ⟨nb,0,none⟩) l.length capU }) (hσ:σ'= { σ with out:=l })
  (ho:H'.get A.p=some (.cells (A'.cells σ') 84 false)) (hov:H'.get nb=some (.cells (l.map byteV) 5 false)) (b3:H.next≤nb∧nb<H'.next) (hok:MOk σ'):VmAt H' lo im A' σ'∧Nx H A H' A':=by
 subst hA hσ
 have hnd:=h.nd
 have hlt:∀x∈A.own,x<H.next:=fun x hx=>(h.own x hx).2
 have hp:A.own=(A.p::(A.hp.p::A.hp.wb::A.hp.hb::(bOf A.hp.lv++bOf A.fv)))++(bOf A.ov++frOwn A.fr):=by simp [VA.own]
 have hs:SameB lo H H':=fun x hx'=>hx x (Nat.lt_of_lt_of_le hx' h.lo) (fun e=>by have:=(h.own A.p (by simp [VA.own])).1;omega) (fun hm=>by have:=(h.own x (by simp [VA.own,hm])).1;omega)
 rw [hp] at hnd
 obtain ⟨m1,m2,m3⟩:=List.nodup_append.1 hnd
 obtain ⟨m4,m5,m6⟩:=List.nodup_append.1 m2
 have hg:∀x,x∈A.hp.p::A.hp.wb::A.hp.hb::(bOf A.hp.lv++bOf A.fv)∨x∈frOwn A.fr→H'.get x=H.get x:=by
  intro x hm
  refine hx x (hlt x ?_) ?_ ?_
  ·rw [hp];rcases hm with hm|hm
   ·exact List.mem_append_left _ (List.mem_cons_of_mem _ hm)
   ·exact List.mem_append_right _ (List.mem_append_right _ hm)
  ·intro e
   rcases hm with hm|hm
   ·exact (List.nodup_cons.1 m1).1 (e▸hm)
   ·exact m3 A.p (by simp) x (by simp [hm]) e.symm
  ·intro he
   rcases hm with hm|hm
   ·exact m3 x (List.mem_cons_of_mem _ hm) x (by simp [he]) rfl
   ·exact m6 x he x hm rfl
 have hq:({ A with ov:=.slice (some ⟨nb,0,none⟩) l.length capU }:VA).own=(A.p::(A.hp.p::A.hp.wb::A.hp.hb::(bOf A.hp.lv++bOf A.fv)))++([nb]++frOwn A.fr):=by simp [VA.own,bOf_some]
 have z1:∀x,x∈(A.p::(A.hp.p::A.hp.wb::A.hp.hb::(bOf A.hp.lv++bOf A.fv)))→x<H.next:=fun x hx=>hlt x (by rw [hp];exact List.mem_append_left _ hx)
 have z3:∀x,x∈frOwn A.fr→x<H.next:=fun x hx=>hlt x (by rw [hp];simp [hx])
 have hnd2:({ A with ov:=.slice (some ⟨nb,0,none⟩) l.length capU }:VA).own.Nodup:=by
  rw [hq]
  refine List.nodup_append.2 ⟨m1,List.nodup_append.2 ⟨by simp,m5,fun a ha b hb=>?_⟩,fun a ha b hb=>?_⟩
  ·have:=z3 b hb
   simp only [List.mem_singleton] at ha
   omega
  ·have:=z1 a ha
   rcases List.mem_append.1 hb with hb|hb
   ·simp only [List.mem_singleton] at hb;omega
   ·exact m3 a ha b (by simp [hb])
 have hown:∀x∈({ A with ov:=.slice (some ⟨nb,0,none⟩) l.length capU }:VA).own,x∈A.own∨x=nb:=by
  intro x hx
  rw [hq] at hx
  rw [hp]
  rcases List.mem_append.1 hx with hx|hx
  ·exact .inl (List.mem_append_left _ hx)
  ·rcases List.mem_append.1 hx with hx|hx
   ·exact .inr (by simpa using hx)
   ·exact .inl (by simp [hx])
 refine ⟨⟨ho,h.img.same hs,h.hp.same hn (hg _ (.inl (by simp))) (hg _ (.inl (by simp))) (hg _ (.inl (by simp))) (fun z hm=>hg z (.inl (by simp [hm]))),h.inp.mono fun _ _ _ hb hx=>CellAt.same hx hs hb,h.col.mono fun _ _ _ hb hx=>CellAt.same hx hs hb,
  h.frs.same hs fun z hm=>hg z (.inr hm),h.fv.same fun z hm=>hg z (.inl (by simp [hm])),.inr ⟨nb,rfl,hov⟩,hnd2,fun x hm=>?_,Nat.le_trans h.lo hn,hok,h.imok⟩,⟨rfl,⟨hn,fun x hx1 hx2=>hx x hx1 (fun e=>hx2 (by simp [VA.own,e])) (fun hm=>hx2 (by simp [VA.own,hm]))⟩,fun x hm=>(hown x hm).imp id (fun e=>by omega)⟩⟩
 have hlo:=h.lo
 rcases hown x hm with hm|rfl
 ·have:=h.own x hm;omega
 ·omega
end
def vIn:VM Int:=fun σ=>
 match σ.input[σ.inn]? with
 |some c=>some (.ok (c:Int),{ σ with inn:=σ.inn+1 })
 |none=>some (.ok (-1),σ)
def vInstr (R:Rest) (im:Img) (x:Ins):VM Unit:=
 if x.op=1 then vSetInt x.d x.n
 else if x.op=3 then do
  let w ←vGet x.a
  vSet x.d w
 else if x.op=4 then do
  let p ←vPrim x
  if p.2 then vSetInt x.d p.1 else vThrow im (wImm 1)
 else if x.op=15 then do
  let n ←vIn
  vSetInt x.d n
 else if x.op=16 then do
  let n ←vNumber x.a
  VM.upd fun σ=>{ σ with out:=σ.out++[(n%256).toNat] }
 else if x.op=2 then do
  let k ←VM.get fun σ=>σ.hp.kindI 0
  vMust (decide (0≤x.a)&&decide (x.a<im.strings.length)&&decide (k=3))
  let s ←VM.of fun _=>im.strings[x.a.toNat]?
  R.text x s
 else if x.op=13∨x.op=14∨x.op=11∨x.op=12 then R.bytes x
 else if x.op=17 then do
  let args ←vRead x.l
  vKeep x.live
  vCall im x.a args
 else R.fields x
section
variable {H:IH} {lo:Nat} {im:Img} {A A':VA} {σ σ':Mst}
def TextOut (lo:Nat) (im:Img) (x:Ins) (m:ByteArray→VM Unit):Prop:=∀(H:IH) (A:VA) (σ:Mst) (b o:Nat) (s:ByteArray),VmAt H lo im A σ→b<lo→InsAt H lo b o x→InsLim x→σ.frames≠[]→σ.out.length<σ.steps∧σ.made<σ.steps∧σ.swept<σ.steps→s∈im.strings→Out lo im H A (cal J okAll 109 #[ptrV A.p,.pointer (some ⟨b,o,none⟩),.string s] H) UnitV (m s σ)
structure RestOk (lo:Nat) (im:Img) (R:Rest):Prop where
 text:∀x,TextOut lo im x (R.text x)
 bytes:∀x,InsOut lo im 110 x (R.bytes x)
 fields:∀x,InsOut lo im 112 x (R.fields x)
 choose:∀x,InsOut lo im 99 x (R.choose x)
theorem Rest.none_ok (lo:Nat) (im:Img):RestOk lo im Rest.none:=by
 refine ⟨fun x=>?_,fun x=>?_,fun x=>?_,fun x=>?_⟩
 ·intro H A σ b o s _ _ _ _ _ _ _ r σ' hr;simp [Rest.none,VM.fail] at hr
 all_goals intro H A σ b o _ _ _ _ _ _ r σ' hr;simp [Rest.none,VM.fail] at hr
theorem m_instr {R:Rest} (hR:RestOk lo im R) (x:Ins):InsOut lo im 69 x (vInstr R im x):=by
 intro H A σ b o h hblo hx hxl hne hst r σ' hr
 obtain ⟨cs,pr,vl,vm,vv,g0,g1,g2,g3,g4,g5,g6,g7,g8,g9,g10,g11,g12⟩:=hx.ex
 rw [cal69 _ _ (by simp)]
 unfold vInstr at hr
 by_cases k1:x.op=1
 ·rw [if_pos k1] at hr
  rw [k1] at g1
  obtain ⟨H1,A1,e,c1,h1,n1,rv1⟩:=m_setInt h x.d x.n hxl.n _ _ hr
  refine ⟨H1,A1,e,?_,h1,n1,rv1⟩
  simp only [ptrV] at c1
  cases r with
  |ok a=>
   obtain ⟨u,rfl,rfl⟩:=rv1
   simp [C69,regsOf,fin,iresult1,ptrV,g0,g1,g2,g6,c1]
  |error k=>
   have rv1:e=.pan (overV k):=rv1
   subst rv1
   simp [C69,regsOf,fin,iresult1,ptrV,g0,g1,g2,g6,c1]
 rw [if_neg k1] at hr
 by_cases k2:x.op=3
 ·rw [if_pos k2] at hr
  rw [k2] at g1
  rcases VM.bind_cases hr with ⟨w,σ1,y1,hr2⟩|⟨k,y1,rfl⟩
  ·obtain ⟨rfl,y2⟩:=rd_slot h y1
   rcases y2 with ⟨w',b2,o2,y2,y3,y4,y5⟩|⟨y2,_⟩
   ·simp only [Except.ok.injEq] at y2
    subst y2
    obtain ⟨H1,A1,e,c1,h1,n1,rv1⟩:=m_set h x.d w y3 _ _ hr2
    refine ⟨H1,A1,e,?_,h1,n1,rv1⟩
    simp only [ptrV] at c1 y4
    cases r with
    |ok a=>
     obtain ⟨u,rfl,rfl⟩:=rv1
     simp [C69,regsOf,fin,iresult1,ptrV,g0,g1,g2,g3,y4,y5,c1]
    |error k=>
     have rv1:e=.pan (overV k):=rv1
     subst rv1
     simp [C69,regsOf,fin,iresult1,ptrV,g0,g1,g2,g3,y4,y5,c1]
   ·simp at y2
  ·obtain ⟨rfl,y2⟩:=rd_slot h y1
   rcases y2 with ⟨_,_,_,y2,_⟩|⟨y2,y4⟩
   ·simp at y2
   ·simp only [Except.error.injEq] at y2
    subst y2
    simp only [ptrV] at y4
    exact ⟨H,A,.pan (overV 6),by simp [C69,regsOf,fin,iresult1,ptrV,g0,g1,g2,g3,y4],h,.refl _ _,rfl⟩
 rw [if_neg k2] at hr
 by_cases k3:x.op=4
 ·rw [if_pos k3] at hr
  rw [k3] at g1
  rcases VM.bind_cases hr with ⟨p,σ1,y1,hr2⟩|⟨k,y1,rfl⟩
  ·obtain ⟨rfl,y2⟩:=m_prim h hx y1
   rcases y2 with ⟨p',y2,y3,y3',y4⟩|⟨y2,_⟩
   ·simp only [Except.ok.injEq] at y2
    subst y2
    obtain ⟨pn,pb⟩:=p
    dsimp only at y3 y3' y4 hr2
    simp only [ptrV] at y4
    cases pb with
    |true=>
     simp only [if_true] at hr2
     obtain ⟨H1,A1,e,c1,h1,n1,rv1⟩:=m_setInt h x.d pn ⟨y3,y3'⟩ _ _ hr2
     refine ⟨H1,A1,e,?_,h1,n1,rv1⟩
     simp only [ptrV] at c1
     cases r with
     |ok a=>
      obtain ⟨u,rfl,rfl⟩:=rv1
      simp [C69,regsOf,fin,iresult1,ptrV,g0,g1,g2,y4,c1]
     |error k=>
      have rv1:e=.pan (overV k):=rv1
      subst rv1
      simp [C69,regsOf,fin,iresult1,ptrV,g0,g1,g2,y4,c1]
    |false=>
     simp only [Bool.false_eq_true,if_false] at hr2
     obtain ⟨H1,A1,e,c1,h1,n1,rv1⟩:=m_throw h (wImm 1) (wImm_lt 1) _ _ hr2
     have hi:=c_Imm H 1 (by omega)
     refine ⟨H1,A1,e,?_,h1,n1,rv1⟩
     simp only [ptrV] at c1
     cases r with
     |ok a=>
      obtain ⟨u,rfl,rfl⟩:=rv1
      simp [C69,regsOf,fin,iresult1,ptrV,g0,g1,g2,y4,hi,c1]
     |error k=>
      have rv1:e=.pan (overV k):=rv1
      subst rv1
      simp [C69,regsOf,fin,iresult1,ptrV,g0,g1,g2,y4,hi,c1]
   ·simp at y2
  ·obtain ⟨rfl,y2⟩:=m_prim h hx y1
   rcases y2 with ⟨_,y2,_⟩|⟨y2,y4⟩
   ·simp at y2
   ·simp only [Except.error.injEq] at y2
    subst y2
    simp only [ptrV] at y4
    exact ⟨H,A,.pan (overV 6),by simp [C69,regsOf,fin,iresult1,ptrV,g0,g1,y4],h,.refl _ _,rfl⟩
 rw [if_neg k3] at hr
 by_cases k4:x.op=15
 ·rw [if_pos k4] at hr
  rw [k4] at g1
  have ho:=h.obj
  simp only [VA.cells,ptrV] at ho
  obtain ⟨ia,ic,hiv,hil⟩:=id h.inp
  rw [hiv] at ho
  cases hc:σ.input[σ.inn]? with
  |some c=>
   have hv:vIn σ=some (.ok (c:Int),{ σ with inn:=σ.inn+1 }):=by unfold vIn;rw [hc]
   rw [VM.bind_ok hv] at hr
   obtain ⟨ib,io,icc,e1,e2,e3,e4⟩:=h.inp.get hc
   rw [hiv] at e1
   simp only [Value.slice.injEq] at e1
   obtain ⟨rfl,_,rfl⟩:=e1
   obtain ⟨ccs,cpr,j1,j2⟩:=e4
   simp only [Nat.mul_one,byteV] at j2
   have hlim:=h.ok.inn
   obtain ⟨u1,u2⟩:=h.scal (σ':={ σ with inn:=σ.inn+1 }) ⟨rfl,rfl,rfl⟩ rfl rfl ⟨h.ok.words,h.ok.stack,h.ok.fits,h.ok.fuel,h.ok.steps,h.ok.made,h.ok.swept,h.ok.out,by simp only;omega,h.ok.inn.2.1,h.ok.inn.2.2⟩
   have hc8:c<256:=hlim.2.2 c (List.mem_of_getElem? hc)
   obtain ⟨H1,A1,e,c1,h1,n1,rv1⟩:=m_setInt u1 x.d (c:Int) (by omega) _ _ hr
   refine ⟨H1,A1,e,?_,h1,u2.trans n1,rv1⟩
   have hw1:IntKind.i64.wrap ((σ.inn:Int)+1)=(σ.inn:Int)+1:=by rw [wrapI];omega
   have hw2:IntKind.i64.wrap (c:Int)=(c:Int):=by rw [wrapI];omega
   have hlt:σ.inn<σ.input.length:=e3
   have hpo:=(h.own A.p (by simp [VA.own])).1
   have hbp:b≠A.p:=fun e=>by omega
   have hibp:ib≠A.p:=fun e=>by omega
   simp only [VA.cells,ptrV,Int.natCast_add,Int.natCast_one,Int.cast_ofNat_Int] at c1
   rw [hiv] at c1
   cases r with
   |ok a=>
    obtain ⟨u,rfl,rfl⟩:=rv1
    simp [C69,regsOf,fin,iresult1,ptrV,g0,g1,g2,ho,hlt,iindexAddr,j1,j2,hw1,hw2,istore,Value.cells,plain1,overlay,IH.get_set,hbp,hibp,c1]
   |error k=>
    have rv1:e=.pan (overV k):=rv1
    subst rv1
    simp [C69,regsOf,fin,iresult1,ptrV,g0,g1,g2,ho,hlt,iindexAddr,j1,j2,hw1,hw2,istore,Value.cells,plain1,overlay,IH.get_set,hbp,hibp,c1]
  |none=>
   have hv:vIn σ=some (.ok (-1),σ):=by unfold vIn;rw [hc]
   rw [VM.bind_ok hv] at hr
   obtain ⟨H1,A1,e,c1,h1,n1,rv1⟩:=m_setInt h x.d (-1) (by omega) _ _ hr
   refine ⟨H1,A1,e,?_,h1,n1,rv1⟩
   have hge:¬σ.inn<σ.input.length:=fun hl=>by rw [List.getElem?_eq_getElem hl] at hc;simp at hc
   simp only [ptrV] at c1
   cases r with
   |ok a=>
    obtain ⟨u,rfl,rfl⟩:=rv1
    simp [C69,regsOf,fin,iresult1,ptrV,g0,g1,g2,ho,hge,c1]
   |error k=>
    have rv1:e=.pan (overV k):=rv1
    subst rv1
    simp [C69,regsOf,fin,iresult1,ptrV,g0,g1,g2,ho,hge,c1]
 rw [if_neg k4] at hr
 by_cases k5:x.op=16
 ·rw [if_pos k5] at hr
  rw [k5] at g1
  rcases VM.bind_cases hr with ⟨n,σ1,y1,hr2⟩|⟨k,y1,rfl⟩
  ·obtain ⟨rfl,y2⟩:=m_number h _ y1
   rcases y2 with ⟨n',y2,y3,y3',y4⟩|⟨y2,_⟩
   ·simp only [Except.ok.injEq] at y2
    subst y2
    simp only [ptrV] at y4
    simp only [VM.upd,Option.some.injEq,Prod.mk.injEq] at hr2
    obtain ⟨rfl,rfl⟩:=hr2
    obtain ⟨c,hc⟩:∃c,c=(n%256).toNat:=⟨_,rfl⟩
    have hwc:IntKind.u8.wrap n=(c:Int):=by
     rw [hc]
     have:IntKind.u8.wrap n=n%256:=by simp [IntKind.wrap,IntKind.bits,IntKind.signed]
     rw [this];omega
    have hol:=h.ok.out
    have hos:=h.ok.steps
    have hof:=h.ok.fuel
    have hpn:=(h.own A.p (by simp [VA.own])).2
    obtain ⟨H1,a1,a2,a3,a4⟩:=app_out h.ov (fun z hm=>(h.own z (by simp [VA.own,hm])).2) (by omega) c
    have ho:=h.obj
    have hpf:A.p ∉ bOf A.ov:=fun hm=>by
     have h1:=h.nd
     rw [VA.own,List.nodup_cons] at h1
     exact h1.1 (by simp [hm])
    have ho1:=(a3 A.p hpn hpf).trans ho
    rw [←hc]
    obtain ⟨u1,u2⟩:=h.newOv (H':=H1.set A.p (.cells (({ A with ov:=.slice (some ⟨H.next+1,0,none⟩) (σ1.out++[c]).length capU }:VA).cells { σ1 with out:=σ1.out++[c] }) 84 false)) (l:=σ1.out++[c]) (nb:=H.next+1) (by simp;omega) (fun x hx1 hx2 hx3=>by rw [IH.get_set,if_neg hx2];exact a3 x hx1 hx3) rfl rfl (by rw [IH.get_set,if_pos rfl]) (by rw [IH.get_set,if_neg (by omega)];exact a4) (by simp;omega)
     ⟨h.ok.words,h.ok.stack,h.ok.fits,h.ok.fuel,h.ok.steps,h.ok.made,h.ok.swept,by simp;omega,h.ok.inn⟩
    refine ⟨_,_,.ret (.tuple #[]),?_,u1,u2,⟨_,rfl,rfl⟩⟩
    simp only [VA.cells,ptrV] at ho ho1
    have hvq:veq 8 A.ov A.ov=true:=by
     rcases h.ov with ⟨e,_⟩|⟨ob,e,_⟩<;>rw [e]<;>simp
    have hgp:∀x,(H.push x).get A.p=H.get A.p:=fun x=>IH.get_push_other _ _ _ hpn
    simp [hvq,hgp,C69,regsOf,fin,iresult1,ptrV,g0,g1,g3,y4,ho,ho1,iparts,bs_byte,hwc,a1,istore,Value.cells,plain1,overlay,VA.cells]
   ·simp at y2
  ·obtain ⟨rfl,y2⟩:=m_number h _ y1
   rcases y2 with ⟨n',y2,_⟩|⟨y2,y4⟩
   ·simp at y2
   ·simp only [Except.error.injEq] at y2
    subst y2
    simp only [ptrV] at y4
    have ho:=h.obj
    simp only [VA.cells,ptrV] at ho
    exact ⟨H,A,.pan (overV 6),by simp [C69,regsOf,fin,iresult1,ptrV,g0,g1,g3,ho,y4],h,.refl _ _,rfl⟩
 rw [if_neg k5] at hr
 by_cases k6:x.op=2
 ·rw [if_pos k6] at hr
  rw [k6] at g1
  have ho:=h.obj
  obtain ⟨hmp,iu,ipr,hgi,hiv⟩:=h.img
  obtain ⟨sa,sc,hsv,_⟩:=id hiv.strings
  simp only [VA.cells,ptrV] at ho
  simp only [ImV.cells,hsv] at hgi
  have hk:=c_Kind h.hp 0
  have hm1:=c_must (H:=H) (ptrV A.p) true
  have hm2:=c_must (H:=H) (ptrV A.p) false
  simp only [ptrV,HpA.ptr] at hm1 hm2 hk
  rcases VM.bind_cases hr with ⟨k,σ1,y1,hr2⟩|⟨k,y1,_⟩
  ·obtain ⟨y2,rfl⟩:=VM.get_cases y1
   simp only [Except.ok.injEq] at y2
   rw [←y2] at hk
   rcases VM.bind_cases hr2 with ⟨_,σ2,z1,hr3⟩|⟨kk,z1,rfl⟩
   ·obtain ⟨rfl,z2⟩:=vMust_cases z1
    rcases z2 with ⟨z2,_⟩|⟨_,z2⟩
    ·simp only [Bool.and_eq_true,decide_eq_true_eq] at z2
     obtain ⟨⟨z3,z4⟩,z5⟩:=z2
     have z3d:decide (0≤x.a)=true:=decide_eq_true z3
     have z4d:decide (x.a<im.strings.length)=true:=decide_eq_true z4
     rw [z5] at hk
     rcases VM.bind_cases hr3 with ⟨s,σ3,w1,hr4⟩|⟨kk,w1,_⟩
     ·obtain ⟨s',w2,w3,rfl⟩:=VM.of_cases w1
      simp only [Except.ok.injEq] at w3
      subst w3
      obtain ⟨sb,so,scc,e1,e2,e3,e4⟩:=hiv.strings.get w2
      rw [hsv] at e1
      simp only [Value.slice.injEq] at e1
      obtain ⟨rfl,_,rfl⟩:=e1
      obtain ⟨ccs,cpr,j1,j2⟩:=e4
      simp only [Nat.mul_one] at j2
      obtain ⟨H1,A1,e,c1,h1,n1,rv1⟩:=hR.text x H A σ3 b o s h hblo hx hxl hne hst (List.mem_of_getElem? w2) _ _ hr4
      refine ⟨H1,A1,e,?_,h1,n1,rv1⟩
      simp only [ptrV] at c1
      cases r with
      |ok a=>
       obtain ⟨u,rfl,rfl⟩:=rv1
       simp [C69,regsOf,fin,iresult1,ptrV,g0,g1,g3,ho,hgi,hk,z3,z4,hm1,iindexAddr,j1,j2,c1]
      |error k=>
       have rv1:e=.pan (overV k):=rv1
       subst rv1
       simp [C69,regsOf,fin,iresult1,ptrV,g0,g1,g3,ho,hgi,hk,z3,z4,hm1,iindexAddr,j1,j2,c1]
     ·obtain ⟨_,_,w3,_⟩:=VM.of_cases w1
      simp at w3
    ·simp at z2
   ·obtain ⟨rfl,z2⟩:=vMust_cases z1
    rcases z2 with ⟨_,z2⟩|⟨z2,z3⟩
    ·simp at z2
    ·simp only [Except.error.injEq] at z3
     subst z3
     refine ⟨H,A,.pan (overV 6),?_,h,.refl _ _,rfl⟩
     cases w1:decide (0≤x.a) with
     |false=>simp [C69,regsOf,fin,iresult1,ptrV,g0,g1,g3,ho,hgi,w1,hm2]
     |true=>
      cases w2:decide (x.a<im.strings.length) with
      |false=>simp [C69,regsOf,fin,iresult1,ptrV,g0,g1,g3,ho,hgi,w1,w2,hm2]
      |true=>
       rw [w1,w2] at z2
       simp only [Bool.true_and] at z2
       simp [C69,regsOf,fin,iresult1,ptrV,g0,g1,g3,ho,hgi,w1,w2,hk,z2,hm2]
  ·obtain ⟨y2,_⟩:=VM.get_cases y1
   simp at y2
 rw [if_neg k6] at hr
 by_cases k7:x.op=13∨x.op=14∨x.op=11∨x.op=12
 ·rw [if_pos k7] at hr
  obtain ⟨H1,A1,e,c1,h1,n1,rv1⟩:=hR.bytes x H A σ b o h hblo hx hxl hne hst _ _ hr
  refine ⟨H1,A1,e,?_,h1,n1,rv1⟩
  simp only [ptrV] at c1
  rcases k7 with k7|k7|k7|k7<;>rw [k7] at g1
  ·cases r with
   |ok a=>
    obtain ⟨u,rfl,rfl⟩:=rv1
    simp [C69,regsOf,fin,iresult1,ptrV,g0,g1,c1]
   |error k=>
    have rv1:e=.pan (overV k):=rv1
    subst rv1
    simp [C69,regsOf,fin,iresult1,ptrV,g0,g1,c1]
  ·cases r with
   |ok a=>
    obtain ⟨u,rfl,rfl⟩:=rv1
    simp [C69,regsOf,fin,iresult1,ptrV,g0,g1,c1]
   |error k=>
    have rv1:e=.pan (overV k):=rv1
    subst rv1
    simp [C69,regsOf,fin,iresult1,ptrV,g0,g1,c1]
  ·cases r with
   |ok a=>
    obtain ⟨u,rfl,rfl⟩:=rv1
    simp [C69,regsOf,fin,iresult1,ptrV,g0,g1,c1]
   |error k=>
    have rv1:e=.pan (overV k):=rv1
    subst rv1
    simp [C69,regsOf,fin,iresult1,ptrV,g0,g1,c1]
  ·cases r with
   |ok a=>
    obtain ⟨u,rfl,rfl⟩:=rv1
    simp [C69,regsOf,fin,iresult1,ptrV,g0,g1,c1]
   |error k=>
    have rv1:e=.pan (overV k):=rv1
    subst rv1
    simp [C69,regsOf,fin,iresult1,ptrV,g0,g1,c1]
 rw [if_neg k7] at hr
 simp only [not_or] at k7
 obtain ⟨k7a,k7b,k7c,k7d⟩:=k7
 by_cases k8:x.op=17
 ·rw [if_pos k8] at hr
  rw [k8] at g1
  rcases VM.bind_cases hr with ⟨args,σ1,y1,hr2⟩|⟨k,y1,rfl⟩
  ·obtain ⟨rfl,H1,f1,y2⟩:=m_read h g10 (by have:=hxl.l;omega) y1
   rcases y2 with ⟨ws,u,y2,y3,y4,y5⟩|⟨y2,_⟩
   ·simp only [Except.ok.injEq] at y2
    subst y2
    have h1:=h.fr f1
    simp only [ptrV] at y3
    have hn01:Nx H A H1 A:=⟨rfl,Fx.of_fr f1,fun x hx=>.inl hx⟩
    obtain ⟨cs',pr',vl',vm',vv',g0',g1',g2',g3',g4',g5',g6',g7',g8',g9',g10',g11',g12'⟩:=(hx.same (hn01.same h) hblo).ex
    rcases VM.bind_cases hr2 with ⟨_,σ2,z1,hr3⟩|⟨k,z1,rfl⟩
    ·obtain ⟨H2,A2,e2,c2,h2,n2,rv2⟩:=m_keep h1 g12' (by have:=hxl.live;omega) _ _ z1
     obtain ⟨u2,rfl,rfl⟩:=rv2
     have harg:=y4.arg (fun x hx=>(h.own x hx).2) n2
     obtain ⟨H3,A3,e3,c3,h3,n3,rv3⟩:=m_call h2 x.a harg y5 _ _ hr3
     obtain ⟨cs3,pr3,vl3,vm3,vv3,q0,q1,q2,q3,_⟩:=(hx.same ((hn01.trans n2).same h) hblo).ex
     have hp2:=n2.p
     simp only [ptrV,hp2] at c2 c3
     refine ⟨H3,A3,e3,?_,h3,(hn01.trans n2).trans n3,rv3⟩
     cases r with
     |ok a=>
      obtain ⟨u,rfl,rfl⟩:=rv3
      simp [C69,regsOf,fin,iresult1,ptrV,g0,g1,g7,y3,g0',g9',c2,q0,q3,c3]
     |error k=>
      have rv3:e3=.pan (overV k):=rv3
      subst rv3
      simp [C69,regsOf,fin,iresult1,ptrV,g0,g1,g7,y3,g0',g9',c2,q0,q3,c3]
    ·obtain ⟨H2,A2,e2,c2,h2,n2,rv2⟩:=m_keep h1 g12' (by have:=hxl.live;omega) _ _ z1
     have rv2:e2=.pan (overV k):=rv2
     subst rv2
     simp only [ptrV] at c2
     exact ⟨H2,A2,.pan (overV k),by simp [C69,regsOf,fin,iresult1,ptrV,g0,g1,g7,y3,g0',g9',c2],h2,hn01.trans n2,rfl⟩
   ·simp at y2
  ·obtain ⟨rfl,H1,f1,y2⟩:=m_read h g10 (by have:=hxl.l;omega) y1
   rcases y2 with ⟨ws,u,y2,_⟩|⟨y2,y3⟩
   ·simp at y2
   ·simp only [Except.error.injEq] at y2
    subst y2
    simp only [ptrV] at y3
    exact ⟨H1,A,.pan (overV 6),by simp [C69,regsOf,fin,iresult1,ptrV,g0,g1,g7,y3],h.fr f1,⟨rfl,Fx.of_fr f1,fun x hx=>.inl hx⟩,rfl⟩
 rw [if_neg k8] at hr
 obtain ⟨H1,A1,e,c1,h1,n1,rv1⟩:=hR.fields x H A σ b o h hblo hx hxl hne hst _ _ hr
 refine ⟨H1,A1,e,?_,h1,n1,rv1⟩
 simp only [ptrV] at c1
 cases r with
 |ok a=>
  obtain ⟨u,rfl,rfl⟩:=rv1
  simp [C69,regsOf,fin,iresult1,ptrV,g0,g1,k1,k2,k3,k4,k5,k6,k7a,k7b,k7c,k7d,k8,c1]
 |error k=>
  have rv1:e=.pan (overV k):=rv1
  subst rv1
  simp [C69,regsOf,fin,iresult1,ptrV,g0,g1,k1,k2,k3,k4,k5,k6,k7a,k7b,k7c,k7d,k8,c1]
end
def Frm.code (f:Frm):List Ins:=((f.fn.blocks[f.block.toNat]?).map (·.code)).getD []
def vStep (R:Rest) (im:Img):VM Unit:=do
 let f ←vTop
 vMust (decide (0≤f.block)&&decide (f.block<f.fn.blocks.length)&&decide (f.at_<f.code.length))
 let full ←VM.get fun σ=>decide ((σ.steps:Int)=σ.fuel)
 if full then vEnd 3 else do
 let x ←VM.of fun _=>f.code[f.at_.toNat]?
 VM.upd fun σ=>{ σ with steps:=σ.steps+1,frames:={ f with at_:=f.at_+1 }::σ.frames.tail }
 if 18≤x.op then vLast R im x else vInstr R im x
def vRunN (R:Rest) (im:Img):Nat→VM Unit
 |0=>VM.fail
 |n+1=>do
  vStep R im
  vRunN R im n
section
variable {lo:Nat} {im:Img}
theorem step37 {R:Rest} (hR:RestOk lo im R) {H:IH} {A:VA} {σ σ1:Mst} {T:Regs} {r1:Except Int Unit} (h:VmAt H lo im A σ) (y1:vStep R im σ=some (r1,σ1)) (t0:T.at 0=ptrV A.p):
  (r1=.ok ()∧∃H1 A1 T1,run J okAll (.loop L37_0) T H=run J okAll (.loop L37_0) T1 H1∧T1.at 0=ptrV A1.p∧VmAt H1 lo im A1 σ1∧Nx H A H1 A1)∨
  (∃k,r1=.error k∧∃H1 A1 T1,run J okAll (.loop L37_0) T H=some (.pan (overV k),T1,H1)∧VmAt H1 lo im A1 σ1∧Nx H A H1 A1):=by
  have hm1:=c_must (H:=H) (ptrV A.p) true
  have hm2:=c_must (H:=H) (ptrV A.p) false
  simp only [ptrV] at hm1 hm2 t0
  have ho:=h.obj
  simp only [VA.cells,ptrV] at ho
  unfold vStep at y1
  cases hf:σ.frames with
  |nil=>rw [VM.bind_none (vTop_nil hf)] at y1;simp at y1
  |cons f fs=>
   rw [VM.bind_ok (vTop_eq hf)] at y1
   obtain ⟨q,l,hq,e2,e3⟩:=h.top hf
   have ct:=c_top h hf hq
   obtain ⟨pb,po,hpb,hfn,hg⟩:=e2.ex
   obtain ⟨cs,pr,vp,vb,g1,g2,g3,g4,g5,g6,g7⟩:=hfn.ex
   obtain ⟨ba,bcc,rfl,_⟩:=id g7
   simp only [ptrV] at ct
   have hat:=e2.at0
   have bad:∀{r:Except Int Unit} {σ':Mst},(decide (0≤f.block)&&decide (f.block<f.fn.blocks.length)&&decide (f.at_<f.code.length))=false→∃T',run J okAll (.loop L37_0) T H=some (.pan (overV 6),T',H):=by
    intro r σ' hb
    cases b1:decide (0≤f.block) with
    |false=>
     rw [r_loop]
     simp [L37_0,t0,ct,hg,b1,hm2]
    |true=>
     have b1':0≤f.block:=by simpa using b1
     cases b2:decide (f.block<f.fn.blocks.length) with
     |false=>
      rw [r_loop]
      simp [L37_0,t0,ct,hg,g1,g5,b1,b2,hm2]
     |true=>
      have b2':f.block<f.fn.blocks.length:=by simpa using b2
      have hlt:f.block.toNat<f.fn.blocks.length:=by omega
      rw [b1,b2] at hb
      simp only [Bool.true_and] at hb
      obtain ⟨b3,o3,c3,e4,l3,i3,p3⟩:=g7.get (List.getElem?_eq_getElem hlt)
      simp only [Value.slice.injEq] at e4
      obtain ⟨rfl,_,rfl⟩:=e4
      obtain ⟨cs2,pr2,vi,vc,j1,j2,j3,j4,j5⟩:=p3.ex
      obtain ⟨ca,cc,rfl,_⟩:=id j5
      have hcode:f.code=(f.fn.blocks[f.block.toNat]).code:=by unfold Frm.code;rw [List.getElem?_eq_getElem hlt];rfl
      rw [hcode] at hb
      rw [r_loop]
      simp [L37_0,t0,ct,hg,g1,g5,b1,b1',b2,b2',iindexAddr,j1,j3,hb,hm2]
   rcases VM.bind_cases y1 with ⟨_,σ2,z1,y2⟩|⟨k,z1,rfl⟩
   ·obtain ⟨rfl,z2⟩:=vMust_cases z1
    rcases z2 with ⟨z2,_⟩|⟨_,z2⟩
    ·simp only [Bool.and_eq_true,decide_eq_true_eq] at z2
     obtain ⟨⟨b1',b2'⟩,b3'⟩:=z2
     have b1:decide (0≤f.block)=true:=decide_eq_true b1'
     have b2:decide (f.block<f.fn.blocks.length)=true:=decide_eq_true b2'
     have hlt:f.block.toNat<f.fn.blocks.length:=by omega
     obtain ⟨b3,o3,c3,e4,l3,i3,p3⟩:=g7.get (List.getElem?_eq_getElem hlt)
     simp only [Value.slice.injEq] at e4
     obtain ⟨rfl,_,rfl⟩:=e4
     obtain ⟨cs2,pr2,vi,vc,j1,j2,j3,j4,j5⟩:=p3.ex
     obtain ⟨ca,cc,rfl,_⟩:=id j5
     have hcode:f.code=(f.fn.blocks[f.block.toNat]).code:=by unfold Frm.code;rw [List.getElem?_eq_getElem hlt];rfl
     have hclim:=e2.ok.code _ (List.getElem_mem hlt)
     rw [←hcode] at j3 j5 hclim
     have b3'':decide (f.at_<f.code.length)=true:=decide_eq_true b3'
     rcases VM.bind_cases y2 with ⟨full,σ3,z3,y3⟩|⟨k,z3,_⟩
     ·obtain ⟨z3,rfl⟩:=VM.get_cases z3
      simp only [Except.ok.injEq] at z3
      subst z3
      by_cases hfu:(σ3.steps:Int)=σ3.fuel
      ·have hfd:decide ((σ3.steps:Int)=σ3.fuel)=true:=decide_eq_true hfu
       rw [hfd] at y3
       simp only [if_true,vEnd,Option.some.injEq,Prod.mk.injEq] at y3
       obtain ⟨rfl,rfl⟩:=y3
       have hen:=c_end (H:=H) (ptrV A.p) 3
       simp only [ptrV] at hen
       obtain ⟨T',key⟩:∃T',run J okAll (.loop L37_0) T H=some (.pan (overV 3),T',H):=by
        rw [r_loop]
        simp [L37_0,t0,ct,hg,g1,g5,b1,b1',b2,b2',b3',b3'',iindexAddr,j1,j3,hm1,ho,hfd,hen]
       exact .inr ⟨3,rfl,H,A,T',key,h,.refl _ _⟩
      ·have hfd:decide ((σ3.steps:Int)=σ3.fuel)=false:=decide_eq_false hfu
       rw [hfd] at y3
       simp only [Bool.false_eq_true,if_false] at y3
       rcases VM.bind_cases y3 with ⟨x,σ4,z4,y4⟩|⟨k,z4,_⟩
       ·obtain ⟨x',hxc,z5,rfl⟩:=VM.of_cases z4
        simp only [Except.ok.injEq] at z5
        subst z5
        rw [VM.bind_ok (a:=()) (σ1:={ σ4 with steps:=σ4.steps+1,frames:={ f with at_:=f.at_+1 }::σ4.frames.tail }) rfl,hf,List.tail_cons] at y4
        obtain ⟨xb,xo,xc,x1,x2,x3,x4⟩:=j5.get hxc
        simp only [Value.slice.injEq] at x1
        obtain ⟨rfl,_,rfl⟩:=x1
        have hxl:=hclim.2 x (List.mem_of_getElem? hxc)
        have hfuel:=h.ok.fuel
        have hstp:=h.ok.steps
        obtain ⟨u1,u2⟩:=h.scal (σ':={ σ4 with steps:=σ4.steps+1 }) ⟨rfl,rfl,rfl⟩ rfl rfl ⟨h.ok.words,h.ok.stack,h.ok.fits,h.ok.fuel,by simp only;omega,by have:=h.ok.made;simp only;omega,by have:=h.ok.swept;simp only;omega,by have:=h.ok.out;simp only;omega,h.ok.inn⟩
        have hqo:=(h.own q.1 (by simp [VA.own,hq,frOwn])).1
        have hpo:=(h.own A.p (by simp [VA.own])).1
        have hqp:q.1≠A.p:=fun e=>by rw [e,h.obj] at hg;simp at hg
        have hpq:A.p≠q.1:=Ne.symm hqp
        have hqq:q.2≠q.1:=fun e=>by have:=e2.slots;rw [e,hg] at this;simp at this
        have hqp2:q.2≠A.p:=fun e=>by have:=e2.slots;rw [e,h.obj] at this;simp at this
        have w1:IntKind.i64.wrap (f.at_+1)=f.at_+1:=by rw [wrapI];omega
        have w2:IntKind.i64.wrap ((σ4.steps:Int)+1)=(σ4.steps:Int)+1:=by rw [wrapI];omega
        obtain ⟨v1,v2⟩:=u1.setTop (σ:={ σ4 with steps:=σ4.steps+1 }) hf hq (f':={ f with at_:=f.at_+1 }) (y:=q.1) (x:=.cells [.pointer (some ⟨pb,po,none⟩),.int .i64 f.block,.int .i64 (f.at_+1),.slice (some ⟨q.2,0,none⟩) f.slots.length f.slots.length] 138 false) (.inl rfl) rfl
         ⟨⟨pb,po,hpb,FnAt.same hfn (fun z hz=>by rw [IH.get_set,if_neg (fun e=>by omega),IH.get_set,if_neg (fun e=>by omega)]) hpb,by rw [IH.get_set,if_pos rfl]⟩,by rw [IH.get_set,if_neg hqq,IH.get_set,if_neg hqp2];exact e2.slots,e2.wlt,e2.len,e2.ok,by simp only;omega⟩ rfl
        have n2:=u2.trans v2
        have xi:=x4.same (n2.same h) x2
        have hne:({ σ4 with steps:=σ4.steps+1,frames:={ f with at_:=f.at_+1 }::fs }:Mst).frames≠[]:=by simp
        have hst:σ4.out.length<σ4.steps+1∧σ4.made<σ4.steps+1∧σ4.swept<σ4.steps+1:=⟨by have:=h.ok.out;omega,by have:=h.ok.made;omega,by have:=h.ok.swept;omega⟩
        obtain ⟨cs4,pr4,vl,vm,vv,q0,q1,_⟩:=xi.ex
        have ld1:∀z,z<lo→z≠A.p:=fun z hz e=>by omega
        have ld2:∀z,z<lo→z≠q.1:=fun z hz e=>by omega
        have pb1:=ld1 _ hpb
        have pb2:=ld2 _ hpb
        have b31:=ld1 _ l3
        have b32:=ld2 _ l3
        have xb1:=ld1 _ x2
        have xb2:=ld2 _ x2
        have at0:0≤f.at_:=hat.1
        have hxg:=x4.ex
        obtain ⟨cs5,pr5,vl5,vm5,vv5,k0,k1,_⟩:=hxg
        simp only [VA.cells,ptrV,Int.natCast_add,Int.natCast_one,Int.cast_ofNat_Int] at v1 v2 u1 u2 q0 n2 y4
        by_cases h18:18≤x.op
        ·rw [if_pos h18] at y4
         have h18d:decide (18≤x.op)=true:=decide_eq_true h18
         obtain ⟨H5,A5,e5,c5,h5,n5,rv5⟩:=m_last (hR.choose x) _ A _ xb _ v1 x2 xi hxl hne hst _ _ y4
         simp only [ptrV] at c5
         cases r1 with
         |ok a=>
          obtain ⟨u,rfl,rfl⟩:=rv5
          refine .inl ⟨rfl,?_⟩
          obtain ⟨T1,key,key2⟩:∃T1,run J okAll (.loop L37_0) T H=run J okAll (.loop L37_0) T1 H5∧T1.at 0=ptrV A5.p:=by
           rw [r_loop]
           simp [L37_0,t0,ct,hg,g1,g5,b1,b1',b2,b2',b3',b3'',iindexAddr,j1,j3,hm1,ho,hfd,w1,w2,istore,Value.cells,plain1,overlay,IH.get_set,hqp,hpq,pb1,pb2,b31,b32,xb1,xb2,at0,k0,k1,h18d,c5]
           exact ⟨_,rfl,by simp [t0,ptrV,n5.p]⟩
          exact ⟨H5,A5,T1,key,key2,h5,n2.trans n5⟩
         |error k=>
          have rv5:e5=.pan (overV k):=rv5
          subst rv5
          refine .inr ⟨k,rfl,?_⟩
          obtain ⟨T1,key⟩:∃T1,run J okAll (.loop L37_0) T H=some (.pan (overV k),T1,H5):=by
           rw [r_loop]
           simp [L37_0,t0,ct,hg,g1,g5,b1,b1',b2,b2',b3',b3'',iindexAddr,j1,j3,hm1,ho,hfd,w1,w2,istore,Value.cells,plain1,overlay,IH.get_set,hqp,hpq,pb1,pb2,b31,b32,xb1,xb2,at0,k0,k1,h18d,c5]
          exact ⟨H5,A5,T1,key,h5,n2.trans n5⟩
        ·rw [if_neg h18] at y4
         have h18d:decide (18≤x.op)=false:=decide_eq_false h18
         obtain ⟨H5,A5,e5,c5,h5,n5,rv5⟩:=m_instr hR x _ A _ xb _ v1 x2 xi hxl hne hst _ _ y4
         simp only [ptrV] at c5
         cases r1 with
         |ok a=>
          obtain ⟨u,rfl,rfl⟩:=rv5
          refine .inl ⟨rfl,?_⟩
          obtain ⟨T1,key,key2⟩:∃T1,run J okAll (.loop L37_0) T H=run J okAll (.loop L37_0) T1 H5∧T1.at 0=ptrV A5.p:=by
           rw [r_loop]
           simp [L37_0,t0,ct,hg,g1,g5,b1,b1',b2,b2',b3',b3'',iindexAddr,j1,j3,hm1,ho,hfd,w1,w2,istore,Value.cells,plain1,overlay,IH.get_set,hqp,hpq,pb1,pb2,b31,b32,xb1,xb2,at0,k0,k1,h18d,c5]
           exact ⟨_,rfl,by simp [t0,ptrV,n5.p]⟩
          exact ⟨H5,A5,T1,key,key2,h5,n2.trans n5⟩
         |error k=>
          have rv5:e5=.pan (overV k):=rv5
          subst rv5
          refine .inr ⟨k,rfl,?_⟩
          obtain ⟨T1,key⟩:∃T1,run J okAll (.loop L37_0) T H=some (.pan (overV k),T1,H5):=by
           rw [r_loop]
           simp [L37_0,t0,ct,hg,g1,g5,b1,b1',b2,b2',b3',b3'',iindexAddr,j1,j3,hm1,ho,hfd,w1,w2,istore,Value.cells,plain1,overlay,IH.get_set,hqp,hpq,pb1,pb2,b31,b32,xb1,xb2,at0,k0,k1,h18d,c5]
          exact ⟨H5,A5,T1,key,h5,n2.trans n5⟩
       ·obtain ⟨_,_,z5,_⟩:=VM.of_cases z4
        simp at z5
     ·obtain ⟨z3,_⟩:=VM.get_cases z3
      simp at z3
    ·simp at z2
   ·obtain ⟨rfl,z2⟩:=vMust_cases z1
    rcases z2 with ⟨_,z2⟩|⟨z2,z3⟩
    ·simp at z2
    ·simp only [Except.error.injEq] at z3
     subst z3
     obtain ⟨T',key⟩:=bad (r:=.ok ()) (σ':=σ1) z2
     exact .inr ⟨6,rfl,H,A,T',key,h,.refl _ _⟩
theorem loop37 {R:Rest} (hR:RestOk lo im R):∀(n:Nat) (H:IH) (A:VA) (σ σ':Mst) (T:Regs) (r:Except Int Unit),VmAt H lo im A σ→vRunN R im n σ=some (r,σ')→T.at 0=ptrV A.p→
  ∃H' A' T' k,r=.error k∧run J okAll (.loop L37_0) T H=some (.pan (overV k),T',H')∧VmAt H' lo im A' σ'∧Nx H A H' A':=by
 intro n
 induction n with
 |zero=>intro H A σ σ' T r h hx;simp [vRunN,VM.fail] at hx
 |succ n ih=>
  intro H A σ σ' T r h hx t0
  unfold vRunN at hx
  rcases VM.bind_cases hx with ⟨_,σ1,y1,hx1⟩|⟨k,y1,rfl⟩
  ·rcases step37 hR h y1 t0 with ⟨_,H1,A1,T1,s1,s2,s3,s4⟩|⟨k,s1,_⟩
   ·obtain ⟨H2,A2,T2,k,e1,e2,e3,e4⟩:=ih H1 A1 σ1 σ' T1 r s3 hx1 s2
    exact ⟨H2,A2,T2,k,e1,s1.trans e2,e3,s4.trans e4⟩
   ·simp at s1
  ·rcases step37 hR h y1 t0 with ⟨s1,_⟩|⟨k',s1,H1,A1,T1,s2,s3,s4⟩
   ·simp at s1
   ·simp only [Except.error.injEq] at s1
    subst s1
    exact ⟨H1,A1,T1,k,rfl,s2,s3,s4⟩
theorem m_run {R:Rest} (hR:RestOk lo im R) {H:IH} {A:VA} {σ σ':Mst} {n:Nat} {r:Except Int Unit} (h:VmAt H lo im A σ) (hx:vRunN R im n σ=some (r,σ')):
  ∃H' A' k,r=.error k∧cal J okAll 37 #[ptrV A.p] H=some (.pan (overV k),H')∧VmAt H' lo im A' σ'∧Nx H A H' A':=by
 rw [cal37 _ _ (by simp)]
 simp [C37,regsOf,ptrV]
 generalize hX:run J okAll (.loop L37_0) _ _=X
 obtain ⟨T1,hT,a0⟩:∃T1,run J okAll (.loop L37_0) T1 H=X∧T1.at 0=ptrV A.p:=⟨_,hX,by simp [ptrV]⟩
 obtain ⟨H',A',T',k,e1,e2,e3,e4⟩:=loop37 hR n H A σ σ' T1 r h hx a0
 have e2:=hT.symm.trans e2
 subst e2
 exact ⟨H',A',k,e1,by simp [fin,iresult1],e3,e4⟩
end
def slV (v:Option Addr×Nat×Nat):Value:=.slice v.1 v.2.1 v.2.2
def firstI (p:Nat→Bool):Nat→List Nat→Int
 |_,[]=> -1
 |i,n::l=>if p n then (i:Int) else firstI p (i+1) l
theorem firstI_nonneg (p:Nat→Bool):∀(l:List Nat) (i:Nat),decide (0≤firstI p i l)=l.any p
 | [],i=>by simp [firstI]
 |n::l,i=>by
  unfold firstI
  cases h:p n with
  |true=>simp [h]
  |false=>simp [h,firstI_nonneg p l (i+1)]
section
variable {H:IH}
theorem c_overc_0 (mb n:Nat) (a:Option Addr) (c:Nat) (most:Int) (hm:H.get mb=some (.cells [.int .i64 most] 3 false)):
  cal J okAll 176 #[.slice a n c,.pointer (some ⟨mb,0,none⟩)] H=some (.ret (.bool (decide (most<n))),H):=by
 rw [cal176 _ _ (by simp)]
 simp [C176,regsOf,fin,iresult1,hm]
theorem c_overl_0 (mb lb:Nat) (most:Int) (vs:List (Option Addr×Nat×Nat)) (hl:vs.length≤1000) (hm:H.get mb=some (.cells [.int .i64 most] 3 false)) (hg:H.get lb=some (.cells (vs.map slV) 22 false)):∀(rest:List (Option Addr×Nat×Nat)) (i:Nat) (T:Regs),vs.drop i=rest→i≤vs.length→
  T.at 0=.slice (some ⟨lb,0,none⟩) vs.length vs.length→T.at 1=.func (.func 176) #[] #[.pointer (some ⟨mb,0,none⟩)]→T.at 7=.int .i64 (vs.length:Int)→T.at 8=.int .i64 (i:Int)→
  ∃T',(firstI (fun n=>decide (most<n)) i (rest.map (·.2.1))= -1∧run J okAll (.loop L215_0) T H=some (.exit 0,T',H))∨(run J okAll (.loop L215_0) T H=some (.ret,T',H)∧T'.at 4=.int .i64 (firstI (fun n=>decide (most<n)) i (rest.map (·.2.1)))):=by
 intro rest
 induction rest with
 |nil=>
  intro i T hr hi t0 t1 t7 t8
  have:i=vs.length:=by have:=congrArg List.length hr;simp at this;omega
  subst this
  rw [r_loop]
  simp [L215_0,t0,t1,t7,t8,firstI]
 |cons v rest ih=>
  intro i T hr hi t0 t1 t7 t8
  have hlt:i<vs.length:=by have:=congrArg List.length hr;simp at this;omega
  have hj:vs[i]?=some v:=by have:=congrArg (fun u=>u[0]?) hr;simpa using this
  have hr2:vs.drop (i+1)=rest:=by rw [←List.tail_drop,hr];rfl
  have hc:(vs.map slV)[i]?=some (.slice v.1 v.2.1 v.2.2):=by rw [List.getElem?_map,hj];rfl
  have hcl:=c_overc_0 (H:=H) mb v.2.1 v.1 v.2.2 most hm
  have hw1:IntKind.i64.wrap ((i:Int)+1)=((i+1:Nat):Int):=by rw [wrap64 _ (by omega) (by omega)];simp
  generalize vs.map slV=cs at*
  simp only [List.map_cons,firstI]
  cases hb:decide (most<(v.2.1:Int)) with
  |true=>
   rw [hb] at hcl
   rw [r_loop]
   simp [L215_0,t0,t1,t7,t8,hlt,iindexAddr,hg,hc,hcl]
  |false=>
   rw [hb] at hcl
   rw [r_loop]
   simp [L215_0,t0,t1,t7,t8,hlt,iindexAddr,hg,hc,hcl,hw1]
   exact ih (i+1) _ hr2 (by omega) (by simp [t0]) (by simp [t1]) (by simp [t7]) (by simp)
theorem c_over_0 (lb:Nat) (most:Int) (vs:List (Option Addr×Nat×Nat)) (hl:vs.length≤1000) (hlb:lb<H.next) (hg:H.get lb=some (.cells (vs.map slV) 22 false)):
  cal J okAll 113 #[.int .i64 most,.slice (some ⟨lb,0,none⟩) vs.length vs.length] H=some (.ret (.bool (vs.any fun v=>decide (most<v.2.1))),H.push (.cells [.int .i64 most] 3 false)):=by
 rw [cal113 _ _ (by simp)]
 have key:cal J okAll 175 #[.slice (some ⟨lb,0,none⟩) vs.length vs.length,.func (.func 176) #[] #[.pointer (some ⟨H.next,0,none⟩)]] (H.push (.cells [.int .i64 most] 3 false))=some (.ret (.bool (vs.any fun v=>decide (most<v.2.1))),H.push (.cells [.int .i64 most] 3 false)):=by
  rw [cal175 _ _ (by simp)]
  have k2:cal J okAll 215 #[.slice (some ⟨lb,0,none⟩) vs.length vs.length,.func (.func 176) #[] #[.pointer (some ⟨H.next,0,none⟩)]] (H.push (.cells [.int .i64 most] 3 false))=some (.ret (.int .i64 (firstI (fun n=>decide (most<n)) 0 (vs.map (·.2.1)))),H.push (.cells [.int .i64 most] 3 false)):=by
   rw [cal215 _ _ (by simp)]
   simp [C215,regsOf,fin,iresult1]
   generalize hX:run J okAll (.loop L215_0) _ _=X
   obtain ⟨T1,hT,a0,a1,a7,a8⟩:∃T1,run J okAll (.loop L215_0) T1 (H.push (.cells [.int .i64 most] 3 false))=X∧T1.at 0=.slice (some ⟨lb,0,none⟩) vs.length vs.length∧T1.at 1=.func (.func 176) #[] #[.pointer (some ⟨H.next,0,none⟩)]∧T1.at 7=.int .i64 (vs.length:Int)∧T1.at 8=.int .i64 ((0:Nat):Int):=⟨_,hX,by simp,by simp,by simp,by simp⟩
   obtain ⟨T',h1|⟨h1,h2⟩⟩:=c_overl_0 (H:=H.push (.cells [.int .i64 most] 3 false)) H.next lb most vs hl (IH.get_push_same _ _) (by rw [IH.get_push_other _ _ _ hlb];exact hg) vs 0 T1 rfl (by omega) a0 a1 a7 a8
   ·have h2:=hT.symm.trans h1.2
    subst h2
    simp [regsOf,fin,iresult1,h1.1]
   ·have h1:=hT.symm.trans h1
    subst h1
    simp [regsOf,fin,iresult1,h2]
  have k3:=firstI_nonneg (fun n=>decide (most<(n:Int))) (vs.map (·.2.1)) 0
  simp only [List.any_map] at k3
  simp [C175,regsOf,fin,iresult1,k2,k3]
  rfl
 simp [C113,regsOf,fin,iresult1,inew,Value.cells,key]
theorem c_overc_1 (mb n:Nat) (a:Option Addr) (c:Nat) (most:Int) (hm:H.get mb=some (.cells [.int .i64 most] 3 false)):
  cal J okAll 178 #[.slice a n c,.pointer (some ⟨mb,0,none⟩)] H=some (.ret (.bool (decide (most<n))),H):=by
 rw [cal178 _ _ (by simp)]
 simp [C178,regsOf,fin,iresult1,hm]
theorem c_overl_1 (mb lb:Nat) (most:Int) (vs:List (Option Addr×Nat×Nat)) (hl:vs.length≤1000) (hm:H.get mb=some (.cells [.int .i64 most] 3 false)) (hg:H.get lb=some (.cells (vs.map slV) 23 false)):∀(rest:List (Option Addr×Nat×Nat)) (i:Nat) (T:Regs),vs.drop i=rest→i≤vs.length→
  T.at 0=.slice (some ⟨lb,0,none⟩) vs.length vs.length→T.at 1=.func (.func 178) #[] #[.pointer (some ⟨mb,0,none⟩)]→T.at 7=.int .i64 (vs.length:Int)→T.at 8=.int .i64 (i:Int)→
  ∃T',(firstI (fun n=>decide (most<n)) i (rest.map (·.2.1))= -1∧run J okAll (.loop L216_0) T H=some (.exit 0,T',H))∨(run J okAll (.loop L216_0) T H=some (.ret,T',H)∧T'.at 4=.int .i64 (firstI (fun n=>decide (most<n)) i (rest.map (·.2.1)))):=by
 intro rest
 induction rest with
 |nil=>
  intro i T hr hi t0 t1 t7 t8
  have:i=vs.length:=by have:=congrArg List.length hr;simp at this;omega
  subst this
  rw [r_loop]
  simp [L216_0,t0,t1,t7,t8,firstI]
 |cons v rest ih=>
  intro i T hr hi t0 t1 t7 t8
  have hlt:i<vs.length:=by have:=congrArg List.length hr;simp at this;omega
  have hj:vs[i]?=some v:=by have:=congrArg (fun u=>u[0]?) hr;simpa using this
  have hr2:vs.drop (i+1)=rest:=by rw [←List.tail_drop,hr];rfl
  have hc:(vs.map slV)[i]?=some (.slice v.1 v.2.1 v.2.2):=by rw [List.getElem?_map,hj];rfl
  have hcl:=c_overc_1 (H:=H) mb v.2.1 v.1 v.2.2 most hm
  have hw1:IntKind.i64.wrap ((i:Int)+1)=((i+1:Nat):Int):=by rw [wrap64 _ (by omega) (by omega)];simp
  generalize vs.map slV=cs at*
  simp only [List.map_cons,firstI]
  cases hb:decide (most<(v.2.1:Int)) with
  |true=>
   rw [hb] at hcl
   rw [r_loop]
   simp [L216_0,t0,t1,t7,t8,hlt,iindexAddr,hg,hc,hcl]
  |false=>
   rw [hb] at hcl
   rw [r_loop]
   simp [L216_0,t0,t1,t7,t8,hlt,iindexAddr,hg,hc,hcl,hw1]
   exact ih (i+1) _ hr2 (by omega) (by simp [t0]) (by simp [t1]) (by simp [t7]) (by simp)
theorem c_over_1 (lb:Nat) (most:Int) (vs:List (Option Addr×Nat×Nat)) (hl:vs.length≤1000) (hlb:lb<H.next) (hg:H.get lb=some (.cells (vs.map slV) 23 false)):
  cal J okAll 114 #[.int .i64 most,.slice (some ⟨lb,0,none⟩) vs.length vs.length] H=some (.ret (.bool (vs.any fun v=>decide (most<v.2.1))),H.push (.cells [.int .i64 most] 3 false)):=by
 rw [cal114 _ _ (by simp)]
 have key:cal J okAll 177 #[.slice (some ⟨lb,0,none⟩) vs.length vs.length,.func (.func 178) #[] #[.pointer (some ⟨H.next,0,none⟩)]] (H.push (.cells [.int .i64 most] 3 false))=some (.ret (.bool (vs.any fun v=>decide (most<v.2.1))),H.push (.cells [.int .i64 most] 3 false)):=by
  rw [cal177 _ _ (by simp)]
  have k2:cal J okAll 216 #[.slice (some ⟨lb,0,none⟩) vs.length vs.length,.func (.func 178) #[] #[.pointer (some ⟨H.next,0,none⟩)]] (H.push (.cells [.int .i64 most] 3 false))=some (.ret (.int .i64 (firstI (fun n=>decide (most<n)) 0 (vs.map (·.2.1)))),H.push (.cells [.int .i64 most] 3 false)):=by
   rw [cal216 _ _ (by simp)]
   simp [C216,regsOf,fin,iresult1]
   generalize hX:run J okAll (.loop L216_0) _ _=X
   obtain ⟨T1,hT,a0,a1,a7,a8⟩:∃T1,run J okAll (.loop L216_0) T1 (H.push (.cells [.int .i64 most] 3 false))=X∧T1.at 0=.slice (some ⟨lb,0,none⟩) vs.length vs.length∧T1.at 1=.func (.func 178) #[] #[.pointer (some ⟨H.next,0,none⟩)]∧T1.at 7=.int .i64 (vs.length:Int)∧T1.at 8=.int .i64 ((0:Nat):Int):=⟨_,hX,by simp,by simp,by simp,by simp⟩
   obtain ⟨T',h1|⟨h1,h2⟩⟩:=c_overl_1 (H:=H.push (.cells [.int .i64 most] 3 false)) H.next lb most vs hl (IH.get_push_same _ _) (by rw [IH.get_push_other _ _ _ hlb];exact hg) vs 0 T1 rfl (by omega) a0 a1 a7 a8
   ·have h2:=hT.symm.trans h1.2
    subst h2
    simp [regsOf,fin,iresult1,h1.1]
   ·have h1:=hT.symm.trans h1
    subst h1
    simp [regsOf,fin,iresult1,h2]
  have k3:=firstI_nonneg (fun n=>decide (most<(n:Int))) (vs.map (·.2.1)) 0
  simp only [List.any_map] at k3
  simp [C177,regsOf,fin,iresult1,k2,k3]
  rfl
 simp [C114,regsOf,fin,iresult1,inew,Value.cells,key]
theorem c_overc_2 (mb n:Nat) (a:Option Addr) (c:Nat) (most:Int) (hm:H.get mb=some (.cells [.int .i64 most] 3 false)):
  cal J okAll 180 #[.slice a n c,.pointer (some ⟨mb,0,none⟩)] H=some (.ret (.bool (decide (most<n))),H):=by
 rw [cal180 _ _ (by simp)]
 simp [C180,regsOf,fin,iresult1,hm]
theorem c_overl_2 (mb lb:Nat) (most:Int) (vs:List (Option Addr×Nat×Nat)) (hl:vs.length≤1000) (hm:H.get mb=some (.cells [.int .i64 most] 3 false)) (hg:H.get lb=some (.cells (vs.map slV) 24 false)):∀(rest:List (Option Addr×Nat×Nat)) (i:Nat) (T:Regs),vs.drop i=rest→i≤vs.length→
  T.at 0=.slice (some ⟨lb,0,none⟩) vs.length vs.length→T.at 1=.func (.func 180) #[] #[.pointer (some ⟨mb,0,none⟩)]→T.at 7=.int .i64 (vs.length:Int)→T.at 8=.int .i64 (i:Int)→
  ∃T',(firstI (fun n=>decide (most<n)) i (rest.map (·.2.1))= -1∧run J okAll (.loop L217_0) T H=some (.exit 0,T',H))∨(run J okAll (.loop L217_0) T H=some (.ret,T',H)∧T'.at 4=.int .i64 (firstI (fun n=>decide (most<n)) i (rest.map (·.2.1)))):=by
 intro rest
 induction rest with
 |nil=>
  intro i T hr hi t0 t1 t7 t8
  have:i=vs.length:=by have:=congrArg List.length hr;simp at this;omega
  subst this
  rw [r_loop]
  simp [L217_0,t0,t1,t7,t8,firstI]
 |cons v rest ih=>
  intro i T hr hi t0 t1 t7 t8
  have hlt:i<vs.length:=by have:=congrArg List.length hr;simp at this;omega
  have hj:vs[i]?=some v:=by have:=congrArg (fun u=>u[0]?) hr;simpa using this
  have hr2:vs.drop (i+1)=rest:=by rw [←List.tail_drop,hr];rfl
  have hc:(vs.map slV)[i]?=some (.slice v.1 v.2.1 v.2.2):=by rw [List.getElem?_map,hj];rfl
  have hcl:=c_overc_2 (H:=H) mb v.2.1 v.1 v.2.2 most hm
  have hw1:IntKind.i64.wrap ((i:Int)+1)=((i+1:Nat):Int):=by rw [wrap64 _ (by omega) (by omega)];simp
  generalize vs.map slV=cs at*
  simp only [List.map_cons,firstI]
  cases hb:decide (most<(v.2.1:Int)) with
  |true=>
   rw [hb] at hcl
   rw [r_loop]
   simp [L217_0,t0,t1,t7,t8,hlt,iindexAddr,hg,hc,hcl]
  |false=>
   rw [hb] at hcl
   rw [r_loop]
   simp [L217_0,t0,t1,t7,t8,hlt,iindexAddr,hg,hc,hcl,hw1]
   exact ih (i+1) _ hr2 (by omega) (by simp [t0]) (by simp [t1]) (by simp [t7]) (by simp)
theorem c_over_2 (lb:Nat) (most:Int) (vs:List (Option Addr×Nat×Nat)) (hl:vs.length≤1000) (hlb:lb<H.next) (hg:H.get lb=some (.cells (vs.map slV) 24 false)):
  cal J okAll 115 #[.int .i64 most,.slice (some ⟨lb,0,none⟩) vs.length vs.length] H=some (.ret (.bool (vs.any fun v=>decide (most<v.2.1))),H.push (.cells [.int .i64 most] 3 false)):=by
 rw [cal115 _ _ (by simp)]
 have key:cal J okAll 179 #[.slice (some ⟨lb,0,none⟩) vs.length vs.length,.func (.func 180) #[] #[.pointer (some ⟨H.next,0,none⟩)]] (H.push (.cells [.int .i64 most] 3 false))=some (.ret (.bool (vs.any fun v=>decide (most<v.2.1))),H.push (.cells [.int .i64 most] 3 false)):=by
  rw [cal179 _ _ (by simp)]
  have k2:cal J okAll 217 #[.slice (some ⟨lb,0,none⟩) vs.length vs.length,.func (.func 180) #[] #[.pointer (some ⟨H.next,0,none⟩)]] (H.push (.cells [.int .i64 most] 3 false))=some (.ret (.int .i64 (firstI (fun n=>decide (most<n)) 0 (vs.map (·.2.1)))),H.push (.cells [.int .i64 most] 3 false)):=by
   rw [cal217 _ _ (by simp)]
   simp [C217,regsOf,fin,iresult1]
   generalize hX:run J okAll (.loop L217_0) _ _=X
   obtain ⟨T1,hT,a0,a1,a7,a8⟩:∃T1,run J okAll (.loop L217_0) T1 (H.push (.cells [.int .i64 most] 3 false))=X∧T1.at 0=.slice (some ⟨lb,0,none⟩) vs.length vs.length∧T1.at 1=.func (.func 180) #[] #[.pointer (some ⟨H.next,0,none⟩)]∧T1.at 7=.int .i64 (vs.length:Int)∧T1.at 8=.int .i64 ((0:Nat):Int):=⟨_,hX,by simp,by simp,by simp,by simp⟩
   obtain ⟨T',h1|⟨h1,h2⟩⟩:=c_overl_2 (H:=H.push (.cells [.int .i64 most] 3 false)) H.next lb most vs hl (IH.get_push_same _ _) (by rw [IH.get_push_other _ _ _ hlb];exact hg) vs 0 T1 rfl (by omega) a0 a1 a7 a8
   ·have h2:=hT.symm.trans h1.2
    subst h2
    simp [regsOf,fin,iresult1,h1.1]
   ·have h1:=hT.symm.trans h1
    subst h1
    simp [regsOf,fin,iresult1,h2]
  have k3:=firstI_nonneg (fun n=>decide (most<(n:Int))) (vs.map (·.2.1)) 0
  simp only [List.any_map] at k3
  simp [C179,regsOf,fin,iresult1,k2,k3]
  rfl
 simp [C115,regsOf,fin,iresult1,inew,Value.cells,key]
theorem c_overc_3 (mb n:Nat) (a:Option Addr) (c:Nat) (most:Int) (hm:H.get mb=some (.cells [.int .i64 most] 3 false)):
  cal J okAll 182 #[.slice a n c,.pointer (some ⟨mb,0,none⟩)] H=some (.ret (.bool (decide (most<n))),H):=by
 rw [cal182 _ _ (by simp)]
 simp [C182,regsOf,fin,iresult1,hm]
theorem c_overl_3 (mb lb:Nat) (most:Int) (vs:List (Option Addr×Nat×Nat)) (hl:vs.length≤1000) (hm:H.get mb=some (.cells [.int .i64 most] 3 false)) (hg:H.get lb=some (.cells (vs.map slV) 25 false)):∀(rest:List (Option Addr×Nat×Nat)) (i:Nat) (T:Regs),vs.drop i=rest→i≤vs.length→
  T.at 0=.slice (some ⟨lb,0,none⟩) vs.length vs.length→T.at 1=.func (.func 182) #[] #[.pointer (some ⟨mb,0,none⟩)]→T.at 7=.int .i64 (vs.length:Int)→T.at 8=.int .i64 (i:Int)→
  ∃T',(firstI (fun n=>decide (most<n)) i (rest.map (·.2.1))= -1∧run J okAll (.loop L218_0) T H=some (.exit 0,T',H))∨(run J okAll (.loop L218_0) T H=some (.ret,T',H)∧T'.at 4=.int .i64 (firstI (fun n=>decide (most<n)) i (rest.map (·.2.1)))):=by
 intro rest
 induction rest with
 |nil=>
  intro i T hr hi t0 t1 t7 t8
  have:i=vs.length:=by have:=congrArg List.length hr;simp at this;omega
  subst this
  rw [r_loop]
  simp [L218_0,t0,t1,t7,t8,firstI]
 |cons v rest ih=>
  intro i T hr hi t0 t1 t7 t8
  have hlt:i<vs.length:=by have:=congrArg List.length hr;simp at this;omega
  have hj:vs[i]?=some v:=by have:=congrArg (fun u=>u[0]?) hr;simpa using this
  have hr2:vs.drop (i+1)=rest:=by rw [←List.tail_drop,hr];rfl
  have hc:(vs.map slV)[i]?=some (.slice v.1 v.2.1 v.2.2):=by rw [List.getElem?_map,hj];rfl
  have hcl:=c_overc_3 (H:=H) mb v.2.1 v.1 v.2.2 most hm
  have hw1:IntKind.i64.wrap ((i:Int)+1)=((i+1:Nat):Int):=by rw [wrap64 _ (by omega) (by omega)];simp
  generalize vs.map slV=cs at*
  simp only [List.map_cons,firstI]
  cases hb:decide (most<(v.2.1:Int)) with
  |true=>
   rw [hb] at hcl
   rw [r_loop]
   simp [L218_0,t0,t1,t7,t8,hlt,iindexAddr,hg,hc,hcl]
  |false=>
   rw [hb] at hcl
   rw [r_loop]
   simp [L218_0,t0,t1,t7,t8,hlt,iindexAddr,hg,hc,hcl,hw1]
   exact ih (i+1) _ hr2 (by omega) (by simp [t0]) (by simp [t1]) (by simp [t7]) (by simp)
theorem c_over_3 (lb:Nat) (most:Int) (vs:List (Option Addr×Nat×Nat)) (hl:vs.length≤1000) (hlb:lb<H.next) (hg:H.get lb=some (.cells (vs.map slV) 25 false)):
  cal J okAll 116 #[.int .i64 most,.slice (some ⟨lb,0,none⟩) vs.length vs.length] H=some (.ret (.bool (vs.any fun v=>decide (most<v.2.1))),H.push (.cells [.int .i64 most] 3 false)):=by
 rw [cal116 _ _ (by simp)]
 have key:cal J okAll 181 #[.slice (some ⟨lb,0,none⟩) vs.length vs.length,.func (.func 182) #[] #[.pointer (some ⟨H.next,0,none⟩)]] (H.push (.cells [.int .i64 most] 3 false))=some (.ret (.bool (vs.any fun v=>decide (most<v.2.1))),H.push (.cells [.int .i64 most] 3 false)):=by
  rw [cal181 _ _ (by simp)]
  have k2:cal J okAll 218 #[.slice (some ⟨lb,0,none⟩) vs.length vs.length,.func (.func 182) #[] #[.pointer (some ⟨H.next,0,none⟩)]] (H.push (.cells [.int .i64 most] 3 false))=some (.ret (.int .i64 (firstI (fun n=>decide (most<n)) 0 (vs.map (·.2.1)))),H.push (.cells [.int .i64 most] 3 false)):=by
   rw [cal218 _ _ (by simp)]
   simp [C218,regsOf,fin,iresult1]
   generalize hX:run J okAll (.loop L218_0) _ _=X
   obtain ⟨T1,hT,a0,a1,a7,a8⟩:∃T1,run J okAll (.loop L218_0) T1 (H.push (.cells [.int .i64 most] 3 false))=X∧T1.at 0=.slice (some ⟨lb,0,none⟩) vs.length vs.length∧T1.at 1=.func (.func 182) #[] #[.pointer (some ⟨H.next,0,none⟩)]∧T1.at 7=.int .i64 (vs.length:Int)∧T1.at 8=.int .i64 ((0:Nat):Int):=⟨_,hX,by simp,by simp,by simp,by simp⟩
   obtain ⟨T',h1|⟨h1,h2⟩⟩:=c_overl_3 (H:=H.push (.cells [.int .i64 most] 3 false)) H.next lb most vs hl (IH.get_push_same _ _) (by rw [IH.get_push_other _ _ _ hlb];exact hg) vs 0 T1 rfl (by omega) a0 a1 a7 a8
   ·have h2:=hT.symm.trans h1.2
    subst h2
    simp [regsOf,fin,iresult1,h1.1]
   ·have h1:=hT.symm.trans h1
    subst h1
    simp [regsOf,fin,iresult1,h2]
  have k3:=firstI_nonneg (fun n=>decide (most<(n:Int))) (vs.map (·.2.1)) 0
  simp only [List.any_map] at k3
  simp [C181,regsOf,fin,iresult1,k2,k3]
  rfl
 simp [C116,regsOf,fin,iresult1,inew,Value.cells,key]
theorem c_overc_4 (mb n:Nat) (a:Option Addr) (c:Nat) (most:Int) (hm:H.get mb=some (.cells [.int .i64 most] 3 false)):
  cal J okAll 186 #[.slice a n c,.pointer (some ⟨mb,0,none⟩)] H=some (.ret (.bool (decide (most<n))),H):=by
 rw [cal186 _ _ (by simp)]
 simp [C186,regsOf,fin,iresult1,hm]
theorem c_overl_4 (mb lb:Nat) (most:Int) (vs:List (Option Addr×Nat×Nat)) (hl:vs.length≤1000) (hm:H.get mb=some (.cells [.int .i64 most] 3 false)) (hg:H.get lb=some (.cells (vs.map slV) 28 false)):∀(rest:List (Option Addr×Nat×Nat)) (i:Nat) (T:Regs),vs.drop i=rest→i≤vs.length→
  T.at 0=.slice (some ⟨lb,0,none⟩) vs.length vs.length→T.at 1=.func (.func 186) #[] #[.pointer (some ⟨mb,0,none⟩)]→T.at 7=.int .i64 (vs.length:Int)→T.at 8=.int .i64 (i:Int)→
  ∃T',(firstI (fun n=>decide (most<n)) i (rest.map (·.2.1))= -1∧run J okAll (.loop L220_0) T H=some (.exit 0,T',H))∨(run J okAll (.loop L220_0) T H=some (.ret,T',H)∧T'.at 4=.int .i64 (firstI (fun n=>decide (most<n)) i (rest.map (·.2.1)))):=by
 intro rest
 induction rest with
 |nil=>
  intro i T hr hi t0 t1 t7 t8
  have:i=vs.length:=by have:=congrArg List.length hr;simp at this;omega
  subst this
  rw [r_loop]
  simp [L220_0,t0,t1,t7,t8,firstI]
 |cons v rest ih=>
  intro i T hr hi t0 t1 t7 t8
  have hlt:i<vs.length:=by have:=congrArg List.length hr;simp at this;omega
  have hj:vs[i]?=some v:=by have:=congrArg (fun u=>u[0]?) hr;simpa using this
  have hr2:vs.drop (i+1)=rest:=by rw [←List.tail_drop,hr];rfl
  have hc:(vs.map slV)[i]?=some (.slice v.1 v.2.1 v.2.2):=by rw [List.getElem?_map,hj];rfl
  have hcl:=c_overc_4 (H:=H) mb v.2.1 v.1 v.2.2 most hm
  have hw1:IntKind.i64.wrap ((i:Int)+1)=((i+1:Nat):Int):=by rw [wrap64 _ (by omega) (by omega)];simp
  generalize vs.map slV=cs at*
  simp only [List.map_cons,firstI]
  cases hb:decide (most<(v.2.1:Int)) with
  |true=>
   rw [hb] at hcl
   rw [r_loop]
   simp [L220_0,t0,t1,t7,t8,hlt,iindexAddr,hg,hc,hcl]
  |false=>
   rw [hb] at hcl
   rw [r_loop]
   simp [L220_0,t0,t1,t7,t8,hlt,iindexAddr,hg,hc,hcl,hw1]
   exact ih (i+1) _ hr2 (by omega) (by simp [t0]) (by simp [t1]) (by simp [t7]) (by simp)
theorem c_over_4 (lb:Nat) (most:Int) (vs:List (Option Addr×Nat×Nat)) (hl:vs.length≤1000) (hlb:lb<H.next) (hg:H.get lb=some (.cells (vs.map slV) 28 false)):
  cal J okAll 118 #[.int .i64 most,.slice (some ⟨lb,0,none⟩) vs.length vs.length] H=some (.ret (.bool (vs.any fun v=>decide (most<v.2.1))),H.push (.cells [.int .i64 most] 3 false)):=by
 rw [cal118 _ _ (by simp)]
 have key:cal J okAll 185 #[.slice (some ⟨lb,0,none⟩) vs.length vs.length,.func (.func 186) #[] #[.pointer (some ⟨H.next,0,none⟩)]] (H.push (.cells [.int .i64 most] 3 false))=some (.ret (.bool (vs.any fun v=>decide (most<v.2.1))),H.push (.cells [.int .i64 most] 3 false)):=by
  rw [cal185 _ _ (by simp)]
  have k2:cal J okAll 220 #[.slice (some ⟨lb,0,none⟩) vs.length vs.length,.func (.func 186) #[] #[.pointer (some ⟨H.next,0,none⟩)]] (H.push (.cells [.int .i64 most] 3 false))=some (.ret (.int .i64 (firstI (fun n=>decide (most<n)) 0 (vs.map (·.2.1)))),H.push (.cells [.int .i64 most] 3 false)):=by
   rw [cal220 _ _ (by simp)]
   simp [C220,regsOf,fin,iresult1]
   generalize hX:run J okAll (.loop L220_0) _ _=X
   obtain ⟨T1,hT,a0,a1,a7,a8⟩:∃T1,run J okAll (.loop L220_0) T1 (H.push (.cells [.int .i64 most] 3 false))=X∧T1.at 0=.slice (some ⟨lb,0,none⟩) vs.length vs.length∧T1.at 1=.func (.func 186) #[] #[.pointer (some ⟨H.next,0,none⟩)]∧T1.at 7=.int .i64 (vs.length:Int)∧T1.at 8=.int .i64 ((0:Nat):Int):=⟨_,hX,by simp,by simp,by simp,by simp⟩
   obtain ⟨T',h1|⟨h1,h2⟩⟩:=c_overl_4 (H:=H.push (.cells [.int .i64 most] 3 false)) H.next lb most vs hl (IH.get_push_same _ _) (by rw [IH.get_push_other _ _ _ hlb];exact hg) vs 0 T1 rfl (by omega) a0 a1 a7 a8
   ·have h2:=hT.symm.trans h1.2
    subst h2
    simp [regsOf,fin,iresult1,h1.1]
   ·have h1:=hT.symm.trans h1
    subst h1
    simp [regsOf,fin,iresult1,h2]
  have k3:=firstI_nonneg (fun n=>decide (most<(n:Int))) (vs.map (·.2.1)) 0
  simp only [List.any_map] at k3
  simp [C185,regsOf,fin,iresult1,k2,k3]
  rfl
 simp [C118,regsOf,fin,iresult1,inew,Value.cells,key]
theorem c_overc_5 (mb n:Nat) (a:Option Addr) (c:Nat) (most:Int) (hm:H.get mb=some (.cells [.int .i64 most] 3 false)):
  cal J okAll 188 #[.slice a n c,.pointer (some ⟨mb,0,none⟩)] H=some (.ret (.bool (decide (most<n))),H):=by
 rw [cal188 _ _ (by simp)]
 simp [C188,regsOf,fin,iresult1,hm]
theorem c_overl_5 (mb lb:Nat) (most:Int) (vs:List (Option Addr×Nat×Nat)) (hl:vs.length≤1000) (hm:H.get mb=some (.cells [.int .i64 most] 3 false)) (hg:H.get lb=some (.cells (vs.map slV) 57 false)):∀(rest:List (Option Addr×Nat×Nat)) (i:Nat) (T:Regs),vs.drop i=rest→i≤vs.length→
  T.at 0=.slice (some ⟨lb,0,none⟩) vs.length vs.length→T.at 1=.func (.func 188) #[] #[.pointer (some ⟨mb,0,none⟩)]→T.at 7=.int .i64 (vs.length:Int)→T.at 8=.int .i64 (i:Int)→
  ∃T',(firstI (fun n=>decide (most<n)) i (rest.map (·.2.1))= -1∧run J okAll (.loop L221_0) T H=some (.exit 0,T',H))∨(run J okAll (.loop L221_0) T H=some (.ret,T',H)∧T'.at 4=.int .i64 (firstI (fun n=>decide (most<n)) i (rest.map (·.2.1)))):=by
 intro rest
 induction rest with
 |nil=>
  intro i T hr hi t0 t1 t7 t8
  have:i=vs.length:=by have:=congrArg List.length hr;simp at this;omega
  subst this
  rw [r_loop]
  simp [L221_0,t0,t1,t7,t8,firstI]
 |cons v rest ih=>
  intro i T hr hi t0 t1 t7 t8
  have hlt:i<vs.length:=by have:=congrArg List.length hr;simp at this;omega
  have hj:vs[i]?=some v:=by have:=congrArg (fun u=>u[0]?) hr;simpa using this
  have hr2:vs.drop (i+1)=rest:=by rw [←List.tail_drop,hr];rfl
  have hc:(vs.map slV)[i]?=some (.slice v.1 v.2.1 v.2.2):=by rw [List.getElem?_map,hj];rfl
  have hcl:=c_overc_5 (H:=H) mb v.2.1 v.1 v.2.2 most hm
  have hw1:IntKind.i64.wrap ((i:Int)+1)=((i+1:Nat):Int):=by rw [wrap64 _ (by omega) (by omega)];simp
  generalize vs.map slV=cs at*
  simp only [List.map_cons,firstI]
  cases hb:decide (most<(v.2.1:Int)) with
  |true=>
   rw [hb] at hcl
   rw [r_loop]
   simp [L221_0,t0,t1,t7,t8,hlt,iindexAddr,hg,hc,hcl]
  |false=>
   rw [hb] at hcl
   rw [r_loop]
   simp [L221_0,t0,t1,t7,t8,hlt,iindexAddr,hg,hc,hcl,hw1]
   exact ih (i+1) _ hr2 (by omega) (by simp [t0]) (by simp [t1]) (by simp [t7]) (by simp)
theorem c_over_5 (lb:Nat) (most:Int) (vs:List (Option Addr×Nat×Nat)) (hl:vs.length≤1000) (hlb:lb<H.next) (hg:H.get lb=some (.cells (vs.map slV) 57 false)):
  cal J okAll 119 #[.int .i64 most,.slice (some ⟨lb,0,none⟩) vs.length vs.length] H=some (.ret (.bool (vs.any fun v=>decide (most<v.2.1))),H.push (.cells [.int .i64 most] 3 false)):=by
 rw [cal119 _ _ (by simp)]
 have key:cal J okAll 187 #[.slice (some ⟨lb,0,none⟩) vs.length vs.length,.func (.func 188) #[] #[.pointer (some ⟨H.next,0,none⟩)]] (H.push (.cells [.int .i64 most] 3 false))=some (.ret (.bool (vs.any fun v=>decide (most<v.2.1))),H.push (.cells [.int .i64 most] 3 false)):=by
  rw [cal187 _ _ (by simp)]
  have k2:cal J okAll 221 #[.slice (some ⟨lb,0,none⟩) vs.length vs.length,.func (.func 188) #[] #[.pointer (some ⟨H.next,0,none⟩)]] (H.push (.cells [.int .i64 most] 3 false))=some (.ret (.int .i64 (firstI (fun n=>decide (most<n)) 0 (vs.map (·.2.1)))),H.push (.cells [.int .i64 most] 3 false)):=by
   rw [cal221 _ _ (by simp)]
   simp [C221,regsOf,fin,iresult1]
   generalize hX:run J okAll (.loop L221_0) _ _=X
   obtain ⟨T1,hT,a0,a1,a7,a8⟩:∃T1,run J okAll (.loop L221_0) T1 (H.push (.cells [.int .i64 most] 3 false))=X∧T1.at 0=.slice (some ⟨lb,0,none⟩) vs.length vs.length∧T1.at 1=.func (.func 188) #[] #[.pointer (some ⟨H.next,0,none⟩)]∧T1.at 7=.int .i64 (vs.length:Int)∧T1.at 8=.int .i64 ((0:Nat):Int):=⟨_,hX,by simp,by simp,by simp,by simp⟩
   obtain ⟨T',h1|⟨h1,h2⟩⟩:=c_overl_5 (H:=H.push (.cells [.int .i64 most] 3 false)) H.next lb most vs hl (IH.get_push_same _ _) (by rw [IH.get_push_other _ _ _ hlb];exact hg) vs 0 T1 rfl (by omega) a0 a1 a7 a8
   ·have h2:=hT.symm.trans h1.2
    subst h2
    simp [regsOf,fin,iresult1,h1.1]
   ·have h1:=hT.symm.trans h1
    subst h1
    simp [regsOf,fin,iresult1,h2]
  have k3:=firstI_nonneg (fun n=>decide (most<(n:Int))) (vs.map (·.2.1)) 0
  simp only [List.any_map] at k3
  simp [C187,regsOf,fin,iresult1,k2,k3]
  rfl
 simp [C119,regsOf,fin,iresult1,inew,Value.cells,key]
end
def firstT (p:ByteArray→Bool):Nat→List ByteArray→Int
 |_,[]=> -1
 |i,n::l=>if p n then (i:Int) else firstT p (i+1) l
theorem firstT_nonneg (p:ByteArray→Bool):∀(l:List ByteArray) (i:Nat),decide (0≤firstT p i l)=l.any p
 | [],i=>by simp [firstT]
 |n::l,i=>by
  unfold firstT
  cases h:p n with
  |true=>simp [h]
  |false=>simp [h,firstT_nonneg p l (i+1)]
section
variable {H:IH} {lo:Nat}
theorem c_widec (s:ByteArray):cal J okAll 184 #[.string s] H=some (.ret (.bool (decide (16384<(s.size:Int)))),H):=by
 rw [cal184 _ _ (by simp)]
 simp [C184,regsOf,fin,iresult1]
abbrev TextsAt (H:IH) (lo:Nat) (v:Value) (l:List ByteArray):Prop:=LAt lo 1 (CellAt H 9 Value.string) v l
theorem c_widel {v:Value} {l:List ByteArray} (hv:TextsAt H lo v l) (hl:l.length≤100000):∀(rest:List ByteArray) (i:Nat) (T:Regs),l.drop i=rest→i≤l.length→
  T.at 0=v→T.at 1=.func (.func 184) #[] #[]→T.at 7=.int .i64 (l.length:Int)→T.at 8=.int .i64 (i:Int)→
  ∃T',(firstT (fun s=>decide (16384<(s.size:Int))) i rest= -1∧run J okAll (.loop L219_0) T H=some (.exit 0,T',H))∨(run J okAll (.loop L219_0) T H=some (.ret,T',H)∧T'.at 4=.int .i64 (firstT (fun s=>decide (16384<(s.size:Int))) i rest)):=by
 intro rest
 induction rest with
 |nil=>
  intro i T hr hi t0 t1 t7 t8
  have:i=l.length:=by have:=congrArg List.length hr;simp at this;omega
  subst this
  rw [r_loop]
  simp [L219_0,t0,t1,t7,t8,firstT]
 |cons s rest ih=>
  intro i T hr hi t0 t1 t7 t8
  have hlt:i<l.length:=by have:=congrArg List.length hr;simp at this;omega
  have hj:l[i]?=some s:=by have:=congrArg (fun u=>u[0]?) hr;simpa using this
  have hr2:l.drop (i+1)=rest:=by rw [←List.tail_drop,hr];rfl
  obtain ⟨b,o,c,rfl,hb,_,hcell⟩:=hv.get hj
  obtain ⟨cs,pr,hg,hc⟩:=hcell
  simp only [Nat.mul_one] at hc
  have hcl:=c_widec (H:=H) s
  have hw1:IntKind.i64.wrap ((i:Int)+1)=((i+1:Nat):Int):=by rw [wrap64 _ (by omega) (by omega)];simp
  simp only [firstT]
  by_cases hp:16384<(s.size:Int)
  ·have hd:decide (16384<(s.size:Int))=true:=decide_eq_true hp
   rw [hd] at hcl
   rw [if_pos hd,r_loop]
   simp [L219_0,t0,t1,t7,t8,hlt,iindexAddr,hg,hc,hcl]
  ·have hd:decide (16384<(s.size:Int))=false:=decide_eq_false hp
   rw [hd] at hcl
   rw [if_neg (by simp [hd]),r_loop]
   simp [L219_0,t0,t1,t7,t8,hlt,iindexAddr,hg,hc,hcl,hw1]
   exact ih (i+1) _ hr2 (by omega) (by simp [t0]) (by simp [t1]) (by simp [t7]) (by simp)
theorem c_wide {v:Value} {l:List ByteArray} (hv:TextsAt H lo v l) (hl:l.length≤100000):cal J okAll 117 #[v] H=some (.ret (.bool (l.any fun s=>decide (16384<(s.size:Int)))),H):=by
 rw [cal117 _ _ (by simp)]
 have key:cal J okAll 183 #[v,.func (.func 184) #[] #[]] H=some (.ret (.bool (l.any fun s=>decide (16384<(s.size:Int)))),H):=by
  rw [cal183 _ _ (by simp)]
  have k2:cal J okAll 219 #[v,.func (.func 184) #[] #[]] H=some (.ret (.int .i64 (firstT (fun s=>decide (16384<(s.size:Int))) 0 l)),H):=by
   rw [cal219 _ _ (by simp)]
   obtain ⟨a,c,rfl,_⟩:=id hv
   simp [C219,regsOf,fin,iresult1]
   generalize hX:run J okAll (.loop L219_0) _ _=X
   obtain ⟨T1,hT,a0,a1,a7,a8⟩:∃T1,run J okAll (.loop L219_0) T1 H=X∧T1.at 0=.slice a l.length c∧T1.at 1=.func (.func 184) #[] #[]∧T1.at 7=.int .i64 (l.length:Int)∧T1.at 8=.int .i64 ((0:Nat):Int):=⟨_,hX,by simp,by simp,by simp,by simp⟩
   obtain ⟨T',h1|⟨h1,h2⟩⟩:=c_widel hv hl l 0 T1 rfl (by omega) a0 a1 a7 a8
   ·have h2:=hT.symm.trans h1.2
    subst h2
    simp [regsOf,fin,iresult1,h1.1]
   ·have h1:=hT.symm.trans h1
    subst h1
    simp [regsOf,fin,iresult1,h2]
  have k3:=firstT_nonneg (fun s=>decide (16384<(s.size:Int))) l 0
  simp [C183,regsOf,fin,iresult1,k2,k3]
 simp [C117,regsOf,fin,iresult1,key]
def usesL (op:Int):List UInt8:=
 if op=1 then [68,78] else if op=2 then [68,65,108] else if op=3∨op=11 then [68,65] else if op=4 then [68,65,66,78] else if op=5 then [68,65,76,108]
 else if op=6∨op=9∨op=12∨op=14 then [68,65,66] else if op=7∨op=10∨op=19 then [65,66,67] else if op=8 then [68,65,66,67,108] else if op=13 then [68,65,66,108]
 else if op=15 then [68] else if op=16∨op=18∨op=22∨op=23 then [65] else if op=17 then [68,65,66,67,76,108] else if op=20 then [65,76,77,66] else if op=21 then [65,76] else []
def usesB (op:Int):ByteArray:=⟨(usesL op).toArray⟩
theorem c_Uses (op:Int):cal J okAll 121 #[.int .i64 op] H=some (.ret (.string (usesB op)),H):=by
 rw [cal121 _ _ (by simp)]
 by_cases h:1≤op∧op≤23
 ·obtain ⟨n,rfl⟩:∃n:Nat,op=n:=⟨op.toNat,by omega⟩
  have h1:n<24:=by omega
  have h0:1≤n:=by omega
  clear h
  rcases n with _|n
  ·omega
  iterate 23 (rcases n with _|n;(simp [C121,regsOf,fin,iresult1,usesB,usesL]))
  omega
 ·have e:∀k:Int,1≤k→k≤23→¬op=k:=fun k h1 h2 e=>h ⟨by omega,by omega⟩
  have e1:=e 1 (by omega) (by omega)
  have e2:=e 2 (by omega) (by omega)
  have e3:=e 3 (by omega) (by omega)
  have e4:=e 4 (by omega) (by omega)
  have e5:=e 5 (by omega) (by omega)
  have e6:=e 6 (by omega) (by omega)
  have e7:=e 7 (by omega) (by omega)
  have e8:=e 8 (by omega) (by omega)
  have e9:=e 9 (by omega) (by omega)
  have e10:=e 10 (by omega) (by omega)
  have e11:=e 11 (by omega) (by omega)
  have e12:=e 12 (by omega) (by omega)
  have e13:=e 13 (by omega) (by omega)
  have e14:=e 14 (by omega) (by omega)
  have e15:=e 15 (by omega) (by omega)
  have e16:=e 16 (by omega) (by omega)
  have e17:=e 17 (by omega) (by omega)
  have e18:=e 18 (by omega) (by omega)
  have e19:=e 19 (by omega) (by omega)
  have e20:=e 20 (by omega) (by omega)
  have e21:=e 21 (by omega) (by omega)
  have e22:=e 22 (by omega) (by omega)
  have e23:=e 23 (by omega) (by omega)
  simp [C121,regsOf,fin,iresult1,usesB,usesL,e1,e2,e3,e4,e5,e6,e7,e8,e9,e10,e11,e12,e13,e14,e15,e16,e17,e18,e19,e20,e21,e22,e23]
end
structure LI where
 d:Int
 a:Int
 b:Int
 c:Int
 n:Int
 l:Option Addr×Nat×Nat
 m:Option Addr×Nat×Nat
 v:Option Addr×Nat×Nat
def LI.cells (op:Int) (y:LI):List Value:=[.int .i64 op,.int .i64 y.d,.int .i64 y.a,.int .i64 y.b,.int .i64 y.c,.int .i64 y.n,slV y.l,slV y.m,slV y.v]
def LI.zero (y:LI) (c:UInt8):LI:=
 if c=78 then { y with n:=0 } else if c=68 then { y with d:=0 } else if c=65 then { y with a:=0 } else if c=66 then { y with b:=0 } else if c=67 then { y with c:=0 }
 else if c=76 then { y with l:=(none,0,0) } else if c=77 then { y with m:=(none,0,0) } else { y with v:=(none,0,0) }
structure PK where
 d:Int
 a:Int
 b:Int
 c:Int
 n:Int
 l:Nat
 m:Nat
 v:Nat
def PK.zero (y:PK) (c:UInt8):PK:=
 if c=78 then { y with n:=0 } else if c=68 then { y with d:=0 } else if c=65 then { y with a:=0 } else if c=66 then { y with b:=0 } else if c=67 then { y with c:=0 }
 else if c=76 then { y with l:=0 } else if c=77 then { y with m:=0 } else { y with v:=0 }
def PK.plain (y:PK):Bool:=decide (y.d=0)&&decide (y.a=0)&&decide (y.b=0)&&decide (y.c=0)&&decide (y.n=0)&&decide (y.l=0)&&decide (y.m=0)&&decide (y.v=0)
def LI.key (y:LI):PK:=⟨y.d,y.a,y.b,y.c,y.n,y.l.2.1,y.m.2.1,y.v.2.1⟩
theorem LI.key_zero (y:LI) (c:UInt8):(y.zero c).key=y.key.zero c:=by
 unfold LI.zero PK.zero
 repeat' split
 all_goals rfl
theorem LI.key_fold (us:List UInt8):∀y:LI,(us.foldl LI.zero y).key=us.foldl PK.zero y.key:=by
 induction us with
 |nil=>intro y;rfl
 |cons c us ih=>intro y;rw [List.foldl_cons,List.foldl_cons,ih,LI.key_zero]
def plainK (op:Int) (k:PK):Bool:= !(usesL op).isEmpty&&((usesL op).foldl PK.zero k).plain
def plainF (x:Ins):Bool:=plainK x.op ⟨x.d,x.a,x.b,x.c,x.n,x.l.length,x.m.length,x.live.length⟩
section
variable {H:IH} {lo:Nat}
theorem u8_eq (c:UInt8) (k:Nat) (hk:k<256):decide ((c.toNat:Int)=(k:Int))=decide (c=UInt8.ofNat k):=by
 rw [decide_eq_decide]
 constructor
 ·intro h
  have:c.toNat=k:=by omega
  rw [←this];simp
 ·intro h
  rw [h];simp;omega
def numF (c:UInt8):Option Nat:=if c=68 then some 1 else if c=65 then some 2 else if c=66 then some 3 else if c=67 then some 4 else none
def lstF (c:UInt8):Nat:=if c=76 then 6 else if c=77 then 7 else 8
theorem c_number (b:Nat) (c:UInt8):cal J okAll 122 #[.pointer (some ⟨b,0,none⟩),.int .u8 (c.toNat:Int)] H=some (.ret (.pointer ((numF c).map fun k=>⟨b,k,none⟩)),H):=by
 rw [cal122 _ _ (by simp)]
 have e68:=u8_eq c 68 (by omega)
 have e65:=u8_eq c 65 (by omega)
 have e66:=u8_eq c 66 (by omega)
 have e67:=u8_eq c 67 (by omega)
 simp only [Int.cast_ofNat_Int,UInt8.reduceOfNat] at e68 e65 e66 e67
 unfold numF
 by_cases h1:c=68
 ·subst h1;simp [C122,regsOf,fin,iresult1]
 rw [if_neg h1]
 by_cases h2:c=65
 ·subst h2;simp [C122,regsOf,fin,iresult1]
 rw [if_neg h2]
 by_cases h3:c=66
 ·subst h3;simp [C122,regsOf,fin,iresult1]
 rw [if_neg h3]
 by_cases h4:c=67
 ·subst h4;simp [C122,regsOf,fin,iresult1]
 rw [if_neg h4]
 simp only [h1,h2,h3,h4,decide_false] at e68 e65 e66 e67
 simp [C122,regsOf,fin,iresult1,e68,e65,e66,e67]
theorem c_list (b:Nat) (c:UInt8):cal J okAll 123 #[.pointer (some ⟨b,0,none⟩),.int .u8 (c.toNat:Int)] H=some (.ret (.pointer (some ⟨b,lstF c,none⟩)),H):=by
 rw [cal123 _ _ (by simp)]
 have e68:=u8_eq c 76 (by omega)
 have e65:=u8_eq c 77 (by omega)
 simp only [Int.cast_ofNat_Int,UInt8.reduceOfNat] at e68 e65
 unfold lstF
 by_cases h1:c=76
 ·subst h1;simp [C123,regsOf,fin,iresult1]
 rw [if_neg h1]
 by_cases h2:c=77
 ·subst h2;simp [C123,regsOf,fin,iresult1]
 rw [if_neg h2]
 simp only [h1,h2,decide_false] at e68 e65
 simp [C123,regsOf,fin,iresult1,e68,e65]
theorem bin_nn (x y:Operand) (H:IH):binR J .neq 193 x y (.pointer none) (.pointer none) H=some (.val (.bool false) H):=binR_pure J H rfl rfl rfl (by kernel_rfl) rfl
@[simp] theorem iconvert_strb (s:ByteArray) (H:IH):iconvert J 9 34 (.string s) H=some (.slice (some ⟨H.next,0,none⟩) s.size capU,H.push (.cells (bytesCells s) 5 false)):=by
 simp [iconvert]
def bytesC (us:List UInt8):List Value:=us.map fun c=>.int .u8 (c.toNat:Int)
theorem loop73 (yb ub:Nat) (op:Int) (us:List UInt8) (hl:us.length≤100) (cc:Nat) (hyu:yb≠ub):∀(rest:List UInt8) (i:Nat) (T:Regs) (H':IH) (y:LI),us.drop i=rest→i≤us.length→H'.get yb=some (.cells (y.cells op) 30 false)→H'.get ub=some (.cells (bytesC us) 5 false)→
  T.at 3=ptrV yb→T.at 13=.slice (some ⟨ub,0,none⟩) us.length cc→T.at 14=.int .i64 (us.length:Int)→T.at 15=.int .i64 (i:Int)→
  ∃T' H'',run J okAll (.loop L73_0) T H'=some (.exit 0,T',H'')∧H''.next=H'.next∧(∀x,x≠yb→H''.get x=H'.get x)∧H''.get yb=some (.cells ((rest.foldl LI.zero y).cells op) 30 false)∧T'.at 3=ptrV yb∧T'.at 4=T.at 4:=by
 intro rest
 induction rest with
 |nil=>
  intro i T H' y hr hi hy hu t3 t13 t14 t15
  have:i=us.length:=by have:=congrArg List.length hr;simp at this;omega
  subst this
  rw [r_loop]
  simp [L73_0,t3,t13,t14,t15]
  exact ⟨_,_,⟨rfl,rfl⟩,rfl,fun _ _=>rfl,hy,by simp [t3],by simp⟩
 |cons c rest ih=>
  intro i T H' y hr hi hy hu t3 t13 t14 t15
  have hlt:i<us.length:=by have:=congrArg List.length hr;simp at this;omega
  have hj:us[i]?=some c:=by have:=congrArg (fun u=>u[0]?) hr;simpa using this
  have hr2:us.drop (i+1)=rest:=by rw [←List.tail_drop,hr];rfl
  have hc:(bytesC us)[i]?=some (.int .u8 (c.toNat:Int)):=by unfold bytesC;rw [List.getElem?_map,hj];rfl
  have hw1:IntKind.i64.wrap ((i:Int)+1)=((i+1:Nat):Int):=by rw [wrap64 _ (by omega) (by omega)];simp
  have e78:=u8_eq c 78 (by omega)
  simp only [Int.cast_ofNat_Int,UInt8.reduceOfNat] at e78
  have hcn:=c_number (H:=H') yb c
  have hcl:=c_list (H:=H') yb c
  simp only [ptrV] at t3
  generalize hbs:bytesC us=bs at*
  rw [List.foldl_cons]
  have step:∃T1,run J okAll (.loop L73_0) T H'=run J okAll (.loop L73_0) T1 (H'.set yb (.cells ((y.zero c).cells op) 30 false))∧T1.at 3=ptrV yb∧T1.at 13=.slice (some ⟨ub,0,none⟩) us.length cc∧T1.at 14=.int .i64 (us.length:Int)∧T1.at 15=.int .i64 ((i+1:Nat):Int)∧T1.at 4=T.at 4:=by
   simp only [LI.cells] at hy
   unfold LI.zero
   by_cases h1:c=78
   ·rw [if_pos h1]
    simp only [h1,decide_true] at e78
    rw [←h1] at e78
    rw [r_loop]
    simp [L73_0,t3,t13,t14,t15,hlt,iindexAddr,hu,hc,e78,hy,istore,Value.cells,plain1,overlay,hw1,LI.cells]
    exact ⟨_,rfl,by simp [t3,ptrV],by simp [t13],by simp [t14],by simp,by simp⟩
   rw [if_neg h1]
   simp only [h1,decide_false] at e78
   by_cases h68:c=68
   ·rw [if_pos h68]
    have hnf:numF c=some 1:=by rw [h68];rfl
    rw [hnf] at hcn
    simp only [Option.map_some] at hcn
    rw [r_loop]
    simp [L73_0,t3,t13,t14,t15,hlt,iindexAddr,hu,hc,e78,hy,istore,Value.cells,plain1,overlay,hw1,LI.cells,hcn,hcl,nilEq,fitsNil,bin_nn,slV]
    exact ⟨_,rfl,by simp [t3,ptrV],by simp [t13],by simp [t14],by simp,by simp⟩
   rw [if_neg h68]
   by_cases h65:c=65
   ·rw [if_pos h65]
    have hnf:numF c=some 2:=by rw [h65];rfl
    rw [hnf] at hcn
    simp only [Option.map_some] at hcn
    rw [r_loop]
    simp [L73_0,t3,t13,t14,t15,hlt,iindexAddr,hu,hc,e78,hy,istore,Value.cells,plain1,overlay,hw1,LI.cells,hcn,hcl,nilEq,fitsNil,bin_nn,slV]
    exact ⟨_,rfl,by simp [t3,ptrV],by simp [t13],by simp [t14],by simp,by simp⟩
   rw [if_neg h65]
   by_cases h66:c=66
   ·rw [if_pos h66]
    have hnf:numF c=some 3:=by rw [h66];rfl
    rw [hnf] at hcn
    simp only [Option.map_some] at hcn
    rw [r_loop]
    simp [L73_0,t3,t13,t14,t15,hlt,iindexAddr,hu,hc,e78,hy,istore,Value.cells,plain1,overlay,hw1,LI.cells,hcn,hcl,nilEq,fitsNil,bin_nn,slV]
    exact ⟨_,rfl,by simp [t3,ptrV],by simp [t13],by simp [t14],by simp,by simp⟩
   rw [if_neg h66]
   by_cases h67:c=67
   ·rw [if_pos h67]
    have hnf:numF c=some 4:=by rw [h67];rfl
    rw [hnf] at hcn
    simp only [Option.map_some] at hcn
    rw [r_loop]
    simp [L73_0,t3,t13,t14,t15,hlt,iindexAddr,hu,hc,e78,hy,istore,Value.cells,plain1,overlay,hw1,LI.cells,hcn,hcl,nilEq,fitsNil,bin_nn,slV]
    exact ⟨_,rfl,by simp [t3,ptrV],by simp [t13],by simp [t14],by simp,by simp⟩
   rw [if_neg h67]
   have hnf:numF c=none:=by simp [numF,h68,h65,h66,h67]
   rw [hnf] at hcn
   simp only [Option.map_none] at hcn
   by_cases h76:c=76
   ·rw [if_pos h76]
    have hlf:lstF c=6:=by rw [h76];rfl
    rw [hlf] at hcl
    rw [r_loop]
    simp [L73_0,t3,t13,t14,t15,hlt,iindexAddr,hu,hc,e78,hy,istore,Value.cells,plain1,overlay,hw1,LI.cells,hcn,hcl,nilEq,fitsNil,bin_nn,slV]
    exact ⟨_,rfl,by simp [t3,ptrV],by simp [t13],by simp [t14],by simp,by simp⟩
   rw [if_neg h76]
   by_cases h77:c=77
   ·rw [if_pos h77]
    have hlf:lstF c=7:=by rw [h77];rfl
    rw [hlf] at hcl
    rw [r_loop]
    simp [L73_0,t3,t13,t14,t15,hlt,iindexAddr,hu,hc,e78,hy,istore,Value.cells,plain1,overlay,hw1,LI.cells,hcn,hcl,nilEq,fitsNil,bin_nn,slV]
    exact ⟨_,rfl,by simp [t3,ptrV],by simp [t13],by simp [t14],by simp,by simp⟩
   rw [if_neg h77]
   have hlf:lstF c=8:=by simp [lstF,h76,h77]
   rw [hlf] at hcl
   rw [r_loop]
   simp [L73_0,t3,t13,t14,t15,hlt,iindexAddr,hu,hc,e78,hy,istore,Value.cells,plain1,overlay,hw1,LI.cells,hcn,hcl,nilEq,fitsNil,bin_nn,slV]
   exact ⟨_,rfl,by simp [t3,ptrV],by simp [t13],by simp [t14],by simp,by simp⟩
  obtain ⟨T1,s1,s2,s3,s4,s5,s6⟩:=step
  obtain ⟨T',H'',q1,q2,q3,q4,q5,q6⟩:=ih (i+1) T1 (H'.set yb (.cells ((y.zero c).cells op) 30 false)) (y.zero c) hr2 (by omega) (by rw [IH.get_set,if_pos rfl]) (by rw [IH.get_set,if_neg (Ne.symm hyu)];exact hu) s2 s3 s4 s5
  exact ⟨T',H'',s1.trans q1,q2.trans rfl,fun x hx=>(q3 x hx).trans (by rw [IH.get_set,if_neg hx]),q4,q5,q6.trans s6⟩
def insV (x:Ins) (l m v:Option Addr×Nat×Nat):Value:=.agg #[.int .i64 x.op,.int .i64 x.d,.int .i64 x.a,.int .i64 x.b,.int .i64 x.c,.int .i64 x.n,slV l,slV m,slV v]
theorem ite_len {p:Prop} [Decidable p] {a b:List UInt8} (h1:a.length≤100) (h2:b.length≤100):(if p then a else b).length≤100:=by split<;>assumption
theorem usesL_len (op:Int):(usesL op).length≤100:=by
 unfold usesL
 repeat' (refine ite_len ?_ ?_)
 all_goals exact by decide
theorem c_Plain (x:Ins) (l m v:Option Addr×Nat×Nat) (hl:l.2.1=x.l.length) (hm:m.2.1=x.m.length) (hv:v.2.1=x.live.length):∃H',cal J okAll 73 #[insV x l m v] H=some (.ret (.bool (plainF x)),H')∧Fr H.next H H':=by
 rw [cal73 _ _ (by simp)]
 have hu:=fun H=>c_Uses (H:=H) x.op
 obtain ⟨la,ln,lc⟩:=l
 obtain ⟨ma,mn,mc⟩:=m
 obtain ⟨va,vn,vc⟩:=v
 dsimp only at hl hm hv
 subst hl hm hv
 have husz:(usesB x.op).size=(usesL x.op).length:=by simp [usesB,ByteArray.size]
 have hul:=usesL_len x.op
 have hbc:bytesCells (usesB x.op)=bytesC (usesL x.op):=by simp [bytesCells,bytesC,usesB]
 have hstr:decide (usesB x.op=⟨#[]⟩)=(usesL x.op).isEmpty:=by
  unfold usesB
  cases usesL x.op with
  |nil=>rfl
  |cons c l=>simp
 simp [C73,regsOf,fin,iresult1,insV,slV,inew,Value.cells,IH.get_push,istore,plain1,overlay,IH.get_set,loadT_agg,hu,husz,hbc]
 generalize hX:run J okAll (.loop L73_0) _ _=X
 have hFr:Fr H.next H ((((H.push (.cells [.int .i64 x.op,.int .i64 x.d,.int .i64 x.a,.int .i64 x.b,.int .i64 x.c,.int .i64 x.n,.slice la x.l.length lc,.slice ma x.m.length mc,.slice va x.live.length vc] 30 false)).push (.cells [.int .i64 0,.int .i64 0,.int .i64 0,.int .i64 0,.int .i64 0,.int .i64 0,.slice none 0 0,.slice none 0 0,.slice none 0 0] 30 false)).set (H.next+1) (.cells [.int .i64 x.op,.int .i64 x.d,.int .i64 x.a,.int .i64 x.b,.int .i64 x.c,.int .i64 x.n,.slice la x.l.length lc,.slice ma x.m.length mc,.slice va x.live.length vc] 30 false)).push (.cells (bytesC (usesL x.op)) 5 false)):=
  ((((Fr.refl _ _).push (Nat.le_refl _) _).push (by simp) _).set (by omega) _).push (by simp;omega) _
 generalize hG:((((H.push (.cells [.int .i64 x.op,.int .i64 x.d,.int .i64 x.a,.int .i64 x.b,.int .i64 x.c,.int .i64 x.n,.slice la x.l.length lc,.slice ma x.m.length mc,.slice va x.live.length vc] 30 false)).push (.cells [.int .i64 0,.int .i64 0,.int .i64 0,.int .i64 0,.int .i64 0,.int .i64 0,.slice none 0 0,.slice none 0 0,.slice none 0 0] 30 false)).set (H.next+1) (.cells [.int .i64 x.op,.int .i64 x.d,.int .i64 x.a,.int .i64 x.b,.int .i64 x.c,.int .i64 x.n,.slice la x.l.length lc,.slice ma x.m.length mc,.slice va x.live.length vc] 30 false)).push (.cells (bytesC (usesL x.op)) 5 false))=G at*
 have g1:G.get (H.next+1)=some (.cells (LI.cells x.op ⟨x.d,x.a,x.b,x.c,x.n,(la,x.l.length,lc),(ma,x.m.length,mc),(va,x.live.length,vc)⟩) 30 false):=by
  rw [←hG,IH.get_push_other _ _ _ (by simp),IH.get_set,if_pos rfl];rfl
 have g2:G.get (H.next+1+1)=some (.cells (bytesC (usesL x.op)) 5 false):=by rw [←hG];simp [IH.get_push]
 obtain ⟨T1,hT,a3,a13,a14,a15,a4⟩:∃T1,run J okAll (.loop L73_0) T1 G=X∧T1.at 3=ptrV (H.next+1)∧T1.at 13=.slice (some ⟨H.next+1+1,0,none⟩) (usesL x.op).length capU∧T1.at 14=.int .i64 ((usesL x.op).length:Int)∧T1.at 15=.int .i64 ((0:Nat):Int)∧T1.at 4=.string (usesB x.op):=⟨_,hX,by simp [ptrV],by simp,by simp,by simp,by simp⟩
 obtain ⟨T',H2,q1,q2,q3,q4,q5,q6⟩:=loop73 (H.next+1) (H.next+1+1) x.op (usesL x.op) hul capU (by omega) (usesL x.op) 0 T1 G _ rfl (by omega) g1 g2 a3 a13 a14 a15
 have q1:=hT.symm.trans q1
 subst q1
 rw [a4] at q6
 have hkey:=LI.key_fold (usesL x.op) ⟨x.d,x.a,x.b,x.c,x.n,(la,x.l.length,lc),(ma,x.m.length,mc),(va,x.live.length,vc)⟩
 generalize hy:(usesL x.op).foldl LI.zero ⟨x.d,x.a,x.b,x.c,x.n,(la,x.l.length,lc),(ma,x.m.length,mc),(va,x.live.length,vc)⟩=y at*
 have hF:Fr H.next H H2:=hFr.trans ⟨by omega,fun z hz=>q3 z (by omega)⟩
 have hpf:plainF x=(!(usesL x.op).isEmpty&&y.key.plain):=by
  unfold plainF plainK
  rw [hkey];rfl
 rw [hpf]
 simp only [ptrV] at q5
 simp only [LI.cells,slV] at q4
 unfold PK.plain LI.key
 simp only
 cases b0:(usesL x.op).isEmpty with
 |true=>simp [regsOf,fin,iresult1,q5,q6,hstr,b0];exact hF
 |false=>
  cases b1:decide (y.d=0) with
  |false=>simp [regsOf,fin,iresult1,q5,q6,hstr,b0,q4,b1];exact hF
  |true=>
   cases b2:decide (y.a=0) with
   |false=>simp [regsOf,fin,iresult1,q5,q6,hstr,b0,q4,b1,b2];exact hF
   |true=>
    cases b3:decide (y.b=0) with
    |false=>simp [regsOf,fin,iresult1,q5,q6,hstr,b0,q4,b1,b2,b3];exact hF
    |true=>
     cases b4:decide (y.c=0) with
     |false=>simp [regsOf,fin,iresult1,q5,q6,hstr,b0,q4,b1,b2,b3,b4];exact hF
     |true=>
      cases b5:decide (y.n=0) with
      |false=>simp [regsOf,fin,iresult1,q5,q6,hstr,b0,q4,b1,b2,b3,b4,b5];exact hF
      |true=>
       cases b6:decide (y.l.2.1=0) with
       |false=>simp [regsOf,fin,iresult1,q5,q6,hstr,b0,q4,b1,b2,b3,b4,b5,b6];exact hF
       |true=>
        cases b7:decide (y.m.2.1=0) with
        |false=>simp [regsOf,fin,iresult1,q5,q6,hstr,b0,q4,b1,b2,b3,b4,b5,b6,b7];exact hF
        |true=>simp [regsOf,fin,iresult1,q5,q6,hstr,b0,q4,b1,b2,b3,b4,b5,b6,b7];exact hF
end
theorem cellsOf_of {cs vs:List Value} {e:TypeId} {pr:Bool} {off n:Nat} (hn:vs.length=n) (h0:0<n) (h:∀j,j<n→cs[off+j]?=vs[j]?):cellsOf (some (.cells cs e pr)) off n=some vs:=by
 have hl:off+n≤cs.length:=by
  have h1:=h (n-1) (by omega)
  rw [List.getElem?_eq_getElem (show n-1<vs.length by omega)] at h1
  obtain ⟨h2,_⟩:=List.getElem?_eq_some_iff.1 h1
  omega
 rw [cellsOf_cells,if_pos hl]
 congr 1
 apply List.ext_getElem?
 intro j
 by_cases hj:j<n
 ·rw [List.getElem?_take,if_pos hj,List.getElem?_drop];exact h j hj
 ·rw [List.getElem?_take,if_neg hj,List.getElem?_eq_none (by omega)]
def firstG {α:Type} (p:α→Bool):Nat→List α→Int
 |_,[]=> -1
 |i,n::l=>if p n then (i:Int) else firstG p (i+1) l
theorem firstG_nonneg {α:Type} (p:α→Bool):∀(l:List α) (i:Nat),decide (0≤firstG p i l)=l.any p
 | [],i=>by simp [firstG]
 |n::l,i=>by
  unfold firstG
  cases h:p n with
  |true=>simp [h]
  |false=>simp [h,firstG_nonneg p l (i+1)]
theorem Fr.of_le {lo lo':Nat} {H H':IH} (h:Fr lo' H H') (hl:lo≤lo'):Fr lo H H':=⟨h.1,fun x hx=>h.2 x (by omega)⟩
section
variable {H:IH} {lo:Nat}
theorem InsAt.cells {b off:Nat} {x:Ins} (h:InsAt H lo b off x):∃cs pr l m v,H.get b=some (.cells cs 30 pr)∧cellsOf (some (.cells cs 30 pr)) off 9=some [.int .i64 x.op,.int .i64 x.d,.int .i64 x.a,.int .i64 x.b,.int .i64 x.c,.int .i64 x.n,slV l,slV m,slV v]∧l.2.1=x.l.length∧m.2.1=x.m.length∧v.2.1=x.live.length:=by
 obtain ⟨cs,pr,vl,vm,vv,g0,g1,g2,g3,g4,g5,g6,g7,g8,g9,g10,g11,g12⟩:=h.ex
 obtain ⟨la,lc,rfl,_⟩:=g10
 obtain ⟨ma,mc,rfl,_⟩:=g11
 obtain ⟨va,vc,rfl,_⟩:=g12
 refine ⟨cs,pr,(la,x.l.length,lc),(ma,x.m.length,mc),(va,x.live.length,vc),g0,cellsOf_of rfl (by omega) fun j hj=>?_,rfl,rfl,rfl⟩
 match j,hj with
 |0,_=>simpa using g1
 |1,_=>simpa using g2
 |2,_=>simpa using g3
 |3,_=>simpa using g4
 |4,_=>simpa using g5
 |5,_=>simpa using g6
 |6,_=>simpa [slV] using g7
 |7,_=>simpa [slV] using g8
 |8,_=>simpa [slV] using g9
theorem c_plainc (x:Ins) (l m v:Option Addr×Nat×Nat) (hl:l.2.1=x.l.length) (hm:m.2.1=x.m.length) (hv:v.2.1=x.live.length):∃H',cal J okAll 72 #[insV x l m v] H=some (.ret (.bool (!plainF x)),H')∧Fr H.next H H':=by
 rw [cal72 _ _ (by simp)]
 obtain ⟨H',c1,f1⟩:=c_Plain (H:=H.push (.cells [.int .i64 x.op,.int .i64 x.d,.int .i64 x.a,.int .i64 x.b,.int .i64 x.c,.int .i64 x.n,slV l,slV m,slV v] 30 false)) x l m v hl hm hv
 simp only [insV] at c1 ⊢
 simp [C72,regsOf,fin,iresult1,inew,Value.cells,IH.get_push,loadT_agg,c1]
 exact ⟨by have:=f1.1;simp at this;omega,fun z hz=>by rw [f1.2 z (by simp;omega),IH.get_push_other _ _ _ hz]⟩
theorem c_plainl {v:Value} {l:List Ins} (hv:LAt lo 9 (InsAt H lo) v l) (hlo:lo≤H.next) (hl:l.length≤100000):∀(rest:List Ins) (i:Nat) (T:Regs) (H':IH),l.drop i=rest→i≤l.length→Fr H.next H H'→
  T.at 0=v→T.at 1=.func (.func 72) #[] #[]→T.at 7=.int .i64 (l.length:Int)→T.at 8=.int .i64 (i:Int)→
  ∃T' H'',Fr H.next H H''∧((firstG (fun x=> !plainF x) i rest= -1∧run J okAll (.loop L120_0) T H'=some (.exit 0,T',H''))∨(run J okAll (.loop L120_0) T H'=some (.ret,T',H'')∧T'.at 4=.int .i64 (firstG (fun x=> !plainF x) i rest))):=by
 intro rest
 induction rest with
 |nil=>
  intro i T H' hr hi hf t0 t1 t7 t8
  have:i=l.length:=by have:=congrArg List.length hr;simp at this;omega
  subst this
  rw [r_loop]
  obtain ⟨a,c,rfl,_⟩:=id hv
  simp [L120_0,t0,t1,t7,t8,firstG]
  exact hf
 |cons x rest ih=>
  intro i T H' hr hi hf t0 t1 t7 t8
  have hlt:i<l.length:=by have:=congrArg List.length hr;simp at this;omega
  have hj:l[i]?=some x:=by have:=congrArg (fun u=>u[0]?) hr;simpa using this
  have hr2:l.drop (i+1)=rest:=by rw [←List.tail_drop,hr];rfl
  obtain ⟨b,o,c,rfl,hb,_,hcell⟩:=hv.get hj
  have hsb:SameB lo H H':=fun z hz=>hf.2 z (Nat.lt_of_lt_of_le hz hlo)
  obtain ⟨cs,pr,sl,sm,sv,g0,g1,g2,g3,g4⟩:=(hcell.same hsb hb).cells
  obtain ⟨H2,c1,f1⟩:=c_plainc (H:=H') x sl sm sv g2 g3 g4
  have hf2:=hf.trans (f1.of_le hf.1)
  have hw1:IntKind.i64.wrap ((i:Int)+1)=((i+1:Nat):Int):=by rw [wrap64 _ (by omega) (by omega)];simp
  simp only [insV] at c1
  simp only [firstG]
  rcases Bool.eq_false_or_eq_true (plainF x) with hp|hp
  case inr=>
   rw [hp] at c1
   rw [if_pos (by simp [hp])]
   obtain ⟨T',key⟩:∃T',run J okAll (.loop L120_0) T H'=some (.ret,T',H2)∧T'.at 4=.int .i64 (i:Int):=by
    rw [r_loop]
    simp [L120_0,t0,t1,t7,t8,hlt,iindexAddr,g0,g1,loadT_agg,c1]
   exact ⟨T',H2,hf2,.inr key⟩
  case inl=>
   rw [hp] at c1
   rw [if_neg (by simp [hp]),r_loop]
   simp [L120_0,t0,t1,t7,t8,hlt,iindexAddr,g0,g1,loadT_agg,c1,hw1]
   exact ih (i+1) _ _ hr2 (by omega) hf2 (by simp [t0]) (by simp [t1]) (by simp [t7]) (by simp)
theorem c_plains {v:Value} {l:List Ins} (hv:LAt lo 9 (InsAt H lo) v l) (hlo:lo≤H.next) (hl:l.length≤100000):∃H',Fr H.next H H'∧cal J okAll 71 #[v,.func (.func 72) #[] #[]] H=some (.ret (.bool (l.any fun x=> !plainF x)),H'):=by
 rw [cal71 _ _ (by simp)]
 have k2:∃H',Fr H.next H H'∧cal J okAll 120 #[v,.func (.func 72) #[] #[]] H=some (.ret (.int .i64 (firstG (fun x=> !plainF x) 0 l)),H'):=by
  rw [cal120 _ _ (by simp)]
  obtain ⟨a,c,rfl,_⟩:=id hv
  simp [C120,regsOf,fin,iresult1]
  generalize hX:run J okAll (.loop L120_0) _ _=X
  obtain ⟨T1,hT,a0,a1,a7,a8⟩:∃T1,run J okAll (.loop L120_0) T1 H=X∧T1.at 0=.slice a l.length c∧T1.at 1=.func (.func 72) #[] #[]∧T1.at 7=.int .i64 (l.length:Int)∧T1.at 8=.int .i64 ((0:Nat):Int):=⟨_,hX,by simp,by simp,by simp,by simp⟩
  obtain ⟨T',H',f,h1|⟨h1,h2⟩⟩:=c_plainl hv hlo hl l 0 T1 H rfl (by omega) (Fr.refl _ _) a0 a1 a7 a8
  ·have h2:=hT.symm.trans h1.2
   subst h2
   simp [regsOf,fin,iresult1,h1.1]
   exact f
  ·have h1:=hT.symm.trans h1
   subst h1
   simp [regsOf,fin,iresult1,h2]
   exact f
 obtain ⟨H',f,k2⟩:=k2
 have k3:=firstG_nonneg (fun x=> !plainF x) l 0
 refine ⟨H',f,?_⟩
 simp [C71,regsOf,fin,iresult1,k2]
 exact k3
end
theorem nxs (H:IH) (b:Nat) (x:Blk):(H.set b x).next=H.next:=id rfl
theorem nxp (H:IH) (x:Blk):(H.push x).next=H.next+1:=id rfl
theorem bs_int1 (H:IH) (a:Option Addr) (n c:Nat):ibuildSlice J 260 1 [(0,.slice a n c)] H=some (.slice (some ⟨H.next,0,none⟩) 1 1,H.push (.cells [.slice a n c] 28 false)):=by kernel_rfl
theorem bs_int2 (H:IH) (a b:Option Addr) (n c m d:Nat):ibuildSlice J 260 2 [(0,.slice a n c),(1,.slice b m d)] H=some (.slice (some ⟨H.next,0,none⟩) 2 2,H.push (.cells [.slice a n c,.slice b m d] 28 false)):=by kernel_rfl
theorem ov_int1 (H:IH) (nb:Nat) (hnb:H.next=nb) (a:Option Addr) (n c:Nat) (most:Int):cal J okAll 118 #[.int .i64 most,.slice (some ⟨nb,0,none⟩) 1 1] (H.push (.cells [.slice a n c] 28 false))=some (.ret (.bool (decide (most<n))),(H.push (.cells [.slice a n c] 28 false)).push (.cells [.int .i64 most] 3 false)):=by
 subst hnb
 have:=c_over_4 (H:=H.push (.cells [.slice a n c] 28 false)) H.next most [(a,n,c)] (by simp) (by simp) (IH.get_push_same _ _)
 simpa using this
theorem ov_int2 (H:IH) (nb:Nat) (hnb:H.next=nb) (a b:Option Addr) (n c m d:Nat) (most:Int):cal J okAll 118 #[.int .i64 most,.slice (some ⟨nb,0,none⟩) 2 2] (H.push (.cells [.slice a n c,.slice b m d] 28 false))=some (.ret (.bool (decide (most<n)||decide (most<m))),(H.push (.cells [.slice a n c,.slice b m d] 28 false)).push (.cells [.int .i64 most] 3 false)):=by
 subst hnb
 have:=c_over_4 (H:=H.push (.cells [.slice a n c,.slice b m d] 28 false)) H.next most [(a,n,c),(b,m,d)] (by simp) (by simp) (IH.get_push_same _ _)
 simpa using this
theorem bs_type (H:IH) (a:Option Addr) (n c:Nat):ibuildSlice J 246 1 [(0,.slice a n c)] H=some (.slice (some ⟨H.next,0,none⟩) 1 1,H.push (.cells [.slice a n c] 22 false)):=by kernel_rfl
theorem ov_type (H:IH) (nb:Nat) (hnb:H.next=nb) (a:Option Addr) (n c:Nat) (most:Int):cal J okAll 113 #[.int .i64 most,.slice (some ⟨nb,0,none⟩) 1 1] (H.push (.cells [.slice a n c] 22 false))=some (.ret (.bool (decide (most<n))),(H.push (.cells [.slice a n c] 22 false)).push (.cells [.int .i64 most] 3 false)):=by
 subst hnb
 have:=c_over_0 (H:=H.push (.cells [.slice a n c] 22 false)) H.next most [(a,n,c)] (by simp) (by simp) (IH.get_push_same _ _)
 simpa using this
theorem bs_shape (H:IH) (a:Option Addr) (n c:Nat):ibuildSlice J 249 1 [(0,.slice a n c)] H=some (.slice (some ⟨H.next,0,none⟩) 1 1,H.push (.cells [.slice a n c] 23 false)):=by kernel_rfl
theorem ov_shape (H:IH) (nb:Nat) (hnb:H.next=nb) (a:Option Addr) (n c:Nat) (most:Int):cal J okAll 114 #[.int .i64 most,.slice (some ⟨nb,0,none⟩) 1 1] (H.push (.cells [.slice a n c] 23 false))=some (.ret (.bool (decide (most<n))),(H.push (.cells [.slice a n c] 23 false)).push (.cells [.int .i64 most] 3 false)):=by
 subst hnb
 have:=c_over_1 (H:=H.push (.cells [.slice a n c] 23 false)) H.next most [(a,n,c)] (by simp) (by simp) (IH.get_push_same _ _)
 simpa using this
theorem bs_strs (H:IH) (a b:Option Addr) (n c m d:Nat):ibuildSlice J 252 2 [(0,.slice a n c),(1,.slice b m d)] H=some (.slice (some ⟨H.next,0,none⟩) 2 2,H.push (.cells [.slice a n c,.slice b m d] 24 false)):=by kernel_rfl
theorem ov_strs (H:IH) (nb:Nat) (hnb:H.next=nb) (a b:Option Addr) (n c m d:Nat) (most:Int):cal J okAll 115 #[.int .i64 most,.slice (some ⟨nb,0,none⟩) 2 2] (H.push (.cells [.slice a n c,.slice b m d] 24 false))=some (.ret (.bool (decide (most<n)||decide (most<m))),(H.push (.cells [.slice a n c,.slice b m d] 24 false)).push (.cells [.int .i64 most] 3 false)):=by
 subst hnb
 have:=c_over_2 (H:=H.push (.cells [.slice a n c,.slice b m d] 24 false)) H.next most [(a,n,c),(b,m,d)] (by simp) (by simp) (IH.get_push_same _ _)
 simpa using this
theorem bs_func (H:IH) (a:Option Addr) (n c:Nat):ibuildSlice J 255 1 [(0,.slice a n c)] H=some (.slice (some ⟨H.next,0,none⟩) 1 1,H.push (.cells [.slice a n c] 25 false)):=by kernel_rfl
theorem ov_func (H:IH) (nb:Nat) (hnb:H.next=nb) (a:Option Addr) (n c:Nat) (most:Int):cal J okAll 116 #[.int .i64 most,.slice (some ⟨nb,0,none⟩) 1 1] (H.push (.cells [.slice a n c] 25 false))=some (.ret (.bool (decide (most<n))),(H.push (.cells [.slice a n c] 25 false)).push (.cells [.int .i64 most] 3 false)):=by
 subst hnb
 have:=c_over_3 (H:=H.push (.cells [.slice a n c] 25 false)) H.next most [(a,n,c)] (by simp) (by simp) (IH.get_push_same _ _)
 simpa using this
theorem bs_block (H:IH) (a:Option Addr) (n c:Nat):ibuildSlice J 262 1 [(0,.slice a n c)] H=some (.slice (some ⟨H.next,0,none⟩) 1 1,H.push (.cells [.slice a n c] 57 false)):=by kernel_rfl
theorem ov_block (H:IH) (nb:Nat) (hnb:H.next=nb) (a:Option Addr) (n c:Nat) (most:Int):cal J okAll 119 #[.int .i64 most,.slice (some ⟨nb,0,none⟩) 1 1] (H.push (.cells [.slice a n c] 57 false))=some (.ret (.bool (decide (most<n))),(H.push (.cells [.slice a n c] 57 false)).push (.cells [.int .i64 most] 3 false)):=by
 subst hnb
 have:=c_over_5 (H:=H.push (.cells [.slice a n c] 57 false)) H.next most [(a,n,c)] (by simp) (by simp) (IH.get_push_same _ _)
 simpa using this
theorem bs_str (H:IH) (s:ByteArray):ibuildSlice J 24 1 [(0,.string s)] H=some (.slice (some ⟨H.next,0,none⟩) 1 1,H.push (.cells [.string s] 9 false)):=by kernel_rfl
theorem wide1 (H:IH) (nb:Nat) (hnb:H.next=nb) (s:ByteArray):cal J okAll 117 #[.slice (some ⟨nb,0,none⟩) 1 1] (H.push (.cells [.string s] 9 false))=some (.ret (.bool (decide (16384<(s.size:Int)))),H.push (.cells [.string s] 9 false)):=by
 subst hnb
 have:=c_wide (H:=H.push (.cells [.string s] 9 false)) (lo:=H.next+1) (v:=.slice (some ⟨H.next,0,none⟩) 1 1) (l:=[s]) ⟨_,1,rfl,fun _=>⟨H.next,0,rfl,by omega,fun i hi=>by
  have:i=0:=by simp at hi;omega
  subst this
  exact ⟨[.string s],false,IH.get_push_same _ _,rfl⟩⟩⟩ (by simp)
 simpa using this
section
variable {H:IH} {lo:Nat}
theorem loop70t {v:Value} {l:List Typ} (hv:LAt lo 2 (TypAt H lo) v l) (hlo:lo≤H.next) (hl:l.length≤100000) (K:Nat→Value):∀(rest:List Typ) (i:Nat) (T:Regs) (H':IH),l.drop i=rest→i≤l.length→Fr H.next H H'→
  (∀t,t<4→T.at t=K t)→T.at 49=v→T.at 50=.int .i64 (l.length:Int)→T.at 51=.int .i64 (i:Int)→
  ∃T' H'',Fr H.next H H''∧((rest.any (fun x=>decide ((512:Int)<x.shapes.length))=true∧run J okAll (.loop L70_0) T H'=some (.ret,T',H'')∧T'.at 2=.bool true)∨(rest.any (fun x=>decide ((512:Int)<x.shapes.length))=false∧run J okAll (.loop L70_0) T H'=some (.exit 0,T',H'')∧(∀t,t<4→T'.at t=K t))):=by
 intro rest
 induction rest with
 |nil=>
  intro i T H' hr hi hf hK t49 t50 t51
  have:i=l.length:=by have:=congrArg List.length hr;simp at this;omega
  subst this
  obtain ⟨T',key⟩:∃T',run J okAll (.loop L70_0) T H'=some (.exit 0,T',H')∧(∀t,t<4→T'.at t=K t):=by
   rw [r_loop]
   simp [L70_0,t49,t50,t51]
   exact fun t ht=>by simp (disch:=omega) only [at_set_gt];exact hK t ht
  exact ⟨T',H',hf,.inr ⟨rfl,key⟩⟩
 |cons x rest ih=>
  intro i T H' hr hi hf hK t49 t50 t51
  have hlt:i<l.length:=by have:=congrArg List.length hr;simp at this;omega
  have hj:l[i]?=some x:=by have:=congrArg (fun u=>u[0]?) hr;simpa using this
  have hr2:l.drop (i+1)=rest:=by rw [←List.tail_drop,hr];rfl
  obtain ⟨b,o,c,rfl,hb,_,hcell⟩:=hv.get hj
  have hsb:SameB lo H H':=fun z hz=>hf.2 z (Nat.lt_of_lt_of_le hz hlo)
  obtain ⟨cs,pr,vf,g0,g1,g2,g3⟩:=(hcell.same hsb hb).ex
  obtain ⟨sa,sc,rfl,_⟩:=id g3
  have hco:cellsOf (some (.cells cs 88 pr)) (o+i*2) 2=some [.bool x.imm,.slice sa x.shapes.length sc]:=cellsOf_of rfl (by omega) fun j hj=>by
   match j,hj with
   |0,_=>simpa using g1
   |1,_=>simpa using g2
  have hw1:IntKind.i64.wrap ((i:Int)+1)=((i+1:Nat):Int):=by rw [wrap64 _ (by omega) (by omega)];simp
  have hn:=hf.1
  by_cases hp:(512:Int)<x.shapes.length
  ·have hd:decide ((512:Int)<x.shapes.length)=true:=decide_eq_true hp
   obtain ⟨T',H'',key,hF⟩:∃T' H'',(run J okAll (.loop L70_0) T H'=some (.ret,T',H'')∧T'.at 2=.bool true)∧Fr H.next H H'':=by
    rw [r_loop]
    simp [L70_0,t49,t50,t51,hlt,iindexAddr,g0,hco,loadT_agg,inew,istore,Value.cells,plain1,overlay,IH.get_push,IH.get_set,iparts,-IH.next_set,-IH.next_push,nxs,nxp,bs_int1,ov_int1,hd]
    refine ⟨_,_,⟨⟨rfl,rfl⟩,by simp⟩,?_⟩
    repeat' first|exact hf|apply Fr.push|apply Fr.set
    all_goals first|omega|(simp<;>omega)
   exact ⟨T',H'',hF,.inl ⟨by simp [hp],key⟩⟩
  ·have hd:decide ((512:Int)<x.shapes.length)=false:=decide_eq_false hp
   obtain ⟨T1,H2,s1,hF,s2,s3,s4,s5⟩:∃T1 H2,run J okAll (.loop L70_0) T H'=run J okAll (.loop L70_0) T1 H2∧Fr H.next H H2∧(∀t,t<4→T1.at t=K t)∧T1.at 49=.slice (some ⟨b,o,none⟩) l.length c∧T1.at 50=.int .i64 (l.length:Int)∧T1.at 51=.int .i64 ((i+1:Nat):Int):=by
    rw [r_loop]
    simp [L70_0,t49,t50,t51,hlt,iindexAddr,g0,hco,loadT_agg,inew,istore,Value.cells,plain1,overlay,IH.get_push,IH.get_set,iparts,-IH.next_set,-IH.next_push,nxs,nxp,bs_int1,ov_int1,hd,hw1]
    refine ⟨_,_,rfl,?_,fun t ht=>by simp (disch:=omega) only [at_set_gt];exact hK t ht,by simp [t49],by simp [t50],by simp⟩
    repeat' first|exact hf|apply Fr.push|apply Fr.set
    all_goals first|omega|(simp<;>omega)
   obtain ⟨T',H'',f,d⟩:=ih (i+1) T1 H2 hr2 (by omega) hF s2 s3 s4 s5
   rw [s1]
   simp only [List.any_cons,hd,Bool.false_or]
   exact ⟨T',H'',f,d⟩
end
theorem at_set_om (T:Regs) (d t:Nat) (v:Value) (h:t≠d):Regs.at (Tr.set T d v) t=T.at t:=by rw [at_set,if_neg h]
def bigShape (x:Shp):Bool:=decide ((200:Int)<x.fields.length)||decide ((16384:Int)<x.name.size)
def bigCode (x:Ins):Bool:=decide ((1024:Int)<x.l.length)||decide ((1024:Int)<x.m.length)||decide ((200:Int)<x.live.length)
def bigBlocks:Int→List Bl→Option Int
 |left,[]=>some left
 |left,b::bs=>if decide (left-b.code.length<0)||decide ((200:Int)<b.inn.length)||b.code.any bigCode then none else bigBlocks (left-b.code.length) bs
def bigFns:Int→List Fn→Option Int
 |left,[]=>some left
 |left,f::fs=>if decide (200<f.slots)||decide ((200:Int)<f.params.length)||decide ((2000:Int)<f.blocks.length) then none else
  match bigBlocks left f.blocks with
  |none=>none
  |some l=>bigFns l fs
section
variable {H:IH} {lo:Nat}
theorem loop70s {v:Value} {l:List Shp} (hv:LAt lo 3 (ShpAt H lo) v l) (hlo:lo≤H.next) (hl:l.length≤100000) (K:Nat→Value):∀(rest:List Shp) (i:Nat) (T:Regs) (H':IH),l.drop i=rest→i≤l.length→Fr H.next H H'→
  (∀t,t<4→T.at t=K t)→T.at 61=v→T.at 62=.int .i64 (l.length:Int)→T.at 63=.int .i64 (i:Int)→
  ∃T' H'',Fr H.next H H''∧((rest.any bigShape=true∧run J okAll (.loop L70_1) T H'=some (.ret,T',H'')∧T'.at 2=.bool true)∨(rest.any bigShape=false∧run J okAll (.loop L70_1) T H'=some (.exit 2,T',H'')∧(∀t,t<4→T'.at t=K t))):=by
 intro rest
 induction rest with
 |nil=>
  intro i T H' hr hi hf hK tv tl ti
  have:i=l.length:=by have:=congrArg List.length hr;simp at this;omega
  subst this
  obtain ⟨T',key⟩:∃T',run J okAll (.loop L70_1) T H'=some (.exit 2,T',H')∧(∀t,t<4→T'.at t=K t):=by
   rw [r_loop]
   simp [L70_1,tv,tl,ti]
   first|exact fun t ht=>by simp (disch:=omega) only [at_set_om];exact hK t ht|exact fun t h1 h2=>by simp (disch:=omega) only [at_set_om];exact hK t ⟨h1,h2⟩
  exact ⟨T',H',hf,.inr ⟨rfl,key⟩⟩
 |cons x rest ih=>
  intro i T H' hr hi hf hK tv tl ti
  have hlt:i<l.length:=by have:=congrArg List.length hr;simp at this;omega
  have hj:l[i]?=some x:=by have:=congrArg (fun u=>u[0]?) hr;simpa using this
  have hr2:l.drop (i+1)=rest:=by rw [←List.tail_drop,hr];rfl
  obtain ⟨b,o,c,rfl,hb,_,hcell⟩:=hv.get hj
  have hsb:SameB lo H H':=fun z hz=>hf.2 z (Nat.lt_of_lt_of_le hz hlo)
  have hw1:IntKind.i64.wrap ((i:Int)+1)=((i+1:Nat):Int):=by rw [wrap64 _ (by omega) (by omega)];simp
  have hn:=hf.1
  have nx2:¬H'.next=H'.next+1+1:=by omega
  have nx3:¬H'.next=H'.next+1+1+1:=by omega
  have nx4:¬H'.next=H'.next+1+1+1+1:=by omega
  obtain ⟨cs,pr,vf,g0,g1,g2,g3,g4⟩:=(hcell.same hsb hb).ex
  obtain ⟨sa,sc,rfl,_⟩:=id g4
  have hco:cellsOf (some (.cells cs 90 pr)) (o+i*3) 3=some [.int .i64 x.kind,.slice sa x.fields.length sc,.string x.name]:=cellsOf_of rfl (by omega) fun j hj=>by
   match j,hj with
   |0,_=>simpa using g1
   |1,_=>simpa using g2
   |2,_=>simpa using g3
  by_cases hp:(200:Int)<x.fields.length
  ·have hd:decide ((200:Int)<x.fields.length)=true:=decide_eq_true hp
   obtain ⟨T',H'',key,hF⟩:∃T' H'',(run J okAll (.loop L70_1) T H'=some (.ret,T',H'')∧T'.at 2=.bool true)∧Fr H.next H H'':=by
    rw [r_loop]
    simp [L70_1,tv,tl,ti,hlt,iindexAddr,g0,hco,loadT_agg,inew,istore,Value.cells,plain1,overlay,IH.get_push,IH.get_set,iparts,-IH.next_set,-IH.next_push,nxs,nxp,nx2,nx3,nx4,bs_int1,ov_int1,bs_str,wide1,hd]
    refine ⟨_,_,⟨⟨rfl,rfl⟩,by simp⟩,?_⟩
    repeat' first|exact hf|apply Fr.push|apply Fr.set
    all_goals first|omega|(simp<;>omega)
   exact ⟨T',H'',hF,.inl ⟨by simp [bigShape,hd],key⟩⟩
  ·have hd:decide ((200:Int)<x.fields.length)=false:=decide_eq_false hp
   by_cases hq:(16384:Int)<x.name.size
   ·have he:decide ((16384:Int)<x.name.size)=true:=decide_eq_true hq
    obtain ⟨T',H'',key,hF⟩:∃T' H'',(run J okAll (.loop L70_1) T H'=some (.ret,T',H'')∧T'.at 2=.bool true)∧Fr H.next H H'':=by
     rw [r_loop]
     simp [L70_1,tv,tl,ti,hlt,iindexAddr,g0,hco,loadT_agg,inew,istore,Value.cells,plain1,overlay,IH.get_push,IH.get_set,iparts,-IH.next_set,-IH.next_push,nxs,nxp,nx2,nx3,nx4,bs_int1,ov_int1,bs_str,wide1,hd,he]
     refine ⟨_,_,⟨⟨rfl,rfl⟩,by simp⟩,?_⟩
     repeat' first|exact hf|apply Fr.push|apply Fr.set
     all_goals first|omega|(simp<;>omega)
    exact ⟨T',H'',hF,.inl ⟨by simp [bigShape,he],key⟩⟩
   ·have he:decide ((16384:Int)<x.name.size)=false:=decide_eq_false hq
    obtain ⟨T1,H2,s1,hF,s2,s3,s4,s5⟩:∃T1 H2,run J okAll (.loop L70_1) T H'=run J okAll (.loop L70_1) T1 H2∧Fr H.next H H2∧(∀t,t<4→T1.at t=K t)∧T1.at 61=.slice (some ⟨b,o,none⟩) l.length c∧T1.at 62=.int .i64 (l.length:Int)∧T1.at 63=.int .i64 ((i+1:Nat):Int):=by
     rw [r_loop]
     simp [L70_1,tv,tl,ti,hlt,iindexAddr,g0,hco,loadT_agg,inew,istore,Value.cells,plain1,overlay,IH.get_push,IH.get_set,iparts,-IH.next_set,-IH.next_push,nxs,nxp,nx2,nx3,nx4,bs_int1,ov_int1,bs_str,wide1,hd,he,hw1]
     refine ⟨_,_,rfl,?_,?_,by simp [tv],by simp [tl],by simp⟩
     ·repeat' first|exact hf|apply Fr.push|apply Fr.set
      all_goals first|omega|(simp<;>omega)
     ·first|exact fun t ht=>by simp (disch:=omega) only [at_set_om];exact hK t ht|exact fun t h1 h2=>by simp (disch:=omega) only [at_set_om];exact hK t ⟨h1,h2⟩
    obtain ⟨T',H'',f,d⟩:=ih (i+1) T1 H2 hr2 (by omega) hF s2 s3 s4 s5
    rw [s1]
    have hno:bigShape x=false:=by simp only [bigShape,hd,he,Bool.or_self]
    simp only [List.any_cons,hno,Bool.false_or]
    exact ⟨T',H'',f,d⟩
theorem loop70c {v:Value} {l:List Ins} (hv:LAt lo 9 (InsAt H lo) v l) (hlo:lo≤H.next) (hl:l.length≤100000) (K:Nat→Value):∀(rest:List Ins) (i:Nat) (T:Regs) (H':IH),l.drop i=rest→i≤l.length→Fr H.next H H'→
  (∀t,t<121∧t≠13→T.at t=K t)→T.at 121=v→T.at 122=.int .i64 (l.length:Int)→T.at 123=.int .i64 (i:Int)→
  ∃T' H'',Fr H.next H H''∧((rest.any bigCode=true∧run J okAll (.loop L70_2) T H'=some (.ret,T',H'')∧T'.at 2=.bool true)∨(rest.any bigCode=false∧run J okAll (.loop L70_2) T H'=some (.exit 8,T',H'')∧(∀t,t<121∧t≠13→T'.at t=K t))):=by
 intro rest
 induction rest with
 |nil=>
  intro i T H' hr hi hf hK tv tl ti
  have:i=l.length:=by have:=congrArg List.length hr;simp at this;omega
  subst this
  obtain ⟨T',key⟩:∃T',run J okAll (.loop L70_2) T H'=some (.exit 8,T',H')∧(∀t,t<121∧t≠13→T'.at t=K t):=by
   rw [r_loop]
   simp [L70_2,tv,tl,ti]
   first|exact fun t ht=>by simp (disch:=omega) only [at_set_om];exact hK t ht|exact fun t h1 h2=>by simp (disch:=omega) only [at_set_om];exact hK t ⟨h1,h2⟩
  exact ⟨T',H',hf,.inr ⟨rfl,key⟩⟩
 |cons x rest ih=>
  intro i T H' hr hi hf hK tv tl ti
  have hlt:i<l.length:=by have:=congrArg List.length hr;simp at this;omega
  have hj:l[i]?=some x:=by have:=congrArg (fun u=>u[0]?) hr;simpa using this
  have hr2:l.drop (i+1)=rest:=by rw [←List.tail_drop,hr];rfl
  obtain ⟨b,o,c,rfl,hb,_,hcell⟩:=hv.get hj
  have hsb:SameB lo H H':=fun z hz=>hf.2 z (Nat.lt_of_lt_of_le hz hlo)
  have hw1:IntKind.i64.wrap ((i:Int)+1)=((i+1:Nat):Int):=by rw [wrap64 _ (by omega) (by omega)];simp
  have hn:=hf.1
  have nx2:¬H'.next=H'.next+1+1:=by omega
  have nx3:¬H'.next=H'.next+1+1+1:=by omega
  have nx4:¬H'.next=H'.next+1+1+1+1:=by omega
  obtain ⟨cs,pr,⟨la,ln,lc⟩,⟨ma,mn,mc⟩,⟨va,vn,vc⟩,g0,hco,g2,g3,g4⟩:=(hcell.same hsb hb).cells
  dsimp only at g2 g3 g4
  subst g2 g3 g4
  by_cases hp:(1024:Int)<x.l.length∨(1024:Int)<x.m.length
  ·have hd:(decide ((1024:Int)<x.l.length)||decide ((1024:Int)<x.m.length))=true:=by simpa using hp
   obtain ⟨T',H'',key,hF⟩:∃T' H'',(run J okAll (.loop L70_2) T H'=some (.ret,T',H'')∧T'.at 2=.bool true)∧Fr H.next H H'':=by
    rw [r_loop]
    simp [L70_2,tv,tl,ti,hlt,iindexAddr,g0,hco,loadT_agg,inew,istore,Value.cells,plain1,overlay,IH.get_push,IH.get_set,iparts,-IH.next_set,-IH.next_push,nxs,nxp,nx2,nx3,nx4,slV,bs_int1,ov_int1,bs_int2,ov_int2,hd]
    refine ⟨_,_,⟨⟨rfl,rfl⟩,by simp⟩,?_⟩
    repeat' first|exact hf|apply Fr.push|apply Fr.set
    all_goals first|omega|(simp<;>omega)
   exact ⟨T',H'',hF,.inl ⟨by simp only [List.any_cons,bigCode,hd,Bool.true_or],key⟩⟩
  ·have hd:(decide ((1024:Int)<x.l.length)||decide ((1024:Int)<x.m.length))=false:=by simpa using hp
   by_cases hq:(200:Int)<x.live.length
   ·have he:decide ((200:Int)<x.live.length)=true:=decide_eq_true hq
    obtain ⟨T',H'',key,hF⟩:∃T' H'',(run J okAll (.loop L70_2) T H'=some (.ret,T',H'')∧T'.at 2=.bool true)∧Fr H.next H H'':=by
     rw [r_loop]
     simp [L70_2,tv,tl,ti,hlt,iindexAddr,g0,hco,loadT_agg,inew,istore,Value.cells,plain1,overlay,IH.get_push,IH.get_set,iparts,-IH.next_set,-IH.next_push,nxs,nxp,nx2,nx3,nx4,slV,bs_int1,ov_int1,bs_int2,ov_int2,hd,he]
     refine ⟨_,_,⟨⟨rfl,rfl⟩,by simp⟩,?_⟩
     repeat' first|exact hf|apply Fr.push|apply Fr.set
     all_goals first|omega|(simp<;>omega)
    exact ⟨T',H'',hF,.inl ⟨by simp only [List.any_cons,bigCode,he,Bool.or_true,Bool.true_or],key⟩⟩
   ·have he:decide ((200:Int)<x.live.length)=false:=decide_eq_false hq
    obtain ⟨T1,H2,s1,hF,s2,s3,s4,s5⟩:∃T1 H2,run J okAll (.loop L70_2) T H'=run J okAll (.loop L70_2) T1 H2∧Fr H.next H H2∧(∀t,t<121∧t≠13→T1.at t=K t)∧T1.at 121=.slice (some ⟨b,o,none⟩) l.length c∧T1.at 122=.int .i64 (l.length:Int)∧T1.at 123=.int .i64 ((i+1:Nat):Int):=by
     rw [r_loop]
     simp [L70_2,tv,tl,ti,hlt,iindexAddr,g0,hco,loadT_agg,inew,istore,Value.cells,plain1,overlay,IH.get_push,IH.get_set,iparts,-IH.next_set,-IH.next_push,nxs,nxp,nx2,nx3,nx4,slV,bs_int1,ov_int1,bs_int2,ov_int2,hd,he,hw1]
     refine ⟨_,_,rfl,?_,?_,by simp [tv],by simp [tl],by simp⟩
     ·repeat' first|exact hf|apply Fr.push|apply Fr.set
      all_goals first|omega|(simp<;>omega)
     ·first|exact fun t ht=>by simp (disch:=omega) only [at_set_om];exact hK t ht|exact fun t h1 h2=>by simp (disch:=omega) only [at_set_om];exact hK t ⟨h1,h2⟩
    obtain ⟨T',H'',f,d⟩:=ih (i+1) T1 H2 hr2 (by omega) hF s2 s3 s4 s5
    rw [s1]
    have hno:bigCode x=false:=by simp only [bigCode,hd,he,Bool.or_self]
    simp only [List.any_cons,hno,Bool.false_or]
    exact ⟨T',H'',f,d⟩
end
section
variable {H:IH} {lo:Nat}
theorem step70b {v:Value} {l:List Bl} (hv:LAt lo 2 (BlAt H lo) v l) (hlo:lo≤H.next) (hl:l.length≤100000) (K:Nat→Value) {i:Nat} {T:Regs} {H':IH} {left:Int} {x:Bl} (hj:l[i]?=some x) (hxl:x.code.length≤4611686018427387904) (hf:Fr H.next H H')
  (hlf:0≤left∧left≤20000) (hK:∀t,t<104∧t≠7∧t≠11∧t≠13∧t≠103→T.at t=K t) (t7:T.at 7=.int .i64 left) (tv:T.at 101=v) (tl:T.at 102=.int .i64 (l.length:Int)) (ti:T.at 103=.int .i64 (i:Int)):
  ∃T1 H2,Fr H.next H H2∧(((decide (left-x.code.length<0)||decide ((200:Int)<x.inn.length)||x.code.any bigCode)=true∧run J okAll (.loop L70_3) T H'=some (.ret,T1,H2)∧T1.at 2=.bool true)∨
   ((decide (left-x.code.length<0)||decide ((200:Int)<x.inn.length)||x.code.any bigCode)=false∧run J okAll (.loop L70_3) T H'=run J okAll (.loop L70_3) T1 H2∧(∀t,t<104∧t≠7∧t≠11∧t≠13∧t≠103→T1.at t=K t)∧T1.at 7=.int .i64 (left-x.code.length)∧T1.at 103=.int .i64 ((i+1:Nat):Int))):=by
 obtain ⟨b,o,c,rfl,hb,hlt,hcell⟩:=hv.get hj
 have hsb:SameB lo H H':=fun z hz=>hf.2 z (Nat.lt_of_lt_of_le hz hlo)
 have hw1:IntKind.i64.wrap ((i:Int)+1)=((i+1:Nat):Int):=by rw [wrap64 _ (by omega) (by omega)];simp
 have hw2:IntKind.i64.wrap (left-x.code.length)=left-x.code.length:=by rw [wrapI];omega
 have hn:=hf.1
 have nx2:¬H'.next=H'.next+1+1:=by omega
 obtain ⟨cs,pr,vi,vc,g0,g1,g2,g3,g4⟩:=hcell.ex
 replace g0:=(hsb b hb).trans g0
 obtain ⟨ia,ic,rfl,_⟩:=id g3
 obtain ⟨ca,cc,rfl,_⟩:=id g4
 have hco:cellsOf (some (.cells cs 56 pr)) (o+i*2) 2=some [.slice ia x.inn.length ic,.slice ca x.code.length cc]:=cellsOf_of rfl (by omega) fun j hj=>by
  match j,hj with
  |0,_=>simpa using g1
  |1,_=>simpa using g2
 by_cases hp:left-x.code.length<0
 ·have hd:decide (left-(x.code.length:Int)<0)=true:=decide_eq_true hp
  obtain ⟨T',H'',key,hF⟩:∃T' H'',(run J okAll (.loop L70_3) T H'=some (.ret,T',H'')∧T'.at 2=.bool true)∧Fr H.next H H'':=by
   rw [r_loop]
   simp [L70_3,tv,tl,ti,t7,hlt,iindexAddr,g0,hco,loadT_agg,inew,istore,Value.cells,plain1,overlay,IH.get_push,IH.get_set,iparts,-IH.next_set,-IH.next_push,nxs,nxp,nx2,hw2,hd,bs_int1,ov_int1]
   refine ⟨_,_,⟨⟨rfl,rfl⟩,by simp⟩,?_⟩
   repeat' first|exact hf|apply Fr.push|apply Fr.set
   all_goals first|omega|(simp<;>omega)
  exact ⟨T',H'',hF,.inl ⟨by simp only [hd,Bool.true_or],key⟩⟩
 have hd:decide (left-(x.code.length:Int)<0)=false:=decide_eq_false hp
 by_cases hq:(200:Int)<x.inn.length
 ·have he:decide ((200:Int)<x.inn.length)=true:=decide_eq_true hq
  obtain ⟨T',H'',key,hF⟩:∃T' H'',(run J okAll (.loop L70_3) T H'=some (.ret,T',H'')∧T'.at 2=.bool true)∧Fr H.next H H'':=by
   rw [r_loop]
   simp [L70_3,tv,tl,ti,t7,hlt,iindexAddr,g0,hco,loadT_agg,inew,istore,Value.cells,plain1,overlay,IH.get_push,IH.get_set,iparts,-IH.next_set,-IH.next_push,nxs,nxp,nx2,hw2,hd,he,bs_int1,ov_int1]
   refine ⟨_,_,⟨⟨rfl,rfl⟩,by simp⟩,?_⟩
   repeat' first|exact hf|apply Fr.push|apply Fr.set
   all_goals first|omega|(simp<;>omega)
  exact ⟨T',H'',hF,.inl ⟨by simp only [hd,he,Bool.true_or,Bool.or_true],key⟩⟩
 have he:decide ((200:Int)<x.inn.length)=false:=decide_eq_false hq
 simp only [hd,he,Bool.false_or]
 obtain ⟨T2,G,eq,hF,f2,f7,f103,f121,f122,f123⟩:∃T2 G,run J okAll (.loop L70_3) T H'=rseq J okAll (.loop L70_3) (rseq J okAll (.region 33 #[Idl.o 140 (.binOp .add 3 (.tmp 103) (xi 1) 3) 3,Idl.o 103 (.move (.tmp 140)) 3] false) (blockOut 7 (blockOut 8 (run J okAll (.loop L70_2) T2 G))))∧Fr H.next H G∧
   (∀t,t<104∧t≠7∧t≠11∧t≠13∧t≠103→T2.at t=K t)∧T2.at 7=.int .i64 (left-x.code.length)∧T2.at 103=.int .i64 (i:Int)∧T2.at 121=.slice ca x.code.length cc∧T2.at 122=.int .i64 (x.code.length:Int)∧T2.at 123=.int .i64 ((0:Nat):Int):=by
  rw [r_loop]
  simp [L70_3,tv,tl,ti,t7,hlt,iindexAddr,g0,hco,loadT_agg,inew,istore,Value.cells,plain1,overlay,IH.get_push,IH.get_set,iparts,-IH.next_set,-IH.next_push,nxs,nxp,nx2,hw2,hd,he,bs_int1,ov_int1]
  refine ⟨_,_,rfl,?_,fun t h1 h2 h3 h4 h5=>by simp (disch:=omega) only [at_set_om];exact hK t ⟨h1,h2,h3,h4,h5⟩,by simp,by simp [ti],by simp,by simp,by simp⟩
  repeat' first|exact hf|apply Fr.push|apply Fr.set
  all_goals first|omega|(simp<;>omega)
 have hc100:x.code.length≤100000:=by omega
 obtain ⟨T3,H3,f3,d⟩:=loop70c g4 hlo hc100 (fun t=>T2.at t) x.code 0 T2 G rfl (by omega) hF (fun t ht=>rfl) f121 f122 f123
 rcases d with ⟨d1,d2,d3⟩|⟨d1,d2,d3⟩
 ·refine ⟨T3,H3,f3,.inl ⟨d1,?_,d3⟩⟩
  rw [eq,d2]
  simp
 ·rw [d2] at eq
  have k7:=(d3 7 (by omega)).trans f7
  have k103:=(d3 103 (by omega)).trans f103
  obtain ⟨T4,e4,q1,q2,q3⟩:∃T4,rseq J okAll (.loop L70_3) (rseq J okAll (.region 33 #[Idl.o 140 (.binOp .add 3 (.tmp 103) (xi 1) 3) 3,Idl.o 103 (.move (.tmp 140)) 3] false) (blockOut 7 (blockOut 8 (some (.exit 8,T3,H3)))))=run J okAll (.loop L70_3) T4 H3∧
    (∀t,t<104∧t≠7∧t≠11∧t≠13∧t≠103→T4.at t=K t)∧T4.at 7=.int .i64 (left-x.code.length)∧T4.at 103=.int .i64 ((i+1:Nat):Int):=by
   simp [k103,hw1]
   exact ⟨_,rfl,fun t h1 h2 h3 h4 h5=>by simp (disch:=omega) only [at_set_om];exact (d3 t (by omega)).trans (f2 t ⟨h1,h2,h3,h4,h5⟩),by simp [k7],by simp⟩
  exact ⟨T4,H3,f3,.inr ⟨d1,eq.trans e4,q1,q2,q3⟩⟩
theorem loop70b {v:Value} {l:List Bl} (hv:LAt lo 2 (BlAt H lo) v l) (hlo:lo≤H.next) (hl:l.length≤100000) (hsm:∀x∈l,x.code.length≤4611686018427387904) (K:Nat→Value):∀(rest:List Bl) (i:Nat) (T:Regs) (H':IH) (left:Int),l.drop i=rest→i≤l.length→Fr H.next H H'→0≤left∧left≤20000→
  (∀t,t<104∧t≠7∧t≠11∧t≠13∧t≠103→T.at t=K t)→T.at 7=.int .i64 left→K 101=v→K 102=.int .i64 (l.length:Int)→T.at 103=.int .i64 (i:Int)→
  ∃T' H'',Fr H.next H H''∧((bigBlocks left rest=none∧run J okAll (.loop L70_3) T H'=some (.ret,T',H'')∧T'.at 2=.bool true)∨(∃left',bigBlocks left rest=some left'∧(0≤left'∧left'≤20000)∧run J okAll (.loop L70_3) T H'=some (.exit 6,T',H'')∧T'.at 7=.int .i64 left'∧(∀t,t<104∧t≠7∧t≠11∧t≠13∧t≠103→T'.at t=K t))):=by
 intro rest
 induction rest with
 |nil=>
  intro i T H' left hr hi hf hlf hK t7 tv tl ti
  have:i=l.length:=by have:=congrArg List.length hr;simp at this;omega
  subst this
  have tl:=(hK 102 (by omega)).trans tl
  obtain ⟨T',key⟩:∃T',run J okAll (.loop L70_3) T H'=some (.exit 6,T',H')∧T'.at 7=.int .i64 left∧(∀t,t<104∧t≠7∧t≠11∧t≠13∧t≠103→T'.at t=K t):=by
   rw [r_loop]
   simp [L70_3,tl,ti,t7]
   exact fun t h1 h2 h3 h4 h5=>by simp (disch:=omega) only [at_set_om];exact hK t ⟨h1,h2,h3,h4,h5⟩
  exact ⟨T',H',hf,.inr ⟨left,rfl,hlf,key⟩⟩
 |cons x rest ih=>
  intro i T H' left hr hi hf hlf hK t7 tv tl ti
  have hlt:i<l.length:=by have:=congrArg List.length hr;simp at this;omega
  have hj:l[i]?=some x:=by have:=congrArg (fun u=>u[0]?) hr;simpa using this
  have hr2:l.drop (i+1)=rest:=by rw [←List.tail_drop,hr];rfl
  obtain ⟨T1,H2,f,d⟩:=step70b hv hlo hl K hj (hsm x (List.mem_of_getElem? hj)) hf hlf hK t7 ((hK 101 (by omega)).trans tv) ((hK 102 (by omega)).trans tl) ti
  unfold bigBlocks
  rcases d with ⟨d1,d2,d3⟩|⟨d1,d2,d3,d4,d5⟩
  ·rw [if_pos d1]
   exact ⟨T1,H2,f,.inl ⟨rfl,d2,d3⟩⟩
  ·rw [if_neg (by rw [d1];simp),d2]
   have hle:¬left-x.code.length<0:=by
    simp only [Bool.or_eq_false_iff,decide_eq_false_iff_not] at d1
    exact d1.1.1
   exact ih (i+1) T1 H2 (left-x.code.length) hr2 (by omega) f (by omega) d3 d4 tv tl d5
end
def bigFn (f:Fn):Bool:=decide (200<f.slots)||decide ((200:Int)<f.params.length)||decide ((2000:Int)<f.blocks.length)
section
variable {H:IH} {lo:Nat}
theorem step70f {v:Value} {l:List Fn} (hv:LAt lo 4 (FnAt H lo) v l) (hlo:lo≤H.next) (hl:l.length≤100000) (K:Nat→Value) {i:Nat} {T:Regs} {H':IH} {left:Int} {x:Fn} (hj:l[i]?=some x) (hsm:∀y∈x.blocks,y.code.length≤4611686018427387904) (hf:Fr H.next H H')
  (hlf:0≤left∧left≤20000) (hK:∀t,t<81∧t≠7∧t≠9∧t≠11∧t≠13→T.at t=K t) (t7:T.at 7=.int .i64 left) (tv:T.at 79=v) (tl:T.at 80=.int .i64 (l.length:Int)) (ti:T.at 81=.int .i64 (i:Int)):
  ∃T1 H2,Fr H.next H H2∧(((bigFn x=true∨(bigFn x=false∧bigBlocks left x.blocks=none))∧run J okAll (.loop L70_4) T H'=some (.ret,T1,H2)∧T1.at 2=.bool true)∨
   (∃left',bigFn x=false∧bigBlocks left x.blocks=some left'∧(0≤left'∧left'≤20000)∧run J okAll (.loop L70_4) T H'=run J okAll (.loop L70_4) T1 H2∧(∀t,t<81∧t≠7∧t≠9∧t≠11∧t≠13→T1.at t=K t)∧T1.at 7=.int .i64 left'∧T1.at 81=.int .i64 ((i+1:Nat):Int))):=by
 obtain ⟨b,o,c,rfl,hb,hlt,hcell⟩:=hv.get hj
 have hsb:SameB lo H H':=fun z hz=>hf.2 z (Nat.lt_of_lt_of_le hz hlo)
 have hw1:IntKind.i64.wrap ((i:Int)+1)=((i+1:Nat):Int):=by rw [wrap64 _ (by omega) (by omega)];simp
 have hn:=hf.1
 have nx2:¬H'.next=H'.next+1+1:=by omega
 have nx3:¬H'.next=H'.next+1+1+1:=by omega
 have nx4:¬H'.next=H'.next+1+1+1+1:=by omega
 obtain ⟨cs,pr,vp,vb,g0,g1,g2,g3,g4,g5,g6⟩:=hcell.ex
 replace g0:=(hsb b hb).trans g0
 obtain ⟨pa,pc,rfl,_⟩:=id g5
 obtain ⟨ba,bc,rfl,_⟩:=id g6
 have hco:cellsOf (some (.cells cs 59 pr)) (o+i*4) 4=some [.slice pa x.params.length pc,.int .i64 x.result,.int .i64 x.slots,.slice ba x.blocks.length bc]:=cellsOf_of rfl (by omega) fun j hj=>by
  match j,hj with
  |0,_=>simpa using g1
  |1,_=>simpa using g2
  |2,_=>simpa using g3
  |3,_=>simpa using g4
 by_cases hp:200<x.slots
 ·have hd:decide (200<x.slots)=true:=decide_eq_true hp
  obtain ⟨T',H'',key,hF⟩:∃T' H'',(run J okAll (.loop L70_4) T H'=some (.ret,T',H'')∧T'.at 2=.bool true)∧Fr H.next H H'':=by
   rw [r_loop]
   simp [L70_4,tv,tl,ti,t7,hlt,iindexAddr,g0,hco,loadT_agg,inew,istore,Value.cells,plain1,overlay,IH.get_push,IH.get_set,iparts,-IH.next_set,-IH.next_push,nxs,nxp,nx2,nx3,nx4,hd,bs_int1,ov_int1,bs_block,ov_block]
   refine ⟨_,_,⟨⟨rfl,rfl⟩,by simp⟩,?_⟩
   repeat' first|exact hf|apply Fr.push|apply Fr.set
   all_goals first|omega|(simp<;>omega)
  exact ⟨T',H'',hF,.inl ⟨.inl (by simp only [bigFn,hd,Bool.true_or]),key⟩⟩
 have hd:decide (200<x.slots)=false:=decide_eq_false hp
 by_cases hq:(200:Int)<x.params.length
 ·have he:decide ((200:Int)<x.params.length)=true:=decide_eq_true hq
  obtain ⟨T',H'',key,hF⟩:∃T' H'',(run J okAll (.loop L70_4) T H'=some (.ret,T',H'')∧T'.at 2=.bool true)∧Fr H.next H H'':=by
   rw [r_loop]
   simp [L70_4,tv,tl,ti,t7,hlt,iindexAddr,g0,hco,loadT_agg,inew,istore,Value.cells,plain1,overlay,IH.get_push,IH.get_set,iparts,-IH.next_set,-IH.next_push,nxs,nxp,nx2,nx3,nx4,hd,he,bs_int1,ov_int1,bs_block,ov_block]
   refine ⟨_,_,⟨⟨rfl,rfl⟩,by simp⟩,?_⟩
   repeat' first|exact hf|apply Fr.push|apply Fr.set
   all_goals first|omega|(simp<;>omega)
  exact ⟨T',H'',hF,.inl ⟨.inl (by simp only [bigFn,hd,he,Bool.true_or,Bool.or_true]),key⟩⟩
 have he:decide ((200:Int)<x.params.length)=false:=decide_eq_false hq
 by_cases hr:(2000:Int)<x.blocks.length
 ·have hh:decide ((2000:Int)<x.blocks.length)=true:=decide_eq_true hr
  obtain ⟨T',H'',key,hF⟩:∃T' H'',(run J okAll (.loop L70_4) T H'=some (.ret,T',H'')∧T'.at 2=.bool true)∧Fr H.next H H'':=by
   rw [r_loop]
   simp [L70_4,tv,tl,ti,t7,hlt,iindexAddr,g0,hco,loadT_agg,inew,istore,Value.cells,plain1,overlay,IH.get_push,IH.get_set,iparts,-IH.next_set,-IH.next_push,nxs,nxp,nx2,nx3,nx4,hd,he,hh,bs_int1,ov_int1,bs_block,ov_block]
   refine ⟨_,_,⟨⟨rfl,rfl⟩,by simp⟩,?_⟩
   repeat' first|exact hf|apply Fr.push|apply Fr.set
   all_goals first|omega|(simp<;>omega)
  exact ⟨T',H'',hF,.inl ⟨.inl (by simp only [bigFn,hh,Bool.or_true]),key⟩⟩
 have hh:decide ((2000:Int)<x.blocks.length)=false:=decide_eq_false hr
 have hbf:bigFn x=false:=by simp only [bigFn,hd,he,hh,Bool.or_self]
 obtain ⟨T2,G,eq,hF,f2,f7,f79,f80,f81,f101,f102,f103⟩:∃T2 G,run J okAll (.loop L70_4) T H'=rseq J okAll (.loop L70_4) (rseq J okAll (.region 34 #[Idl.o 141 (.binOp .add 3 (.tmp 81) (xi 1) 3) 3,Idl.o 81 (.move (.tmp 141)) 3] false) (blockOut 5 (blockOut 6 (run J okAll (.loop L70_3) T2 G))))∧Fr H.next H G∧
   (∀t,t<81∧t≠7∧t≠9∧t≠11∧t≠13→T2.at t=K t)∧T2.at 7=.int .i64 left∧T2.at 79=.slice (some ⟨b,o,none⟩) l.length c∧T2.at 80=.int .i64 (l.length:Int)∧T2.at 81=.int .i64 (i:Int)∧T2.at 101=.slice ba x.blocks.length bc∧T2.at 102=.int .i64 (x.blocks.length:Int)∧T2.at 103=.int .i64 ((0:Nat):Int):=by
  rw [r_loop]
  simp [L70_4,tv,tl,ti,t7,hlt,iindexAddr,g0,hco,loadT_agg,inew,istore,Value.cells,plain1,overlay,IH.get_push,IH.get_set,iparts,-IH.next_set,-IH.next_push,nxs,nxp,nx2,nx3,nx4,hd,he,hh,bs_int1,ov_int1,bs_block,ov_block]
  refine ⟨_,_,rfl,?_,fun t h1 h2 h3 h4 h5=>by simp (disch:=omega) only [at_set_om];exact hK t ⟨h1,h2,h3,h4,h5⟩,by simp [t7],by simp [tv],by simp [tl],by simp [ti],by simp,by simp,by simp⟩
  repeat' first|exact hf|apply Fr.push|apply Fr.set
  all_goals first|omega|(simp<;>omega)
 obtain ⟨T3,H3,f3,d⟩:=loop70b g6 hlo (by omega) hsm (fun t=>T2.at t) x.blocks 0 T2 G left rfl (by omega) hF hlf (fun t ht=>rfl) f7 f101 f102 f103
 rcases d with ⟨d1,d2,d3⟩|⟨left',d1,dl,d2,d7,d3⟩
 ·refine ⟨T3,H3,f3,.inl ⟨.inr ⟨hbf,d1⟩,?_,d3⟩⟩
  rw [eq,d2]
  simp
 ·rw [d2] at eq
  have k81:=(d3 81 (by omega)).trans f81
  obtain ⟨T4,e4,q1,q2,q3⟩:∃T4,rseq J okAll (.loop L70_4) (rseq J okAll (.region 34 #[Idl.o 141 (.binOp .add 3 (.tmp 81) (xi 1) 3) 3,Idl.o 81 (.move (.tmp 141)) 3] false) (blockOut 5 (blockOut 6 (some (.exit 6,T3,H3)))))=run J okAll (.loop L70_4) T4 H3∧
    (∀t,t<81∧t≠7∧t≠9∧t≠11∧t≠13→T4.at t=K t)∧T4.at 7=.int .i64 left'∧T4.at 81=.int .i64 ((i+1:Nat):Int):=by
   simp [k81,hw1]
   exact ⟨_,rfl,fun t h1 h2 h3 h4 h5=>by simp (disch:=omega) only [at_set_om];exact (d3 t (by omega)).trans (f2 t ⟨h1,h2,h3,h4,h5⟩),by simp [d7],by simp⟩
  exact ⟨T4,H3,f3,.inr ⟨left',hbf,d1,dl,eq.trans e4,q1,q2,q3⟩⟩
theorem loop70f {v:Value} {l:List Fn} (hv:LAt lo 4 (FnAt H lo) v l) (hlo:lo≤H.next) (hl:l.length≤100000) (hsm:∀x∈l,∀y∈x.blocks,y.code.length≤4611686018427387904) (K:Nat→Value):∀(rest:List Fn) (i:Nat) (T:Regs) (H':IH) (left:Int),l.drop i=rest→i≤l.length→Fr H.next H H'→0≤left∧left≤20000→
  (∀t,t<81∧t≠7∧t≠9∧t≠11∧t≠13→T.at t=K t)→T.at 7=.int .i64 left→K 79=v→K 80=.int .i64 (l.length:Int)→T.at 81=.int .i64 (i:Int)→
  ∃T' H'',Fr H.next H H''∧((bigFns left rest=none∧run J okAll (.loop L70_4) T H'=some (.ret,T',H'')∧T'.at 2=.bool true)∨((bigFns left rest).isSome=true∧run J okAll (.loop L70_4) T H'=some (.exit 4,T',H'')∧(∀t,t<81∧t≠7∧t≠9∧t≠11∧t≠13→T'.at t=K t))):=by
 intro rest
 induction rest with
 |nil=>
  intro i T H' left hr hi hf hlf hK t7 tv tl ti
  have:i=l.length:=by have:=congrArg List.length hr;simp at this;omega
  subst this
  have tl:=(hK 80 (by omega)).trans tl
  obtain ⟨T',key⟩:∃T',run J okAll (.loop L70_4) T H'=some (.exit 4,T',H')∧(∀t,t<81∧t≠7∧t≠9∧t≠11∧t≠13→T'.at t=K t):=by
   rw [r_loop]
   simp [L70_4,tl,ti,t7]
   exact fun t h1 h2 h3 h4 h5=>by simp (disch:=omega) only [at_set_om];exact hK t ⟨h1,h2,h3,h4,h5⟩
  exact ⟨T',H',hf,.inr ⟨rfl,key⟩⟩
 |cons x rest ih=>
  intro i T H' left hr hi hf hlf hK t7 tv tl ti
  have hlt:i<l.length:=by have:=congrArg List.length hr;simp at this;omega
  have hj:l[i]?=some x:=by have:=congrArg (fun u=>u[0]?) hr;simpa using this
  have hr2:l.drop (i+1)=rest:=by rw [←List.tail_drop,hr];rfl
  obtain ⟨T1,H2,f,d⟩:=step70f hv hlo hl K hj (hsm x (List.mem_of_getElem? hj)) hf hlf hK t7 ((hK 79 (by omega)).trans tv) ((hK 80 (by omega)).trans tl) ti
  unfold bigFns
  rcases d with ⟨d1,d2,d3⟩|⟨left',d1,d2,dl,d3,d4,d5,d6⟩
  ·refine ⟨T1,H2,f,.inl ⟨?_,d2,d3⟩⟩
   rcases d1 with d1|⟨d1,d1'⟩
   ·unfold bigFn at d1;rw [if_pos d1]
   ·unfold bigFn at d1;rw [if_neg (by rw [d1];simp),d1']
  ·unfold bigFn at d1
   rw [if_neg (by rw [d1];simp),d2,d3]
   exact ih (i+1) T1 H2 left' hr2 (by omega) f dl d4 d5 tv tl d6
def bigF (im:Img):Bool:=
 decide ((1024:Int)<im.types.length)||decide ((512:Int)<im.shapes.length)||(decide ((256:Int)<im.strings.length)||decide ((256:Int)<im.names.length))||decide ((1024:Int)<im.funcs.length)||
 (im.strings.any fun s=>decide ((16384:Int)<s.size))||(im.names.any fun s=>decide ((16384:Int)<s.size))||
 (im.types.any fun x=>decide ((512:Int)<x.shapes.length))||im.shapes.any bigShape||(bigFns 20000 im.funcs).isNone
def ImV.val (u:ImV) (im:Img):Value:=.agg (ImV.cells u im).toArray
end
structure ImSm (im:Img):Prop where
 code:∀x∈im.funcs,∀y∈x.blocks,y.code.length≤4611686018427387904
 num:∀x∈im.funcs,∀y∈x.blocks,∀z∈y.code,-9223372036854775808≤z.n∧z.n≤9223372036854775807
section
variable {H:IH} {lo:Nat}
theorem c_big {u:ImV} {im:Img} (hv:ImvAt H lo u im) (hlo:lo≤H.next) (hsm:ImSm im):∃H',Fr H.next H H'∧cal J okAll 70 #[u.val im] H=some (.ret (.bool (bigF im)),H'):=by
 rw [cal70 _ _ (by simp)]
 obtain ⟨vt,vs,vst,vn,vf⟩:=u
 obtain ⟨ta,tc,et,_⟩:=id hv.types
 obtain ⟨sa,sc,es,_⟩:=id hv.shapes
 obtain ⟨ga,gc,eg,_⟩:=id hv.strings
 obtain ⟨na,nc,en,_⟩:=id hv.names
 obtain ⟨fa,fc,ef,_⟩:=id hv.funcs
 dsimp only at et es eg en ef
 subst et es eg en ef
 obtain ⟨B0,hB0⟩:∃B0,B0=H.push (.cells [.slice ta im.types.length tc,.slice sa im.shapes.length sc,.slice ga im.strings.length gc,.slice na im.names.length nc,.slice fa im.funcs.length fc,.int .i64 im.main,.int .i64 im.exn] 27 false):=⟨_,rfl⟩
 have nB0:B0.next=H.next+1:=by rw [hB0];simp
 have gB0:B0.get H.next=some (.cells [.slice ta im.types.length tc,.slice sa im.shapes.length sc,.slice ga im.strings.length gc,.slice na im.names.length nc,.slice fa im.funcs.length fc,.int .i64 im.main,.int .i64 im.exn] 27 false):=by rw [hB0,IH.get_push_same]
 have sB0:SameB lo H B0:=fun z hz=>by rw [hB0,IH.get_push_other _ _ _ (by omega)]
 have fB0:Fr H.next H B0:=by rw [hB0];exact (Fr.refl _ _).push (Nat.le_refl _) _
 obtain ⟨M,hM⟩:∃M,M=((((((((B0.push (.cells [.slice ta im.types.length tc] 22 false)).push (.cells [.int .i64 1024] 3 false)).push (.cells [.slice sa im.shapes.length sc] 23 false)).push (.cells [.int .i64 512] 3 false)).push (.cells [.slice ga im.strings.length gc,.slice na im.names.length nc] 24 false)).push (.cells [.int .i64 256] 3 false)).push (.cells [.slice fa im.funcs.length fc] 25 false)).push (.cells [.int .i64 1024] 3 false)):=⟨_,rfl⟩
 have fM:Fr B0.next B0 M:=by
  rw [hM]
  repeat' first|exact Fr.refl _ _|apply Fr.push|apply Fr.set
  all_goals first|omega|(simp<;>omega)
 have sM:SameB lo H M:=fun z hz=>(fM.2 z (by omega)).trans (sB0 z hz)
 have gM:M.get H.next=_:=(fM.2 H.next (by omega)).trans gB0
 have hv0:=hv.same sB0
 have hvM:=hv.same sM
 have k2:¬H.next=H.next+1+1:=by omega
 have k3:¬H.next=H.next+1+1+1:=by omega
 have k4:¬H.next=H.next+1+1+1+1:=by omega
 have k5:¬H.next=H.next+1+1+1+1+1:=by omega
 have k6:¬H.next=H.next+1+1+1+1+1+1:=by omega
 have k7:¬H.next=H.next+1+1+1+1+1+1+1:=by omega
 have k8:¬H.next=H.next+1+1+1+1+1+1+1+1:=by omega
 unfold bigF
 simp only [ImV.val,ImV.cells]
 by_cases b1:(1024:Int)<im.types.length
 ·have d1:decide ((1024:Int)<im.types.length)=true:=decide_eq_true b1
  simp only [d1,Bool.true_or,Bool.or_true]
  simp [C70,regsOf,fin,iresult1,inew,Value.cells,IH.get_push,IH.get_set,iparts,-IH.next_set,-IH.next_push,nxs,nxp,k2,k3,k4,k5,k6,k7,k8,bs_type,ov_type,bs_shape,ov_shape,bs_strs,ov_strs,bs_func,ov_func,d1]
  repeat' first|exact Fr.refl _ _|apply Fr.push|apply Fr.set
  all_goals first|omega|(simp<;>omega)
 have d1:decide ((1024:Int)<im.types.length)=false:=decide_eq_false b1
 by_cases b2:(512:Int)<im.shapes.length
 ·have d2:decide ((512:Int)<im.shapes.length)=true:=decide_eq_true b2
  simp only [d1,d2,Bool.true_or,Bool.or_true]
  simp [C70,regsOf,fin,iresult1,inew,Value.cells,IH.get_push,IH.get_set,iparts,-IH.next_set,-IH.next_push,nxs,nxp,k2,k3,k4,k5,k6,k7,k8,bs_type,ov_type,bs_shape,ov_shape,bs_strs,ov_strs,bs_func,ov_func,d1,d2]
  repeat' first|exact Fr.refl _ _|apply Fr.push|apply Fr.set
  all_goals first|omega|(simp<;>omega)
 have d2:decide ((512:Int)<im.shapes.length)=false:=decide_eq_false b2
 by_cases b3:(256:Int)<im.strings.length∨(256:Int)<im.names.length
 ·have d3:(decide ((256:Int)<im.strings.length)||decide ((256:Int)<im.names.length))=true:=by simpa using b3
  simp only [d1,d2,d3,Bool.true_or,Bool.or_true]
  simp [C70,regsOf,fin,iresult1,inew,Value.cells,IH.get_push,IH.get_set,iparts,-IH.next_set,-IH.next_push,nxs,nxp,k2,k3,k4,k5,k6,k7,k8,bs_type,ov_type,bs_shape,ov_shape,bs_strs,ov_strs,bs_func,ov_func,d1,d2,d3]
  repeat' first|exact Fr.refl _ _|apply Fr.push|apply Fr.set
  all_goals first|omega|(simp<;>omega)
 have d3:(decide ((256:Int)<im.strings.length)||decide ((256:Int)<im.names.length))=false:=by simpa using b3
 by_cases b4:(1024:Int)<im.funcs.length
 ·have d4:decide ((1024:Int)<im.funcs.length)=true:=decide_eq_true b4
  simp only [d1,d2,d3,d4,Bool.true_or,Bool.or_true]
  simp [C70,regsOf,fin,iresult1,inew,Value.cells,IH.get_push,IH.get_set,iparts,-IH.next_set,-IH.next_push,nxs,nxp,k2,k3,k4,k5,k6,k7,k8,bs_type,ov_type,bs_shape,ov_shape,bs_strs,ov_strs,bs_func,ov_func,d1,d2,d3,d4]
  repeat' first|exact Fr.refl _ _|apply Fr.push|apply Fr.set
  all_goals first|omega|(simp<;>omega)
 have d4:decide ((1024:Int)<im.funcs.length)=false:=decide_eq_false b4
 have hsl:im.strings.length≤100000∧im.names.length≤100000:=by omega
 have w5:=c_wide hvM.strings hsl.1
 have w6:=c_wide hvM.names hsl.2
 dsimp only at w5 w6
 by_cases b5:(im.strings.any fun s=>decide ((16384:Int)<s.size))=true
 ·rw [b5] at w5
  simp only [d1,d2,d3,d4,b5,Bool.true_or,Bool.or_true]
  simp [C70,regsOf,fin,iresult1,inew,Value.cells,IH.get_push,IH.get_set,iparts,-IH.next_set,-IH.next_push,nxs,nxp,k2,k3,k4,k5,k6,k7,k8,bs_type,ov_type,bs_shape,ov_shape,bs_strs,ov_strs,bs_func,ov_func,d1,d2,d3,d4,←hB0,nB0,gB0,←hM,gM,w5]
  exact fB0.trans (fM.of_le (by omega))
 rw [Bool.not_eq_true] at b5
 by_cases b6:(im.names.any fun s=>decide ((16384:Int)<s.size))=true
 ·rw [b5] at w5
  rw [b6] at w6
  simp only [d1,d2,d3,d4,b5,b6,Bool.true_or,Bool.or_true]
  simp [C70,regsOf,fin,iresult1,inew,Value.cells,IH.get_push,IH.get_set,iparts,-IH.next_set,-IH.next_push,nxs,nxp,k2,k3,k4,k5,k6,k7,k8,bs_type,ov_type,bs_shape,ov_shape,bs_strs,ov_strs,bs_func,ov_func,d1,d2,d3,d4,←hB0,nB0,gB0,←hM,gM,w5,w6]
  exact fB0.trans (fM.of_le (by omega))
 rw [Bool.not_eq_true] at b6
 rw [b5] at w5
 rw [b6] at w6
 simp only [d1,d2,d3,d4,b5,b6,Bool.false_or]
 simp [C70,regsOf,fin,iresult1,inew,Value.cells,IH.get_push,IH.get_set,iparts,-IH.next_set,-IH.next_push,nxs,nxp,k2,k3,k4,k5,k6,k7,k8,bs_type,ov_type,bs_shape,ov_shape,bs_strs,ov_strs,bs_func,ov_func,d1,d2,d3,d4,←hB0,nB0,gB0,←hM,gM,w5,w6]
 have hlb:lo≤B0.next:=by omega
 generalize hX:run J okAll (.loop L70_0) _ _=X
 obtain ⟨T1,hT,a1,a2,a49,a50,a51⟩:∃T1,run J okAll (.loop L70_0) T1 M=X∧T1.at 1=ptrV H.next∧T1.at 2=.bool false∧T1.at 49=.slice ta im.types.length tc∧T1.at 50=.int .i64 (im.types.length:Int)∧T1.at 51=.int .i64 ((0:Nat):Int):=⟨_,hX,by simp [ptrV],by simp,by simp,by simp,by simp⟩
 obtain ⟨T2,H2,f2,e⟩:=loop70t hv0.types hlb (by omega) (fun t=>T1.at t) im.types 0 T1 M rfl (by omega) fM (fun t ht=>rfl) a49 a50 a51
 have ff2:=fB0.trans (f2.of_le (lo:=H.next) (by omega))
 rcases e with ⟨e1,e2,e3⟩|⟨e1,e2,e3⟩
 ·have e2:=hT.symm.trans e2
  subst e2
  simp only [e1,Bool.true_or]
  simp [regsOf,fin,iresult1,e3]
  exact ff2
 have e2:=hT.symm.trans e2
 subst e2
 have c1:=(e3 1 (by omega)).trans a1
 have c2:=(e3 2 (by omega)).trans a2
 have g2:H2.get H.next=_:=(f2.2 H.next (by omega)).trans gB0
 simp only [e1,Bool.false_or]
 simp only [ptrV] at c1
 simp [c1,g2]
 generalize hX2:run J okAll (.loop L70_1) _ _=X2
 obtain ⟨T3,hT3,a1',a2',a61,a62,a63⟩:∃T3,run J okAll (.loop L70_1) T3 H2=X2∧T3.at 1=ptrV H.next∧T3.at 2=.bool false∧T3.at 61=.slice sa im.shapes.length sc∧T3.at 62=.int .i64 (im.shapes.length:Int)∧T3.at 63=.int .i64 ((0:Nat):Int):=⟨_,hX2,by simp [ptrV,c1],by simp [c2],by simp,by simp,by simp⟩
 obtain ⟨T4,H4,f4,e⟩:=loop70s hv0.shapes hlb (by omega) (fun t=>T3.at t) im.shapes 0 T3 H2 rfl (by omega) f2 (fun t ht=>rfl) a61 a62 a63
 have ff4:=fB0.trans (f4.of_le (lo:=H.next) (by omega))
 rcases e with ⟨s1,s2,s3⟩|⟨s1,s2,s3⟩
 ·have s2:=hT3.symm.trans s2
  subst s2
  simp only [s1,Bool.true_or]
  simp [regsOf,fin,iresult1,s3]
  exact ff4
 have s2:=hT3.symm.trans s2
 subst s2
 have c1':=(s3 1 (by omega)).trans a1'
 have c2':=(s3 2 (by omega)).trans a2'
 have g4:H4.get H.next=_:=(f4.2 H.next (by omega)).trans gB0
 simp only [ptrV] at c1'
 simp only [s1,Bool.false_or]
 simp [c1',g4]
 generalize hX3:run J okAll (.loop L70_4) _ _=X3
 obtain ⟨T5,hT5,a2'',a7,a79,a80,a81⟩:∃T5,run J okAll (.loop L70_4) T5 H4=X3∧T5.at 2=.bool false∧T5.at 7=.int .i64 20000∧T5.at 79=.slice fa im.funcs.length fc∧T5.at 80=.int .i64 (im.funcs.length:Int)∧T5.at 81=.int .i64 ((0:Nat):Int):=⟨_,hX3,by simp [c2'],by simp,by simp,by simp,by simp⟩
 obtain ⟨T6,H6,f6,e⟩:=loop70f hv0.funcs hlb (by omega) hsm.code (fun t=>T5.at t) im.funcs 0 T5 H4 20000 rfl (by omega) f4 (by omega) (fun t ht=>rfl) a7 a79 a80 a81
 have ff6:=fB0.trans (f6.of_le (lo:=H.next) (by omega))
 rcases e with ⟨s1,s2,s3⟩|⟨s1,s2,s3⟩
 ·have s2:=hT5.symm.trans s2
  subst s2
  rw [s1]
  simp [regsOf,fin,iresult1,s3]
  exact ff6
 ·have s2:=hT5.symm.trans s2
  subst s2
  have hn:(bigFns 20000 im.funcs).isNone=false:=by
   cases hz:bigFns 20000 im.funcs with
   |none=>rw [hz] at s1;simp at s1
   |some z=>rfl
  rw [hn]
  simp [regsOf,fin,iresult1]
  exact ff6
end
def oddCode (b:Bl):Bool:=b.code.any fun x=> !plainF x
def oddFn (f:Fn):Bool:=f.blocks.any oddCode
def checkF (im:Img):Int:=if bigF im then 2 else if im.funcs.any oddFn then 1 else 0
theorem bigBlocks_ok:∀(bs:List Bl) (left l:Int),left≤20000→bigBlocks left bs=some l→l≤left∧∀b∈bs,b.code.length≤20000∧b.inn.length≤200∧b.code.any bigCode=false
 | [],left,l,_,h=>by
  simp only [bigBlocks,Option.some.injEq] at h
  exact ⟨by omega,fun b hb=>by simp at hb⟩
 |b::bs,left,l,hl,h=>by
  unfold bigBlocks at h
  split at h
  ·simp at h
  ·rename_i hc
   simp only [Bool.not_eq_true,Bool.or_eq_false_iff,decide_eq_false_iff_not] at hc
   obtain ⟨h1,h2⟩:=bigBlocks_ok bs _ l (by omega) h
   refine ⟨by omega,fun x hx=>?_⟩
   rcases List.mem_cons.1 hx with rfl|hx
   ·exact ⟨by omega,by omega,hc.2⟩
   ·exact h2 x hx
theorem bigFns_ok:∀(fs:List Fn) (left l:Int),left≤20000→bigFns left fs=some l→∀f∈fs,f.slots≤200∧f.params.length≤200∧f.blocks.length≤2000∧∀b∈f.blocks,b.code.length≤20000∧b.inn.length≤200∧b.code.any bigCode=false
 | [],left,l,_,h=>fun f hf=>by simp at hf
 |f::fs,left,l,hl,h=>by
  unfold bigFns at h
  split at h
  ·simp at h
  ·rename_i hc
   simp only [Bool.not_eq_true,Bool.or_eq_false_iff,decide_eq_false_iff_not] at hc
   cases hb:bigBlocks left f.blocks with
   |none=>rw [hb] at h;simp at h
   |some l'=>
    rw [hb] at h
    obtain ⟨h1,h2⟩:=bigBlocks_ok f.blocks left l' hl hb
    intro x hx
    rcases List.mem_cons.1 hx with rfl|hx
    ·exact ⟨by omega,by omega,by omega,h2⟩
    ·exact bigFns_ok fs l' l (by omega) h x hx
theorem bigF_ok {im:Img} (h:bigF im=false) (hs:ImSm im):ImOk im:=by
 unfold bigF at h
 simp only [Bool.or_eq_false_iff,decide_eq_false_iff_not] at h
 obtain ⟨⟨⟨⟨⟨⟨⟨⟨h1,h2⟩,h3,h4⟩,h5⟩,h6⟩,h7⟩,h8⟩,h9⟩,h10⟩:=h
 cases hb:bigFns 20000 im.funcs with
 |none=>rw [hb] at h10;simp at h10
 |some l=>
  have hf:=bigFns_ok im.funcs 20000 l (by omega) hb
  refine ⟨fun x hx=>?_,by omega,by omega,fun x hx=>?_,fun x hx=>?_⟩
  ·obtain ⟨f1,f2,f3,f4⟩:=hf x hx
   refine ⟨f1,f3,fun b hb=>?_⟩
   obtain ⟨b1,b2,b3⟩:=f4 b hb
   refine ⟨b1,fun y hy=>?_⟩
   rw [List.any_eq_false] at b3
   have hc:=b3 y hy
   simp only [bigCode,Bool.not_eq_true,Bool.or_eq_false_iff,decide_eq_false_iff_not] at hc
   exact ⟨hs.num x hx b hb y hy,by omega,by omega,by omega⟩
  ·rw [List.any_eq_false] at h9
   have hc:=h9 x hx
   simp only [bigShape,Bool.not_eq_true,Bool.or_eq_false_iff,decide_eq_false_iff_not] at hc
   omega
  ·rw [List.any_eq_false] at h6
   have hc:=h6 x hx
   simp only [decide_eq_true_eq] at hc
   omega
section
variable {H:IH} {lo:Nat}
theorem loop38b {v:Value} {l:List Bl} (hv:LAt lo 2 (BlAt H lo) v l) (hlo:lo≤H.next) (hl:l.length≤100000) (hsm:∀x∈l,x.code.length≤100000) (K:Nat→Value):∀(rest:List Bl) (i:Nat) (T:Regs) (H':IH),l.drop i=rest→i≤l.length→Fr H.next H H'→
  (∀t,t<19∧t≠6→T.at t=K t)→K 17=v→K 18=.int .i64 (l.length:Int)→T.at 19=.int .i64 (i:Int)→
  ∃T' H'',Fr H.next H H''∧((rest.any oddCode=true∧run J okAll (.loop L38_0) T H'=some (.ret,T',H'')∧T'.at 2=.int .i64 1)∨(rest.any oddCode=false∧run J okAll (.loop L38_0) T H'=some (.exit 2,T',H'')∧(∀t,t<19∧t≠6→T'.at t=K t))):=by
 intro rest
 induction rest with
 |nil=>
  intro i T H' hr hi hf hK tv tl ti
  have:i=l.length:=by have:=congrArg List.length hr;simp at this;omega
  subst this
  have tl:=(hK 18 (by omega)).trans tl
  obtain ⟨T',key⟩:∃T',run J okAll (.loop L38_0) T H'=some (.exit 2,T',H')∧(∀t,t<19∧t≠6→T'.at t=K t):=by
   rw [r_loop]
   simp [L38_0,tl,ti]
   exact fun t h1 h2=>by simp (disch:=omega) only [at_set_om];exact hK t ⟨h1,h2⟩
  exact ⟨T',H',hf,.inr ⟨rfl,key⟩⟩
 |cons x rest ih=>
  intro i T H' hr hi hf hK tv tl ti
  have hlt:i<l.length:=by have:=congrArg List.length hr;simp at this;omega
  have hj:l[i]?=some x:=by have:=congrArg (fun u=>u[0]?) hr;simpa using this
  have hr2:l.drop (i+1)=rest:=by rw [←List.tail_drop,hr];rfl
  have tv':=(hK 17 (by omega)).trans tv
  have tl':=(hK 18 (by omega)).trans tl
  obtain ⟨b,o,c,rfl,hb,_,hcell⟩:=hv.get hj
  have hsb:SameB lo H H':=fun z hz=>hf.2 z (Nat.lt_of_lt_of_le hz hlo)
  have hw1:IntKind.i64.wrap ((i:Int)+1)=((i+1:Nat):Int):=by rw [wrap64 _ (by omega) (by omega)];simp
  have hn:=hf.1
  obtain ⟨cs,pr,vi,vc,g0,g1,g2,g3,g4⟩:=hcell.ex
  replace g0:=(hsb b hb).trans g0
  obtain ⟨ia,ic,rfl,_⟩:=id g3
  obtain ⟨ca,cc,rfl,_⟩:=id g4
  have hco:cellsOf (some (.cells cs 56 pr)) (o+i*2) 2=some [.slice ia x.inn.length ic,.slice ca x.code.length cc]:=cellsOf_of rfl (by omega) fun j hj=>by
   match j,hj with
   |0,_=>simpa using g1
   |1,_=>simpa using g2
  obtain ⟨G,hG⟩:∃G,G=(H'.push (.cells [.slice none 0 0,.slice none 0 0] 56 false)).set H'.next (.cells [.slice ia x.inn.length ic,.slice ca x.code.length cc] 56 false):=⟨_,rfl⟩
  have fG:Fr H.next H G:=by rw [hG];exact (hf.push (by omega) _).set (by omega) _
  have gG:G.get H'.next=some (.cells [.slice ia x.inn.length ic,.slice ca x.code.length cc] 56 false):=by rw [hG,IH.get_set,if_pos rfl]
  have hsG:SameB lo H G:=fun z hz=>fG.2 z (Nat.lt_of_lt_of_le hz hlo)
  obtain ⟨H2,f2,cp⟩:=c_plains (H:=G) (lo:=lo) (g4.mono fun _ _ _ hb hx=>InsAt.same hx hsG hb) (by have:=fG.1;omega) (hsm x (List.mem_of_getElem? hj))
  have ff:=fG.trans (f2.of_le fG.1)
  simp only [List.any_cons]
  cases hp:oddCode x with
  |true=>
   have cp:cal J okAll 71 #[.slice ca x.code.length cc,.func (.func 72) #[] #[]] G=some (.ret (.bool (oddCode x)),H2):=cp
   rw [hp] at cp
   obtain ⟨T',key⟩:∃T',run J okAll (.loop L38_0) T H'=some (.ret,T',H2)∧T'.at 2=.int .i64 1:=by
    rw [r_loop]
    simp [L38_0,tv',tl',ti,hlt,iindexAddr,g0,hco,loadT_agg,inew,istore,Value.cells,plain1,overlay,IH.get_push,←hG,gG,cp]
   exact ⟨T',H2,ff,.inl ⟨by simp,key⟩⟩
  |false=>
   have cp:cal J okAll 71 #[.slice ca x.code.length cc,.func (.func 72) #[] #[]] G=some (.ret (.bool (oddCode x)),H2):=cp
   rw [hp] at cp
   obtain ⟨T1,s1,s2,s3⟩:∃T1,run J okAll (.loop L38_0) T H'=run J okAll (.loop L38_0) T1 H2∧(∀t,t<19∧t≠6→T1.at t=K t)∧T1.at 19=.int .i64 ((i+1:Nat):Int):=by
    rw [r_loop]
    simp [L38_0,tv',tl',ti,hlt,iindexAddr,g0,hco,loadT_agg,inew,istore,Value.cells,plain1,overlay,IH.get_push,←hG,gG,cp,hw1]
    exact ⟨_,rfl,fun t h1 h2=>by simp (disch:=omega) only [at_set_om];exact hK t ⟨h1,h2⟩,by simp⟩
   rw [s1]
   simp only [Bool.false_or]
   exact ih (i+1) T1 H2 hr2 (by omega) ff s2 tv tl s3
end
section
variable {H:IH} {lo:Nat}
theorem loop38f {v:Value} {l:List Fn} (hv:LAt lo 4 (FnAt H lo) v l) (hlo:lo≤H.next) (hl:l.length≤100000) (hlim:∀x∈l,FnLim x) (K:Nat→Value):∀(rest:List Fn) (i:Nat) (T:Regs) (H':IH),l.drop i=rest→i≤l.length→Fr H.next H H'→
  (∀t,t<12∧t≠4∧t≠6→T.at t=K t)→K 10=v→K 11=.int .i64 (l.length:Int)→T.at 12=.int .i64 (i:Int)→
  ∃T' H'',Fr H.next H H''∧((rest.any oddFn=true∧run J okAll (.loop L38_1) T H'=some (.ret,T',H'')∧T'.at 2=.int .i64 1)∨(rest.any oddFn=false∧run J okAll (.loop L38_1) T H'=some (.exit 0,T',H''))):=by
 intro rest
 induction rest with
 |nil=>
  intro i T H' hr hi hf hK tv tl ti
  have:i=l.length:=by have:=congrArg List.length hr;simp at this;omega
  subst this
  have tl:=(hK 11 (by omega)).trans tl
  obtain ⟨T',key⟩:∃T',run J okAll (.loop L38_1) T H'=some (.exit 0,T',H'):=by
   rw [r_loop]
   simp [L38_1,tl,ti]
  exact ⟨T',H',hf,.inr ⟨rfl,key⟩⟩
 |cons x rest ih=>
  intro i T H' hr hi hf hK tv tl ti
  have hlt:i<l.length:=by have:=congrArg List.length hr;simp at this;omega
  have hj:l[i]?=some x:=by have:=congrArg (fun u=>u[0]?) hr;simpa using this
  have hr2:l.drop (i+1)=rest:=by rw [←List.tail_drop,hr];rfl
  have tv':=(hK 10 (by omega)).trans tv
  have tl':=(hK 11 (by omega)).trans tl
  obtain ⟨b,o,c,rfl,hb,_,hcell⟩:=hv.get hj
  have hsb:SameB lo H H':=fun z hz=>hf.2 z (Nat.lt_of_lt_of_le hz hlo)
  have hw1:IntKind.i64.wrap ((i:Int)+1)=((i+1:Nat):Int):=by rw [wrap64 _ (by omega) (by omega)];simp
  have hn:=hf.1
  have hlx:=hlim x (List.mem_of_getElem? hj)
  obtain ⟨cs,pr,vp,vb,g0,g1,g2,g3,g4,g5,g6⟩:=hcell.ex
  replace g0:=(hsb b hb).trans g0
  obtain ⟨pa,pc,rfl,_⟩:=id g5
  obtain ⟨ba,bc,rfl,_⟩:=id g6
  have hco:cellsOf (some (.cells cs 59 pr)) (o+i*4) 4=some [.slice pa x.params.length pc,.int .i64 x.result,.int .i64 x.slots,.slice ba x.blocks.length bc]:=cellsOf_of rfl (by omega) fun j hj=>by
   match j,hj with
   |0,_=>simpa using g1
   |1,_=>simpa using g2
   |2,_=>simpa using g3
   |3,_=>simpa using g4
  obtain ⟨T2,G,eq,hF,f2,f12,f17,f18,f19⟩:∃T2 G,run J okAll (.loop L38_1) T H'=rseq J okAll (.loop L38_1) (rseq J okAll (.region 12 #[Idl.o 27 (.binOp .add 3 (.tmp 12) (xi 1) 3) 3,Idl.o 12 (.move (.tmp 27)) 3] false) (blockOut 1 (blockOut 2 (run J okAll (.loop L38_0) T2 G))))∧Fr H.next H G∧
    (∀t,t<12∧t≠4∧t≠6→T2.at t=K t)∧T2.at 12=.int .i64 (i:Int)∧T2.at 17=.slice ba x.blocks.length bc∧T2.at 18=.int .i64 (x.blocks.length:Int)∧T2.at 19=.int .i64 ((0:Nat):Int):=by
   rw [r_loop]
   simp [L38_1,tv',tl',ti,hlt,iindexAddr,g0,hco,loadT_agg,inew,istore,Value.cells,plain1,overlay,IH.get_push,IH.get_set]
   refine ⟨_,_,rfl,?_,fun t h1 h2 h3=>by simp (disch:=omega) only [at_set_om];exact hK t ⟨h1,h2,h3⟩,by simp [ti],by simp,by simp,by simp⟩
   repeat' first|exact hf|apply Fr.push|apply Fr.set
   all_goals first|omega|(simp<;>omega)
  obtain ⟨T3,H3,f3,d⟩:=loop38b g6 hlo (by have:=hlx.blocks;omega) (fun y hy=>by have:=(hlx.code y hy).1;omega) (fun t=>T2.at t) x.blocks 0 T2 G rfl (by omega) hF (fun t ht=>rfl) f17 f18 f19
  simp only [List.any_cons]
  have hof:oddFn x=x.blocks.any oddCode:=rfl
  rcases d with ⟨d1,d2,d3⟩|⟨d1,d2,d3⟩
  ·refine ⟨T3,H3,f3,.inl ⟨by rw [hof,d1,Bool.true_or],?_,d3⟩⟩
   rw [eq,d2]
   simp
  ·rw [d2] at eq
   have k12:=(d3 12 (by omega)).trans f12
   obtain ⟨T4,e4,q1,q3⟩:∃T4,rseq J okAll (.loop L38_1) (rseq J okAll (.region 12 #[Idl.o 27 (.binOp .add 3 (.tmp 12) (xi 1) 3) 3,Idl.o 12 (.move (.tmp 27)) 3] false) (blockOut 1 (blockOut 2 (some (.exit 2,T3,H3)))))=run J okAll (.loop L38_1) T4 H3∧
     (∀t,t<12∧t≠4∧t≠6→T4.at t=K t)∧T4.at 12=.int .i64 ((i+1:Nat):Int):=by
    simp [k12,hw1]
    exact ⟨_,rfl,fun t h1 h2 h3=>by simp (disch:=omega) only [at_set_om];exact (d3 t (by omega)).trans (f2 t ⟨h1,h2,h3⟩),by simp⟩
   obtain ⟨T',H'',f,d⟩:=ih (i+1) T4 H3 hr2 (by omega) f3 q1 tv tl q3
   rw [eq.trans e4,hof,d1,Bool.false_or]
   exact ⟨T',H'',f,d⟩
theorem c_Check {u:ImV} {im:Img} (hv:ImvAt H lo u im) (hlo:lo≤H.next) (hsm:ImSm im):∃H',Fr H.next H H'∧cal J okAll 38 #[u.val im] H=some (.ret (.int .i64 (checkF im)),H'):=by
 rw [cal38 _ _ (by simp)]
 obtain ⟨B0,hB0⟩:∃B0,B0=H.push (.cells (ImV.cells u im) 27 false):=⟨_,rfl⟩
 have nB0:B0.next=H.next+1:=by rw [hB0];simp
 have gB0:B0.get H.next=some (.cells (ImV.cells u im) 27 false):=by rw [hB0,IH.get_push_same]
 have sB0:SameB lo H B0:=fun z hz=>by rw [hB0,IH.get_push_other _ _ _ (by omega)]
 have fB0:Fr H.next H B0:=by rw [hB0];exact (Fr.refl _ _).push (Nat.le_refl _) _
 have hv0:=hv.same sB0
 obtain ⟨H1,f1,c1⟩:=c_big hv0 (by omega) hsm
 obtain ⟨fa,fc,ef,_⟩:=id hv.funcs
 have g1:H1.get H.next=_:=(f1.2 H.next (by omega)).trans gB0
 have ff1:=fB0.trans (f1.of_le (lo:=H.next) (by omega))
 unfold checkF
 simp only [ImV.val,ImV.cells] at c1 g1 gB0 hB0 ⊢
 obtain ⟨ta,tc,et,_⟩:=id hv.types
 obtain ⟨sa,sc,es,_⟩:=id hv.shapes
 obtain ⟨ga,gc,eg,_⟩:=id hv.strings
 obtain ⟨na,nc,en,_⟩:=id hv.names
 rw [et,es,eg,en,ef] at c1 g1 gB0 hB0 ⊢
 cases hb:bigF im with
 |true=>
  rw [hb] at c1
  simp only [if_true]
  simp [C38,regsOf,fin,iresult1,inew,Value.cells,←hB0,gB0,loadT_agg,c1]
  exact ff1
 |false=>
  rw [hb] at c1
  have hok:=bigF_ok hb hsm
  simp only [Bool.false_eq_true,if_false]
  obtain ⟨od,hod⟩:∃od,od=im.funcs.any oddFn:=⟨_,rfl⟩
  rw [←hod]
  simp [C38,regsOf,fin,iresult1,inew,Value.cells,←hB0,gB0,loadT_agg,c1,g1]
  generalize hX:run J okAll (.loop L38_1) _ _=X
  obtain ⟨T1,hT,a10,a11,a12⟩:∃T1,run J okAll (.loop L38_1) T1 H1=X∧T1.at 10=u.funcs∧T1.at 11=.int .i64 (im.funcs.length:Int)∧T1.at 12=.int .i64 ((0:Nat):Int):=⟨_,hX,by simp [ef],by simp,by simp⟩
  obtain ⟨T2,H2,f2,e⟩:=loop38f hv0.funcs (by omega) (by have:=hok.fnum;omega) hok.funcs (fun t=>T1.at t) im.funcs 0 T1 H1 rfl (by omega) f1 (fun t ht=>rfl) a10 a11 a12
  have ff2:=fB0.trans (f2.of_le (lo:=H.next) (by omega))
  rcases e with ⟨e1,e2,e3⟩|⟨e1,e2⟩
  ·have e2:=hT.symm.trans e2
   subst e2
   rw [←hod] at e1
   subst e1
   simp [regsOf,fin,iresult1,e3]
   exact ff2
  ·have e2:=hT.symm.trans e2
   subst e2
   rw [←hod] at e1
   subst e1
   simp [regsOf,fin,iresult1]
   exact ff2
end
def Shp.ly (s:Shp):Int×Int:=(s.kind,if s.kind=1 then (s.fields.length:Int) else 0)
theorem bs_ly (H:IH) (x y:Int):ibuildSlice J 125 1 [(0,.agg #[.int .i64 x,.int .i64 y])] H=some (.slice (some ⟨H.next,0,none⟩) 1 1,H.push (.cells [.int .i64 x,.int .i64 y] 127 false)):=by kernel_rfl
theorem bl_ly (x:Int):ibuild J 127 [(0,.int .i64 x)]=some (.agg #[.int .i64 x,.int .i64 0]):=by kernel_rfl
def LySAt (H:IH) (lo:Nat) (v:Value) (l:List (Int×Int)):Prop:=(v=.slice none 0 0∧l= [])∨∃b,lo≤b∧b<H.next∧v=.slice (some ⟨b,0,none⟩) l.length capU∧H.get b=some (.cells (lyc l) 127 false)
theorem LySAt.at {H:IH} {lo:Nat} {v:Value} {l:List (Int×Int)} (h:LySAt H lo v l):LyAt H v l:=by
 rcases h with ⟨rfl,rfl⟩|⟨b,h1,h2,rfl,h4⟩
 ·exact ⟨none,0,rfl,fun h=>by simp at h⟩
 ·exact ⟨_,_,rfl,fun _=>⟨b,rfl,h2,h4⟩⟩
theorem LySAt.fr {H H':IH} {lo:Nat} {v:Value} {l:List (Int×Int)} (h:LySAt H lo v l) (f:Fr H.next H H'):LySAt H' lo v l:=by
 rcases h with h|⟨b,h1,h2,h3,h4⟩
 ·exact .inl h
 ·exact .inr ⟨b,h1,Nat.lt_of_lt_of_le h2 f.1,h3,(f.2 b h2).trans h4⟩
theorem app_ly {H:IH} {lo:Nat} {u:Value} {l:List (Int×Int)} (h:LySAt H lo u l) (hlo:lo≤H.next) (hl:l.length≤1000000) (x y:Int):
  ∃u' H',iappend J #[125,125] u (.slice (some ⟨H.next,0,none⟩) 1 1) (H.push (.cells [.int .i64 x,.int .i64 y] 127 false))=some (u',H')∧LySAt H' lo u' (l++[(x,y)])∧Fr lo H H':=by
 have h1:icells (H.push (.cells [.int .i64 x,.int .i64 y] 127 false)) ⟨H.next,0,none⟩ (1*2)=some [.int .i64 x,.int .i64 y]:=by simp [IH.get_push]
 have hn:(H.push (.cells [.int .i64 x,.int .i64 y] 127 false)).next=H.next+1:=by simp
 rcases h with ⟨rfl,rfl⟩|⟨b,b1,b2,rfl,b4⟩
 ·have:=app_nil st_ly (c:=1) h1 (by simp) (by omega) (by omega)
  rw [hn] at this
  refine ⟨_,_,this,.inr ⟨H.next+1,by omega,by simp,by simp,?_⟩,((Fr.refl _ _).push hlo _).push (by simp;omega) _⟩
  rw [show H.next+1=(H.push (.cells [.int .i64 x,.int .i64 y] 127 false)).next by simp,IH.get_push_same];rfl
 ·have hg:(H.push (.cells [.int .i64 x,.int .i64 y] 127 false)).get b=some (.cells (lyc l) 127 false):=by rw [IH.get_push_other _ _ _ b2];exact b4
  have:=app_some st_ly (c:=1) (len:=l.length) h1 (by simp) (by omega) (by omega) hg (by rw [lyc_len];omega) (by simp [plain1])
  rw [hn] at this
  refine ⟨_,_,this,.inr ⟨H.next+1,by omega,by simp,by simp,?_⟩,(((Fr.refl _ _).push hlo _).set b1 _).push (by simp;omega) _⟩
  rw [show H.next+1=((H.push (.cells [.int .i64 x,.int .i64 y] 127 false)).set b .dead).next by simp,IH.get_push_same]
  rw [List.take_of_length_le (by rw [lyc_len];omega)];simp [lyc]
section
variable {H:IH} {lo:Nat}
theorem loop36 {v:Value} {l:List Shp} (hv:LAt lo 3 (ShpAt H lo) v l) (hlo:lo≤H.next) (hl:l.length≤100000) (K:Nat→Value):∀(rest:List Shp) (i:Nat) (T:Regs) (H':IH),l.drop i=rest→i≤l.length→Fr H.next H H'→
  (∀t,t<2→T.at t=K t)→LySAt H' H.next (T.at 2) ((l.take i).map Shp.ly)→T.at 24=v→T.at 25=.int .i64 (l.length:Int)→T.at 26=.int .i64 (i:Int)→
  ∃T' H'',Fr H.next H H''∧run J okAll (.loop L36_0) T H'=some (.exit 0,T',H'')∧(∀t,t<2→T'.at t=K t)∧LySAt H'' H.next (T'.at 2) (l.map Shp.ly):=by
 intro rest
 induction rest with
 |nil=>
  intro i T H' hr hi hf hK hly tv tl ti
  have:i=l.length:=by have:=congrArg List.length hr;simp at this;omega
  subst this
  rw [List.take_length] at hly
  obtain ⟨T',key⟩:∃T',run J okAll (.loop L36_0) T H'=some (.exit 0,T',H')∧(∀t,t<2→T'.at t=K t)∧T'.at 2=T.at 2:=by
   rw [r_loop]
   simp [L36_0,tv,tl,ti]
   exact fun t ht=>by simp (disch:=omega) only [at_set_om];exact hK t ht
  exact ⟨T',H',hf,key.1,key.2.1,by rw [key.2.2];exact hly⟩
 |cons x rest ih=>
  intro i T H' hr hi hf hK hly tv tl ti
  have hlt:i<l.length:=by have:=congrArg List.length hr;simp at this;omega
  have hj:l[i]?=some x:=by have:=congrArg (fun u=>u[0]?) hr;simpa using this
  have hr2:l.drop (i+1)=rest:=by rw [←List.tail_drop,hr];rfl
  have htk:(l.take (i+1)).map Shp.ly=(l.take i).map Shp.ly++[x.ly]:=by rw [List.take_add_one,hj];simp
  obtain ⟨b,o,c,rfl,hb,_,hcell⟩:=hv.get hj
  have hsb:SameB lo H H':=fun z hz=>hf.2 z (Nat.lt_of_lt_of_le hz hlo)
  have hw1:IntKind.i64.wrap ((i:Int)+1)=((i+1:Nat):Int):=by rw [wrap64 _ (by omega) (by omega)];simp
  have hn:=hf.1
  obtain ⟨cs,pr,vf,g0,g1,g2,g3,g4⟩:=hcell.ex
  replace g0:=(hsb b hb).trans g0
  obtain ⟨sa,sc,rfl,_⟩:=id g4
  have hco:cellsOf (some (.cells cs 90 pr)) (o+i*3) 3=some [.int .i64 x.kind,.slice sa x.fields.length sc,.string x.name]:=cellsOf_of rfl (by omega) fun j hj=>by
   match j,hj with
   |0,_=>simpa using g1
   |1,_=>simpa using g2
   |2,_=>simpa using g3
  have nx2:¬H'.next=H'.next+1+1:=by omega
  obtain ⟨G,hG⟩:∃G,G=((((H'.push (.cells [.int .i64 0,.slice none 0 0,.string ⟨#[]⟩] 90 false)).set H'.next (.cells [.int .i64 x.kind,.slice sa x.fields.length sc,.string x.name] 90 false)).push (.cells [.int .i64 0,.int .i64 0] 127 false)).set (H'.next+1) (.cells [.int .i64 x.ly.1,.int .i64 x.ly.2] 127 false)):=⟨_,rfl⟩
  have fG:Fr H'.next H' G:=by
   rw [hG]
   repeat' first|exact Fr.refl _ _|apply Fr.push|apply Fr.set
   all_goals first|omega|(simp<;>omega)
  have nG:G.next=H'.next+2:=by rw [hG];simp
  have gG:G.get (H'.next+1)=some (.cells [.int .i64 x.ly.1,.int .i64 x.ly.2] 127 false):=by rw [hG,IH.get_set,if_pos rfl]
  obtain ⟨u',H2,a1,a2,a3⟩:=app_ly (hly.fr fG) (by omega) (by simp;omega) x.ly.1 x.ly.2
  rw [nG] at a1
  have gG0:G.get H'.next=some (.cells [.int .i64 x.kind,.slice sa x.fields.length sc,.string x.name] 90 false):=by
   rw [hG,IH.get_set,if_neg (by omega),IH.get_push_other _ _ _ (by simp),IH.get_set,if_pos rfl]
  have ff:Fr H.next H H2:=(hf.trans (fG.of_le hn)).trans a3
  have hgo:∃T1,run J okAll (.loop L36_0) T H'=run J okAll (.loop L36_0) T1 H2∧(∀t,t<2→T1.at t=K t)∧T1.at 2=u'∧T1.at 24=.slice (some ⟨b,o,none⟩) l.length c∧T1.at 25=.int .i64 (l.length:Int)∧T1.at 26=.int .i64 ((i+1:Nat):Int):=by
   by_cases hk:x.kind=1
   ·have hkd:decide (x.kind=1)=true:=decide_eq_true hk
    have hly2:x.ly=(x.kind,(x.fields.length:Int)):=by unfold Shp.ly;rw [if_pos hk]
    rw [hly2] at hG gG a1
    dsimp only at hG gG a1
    rw [r_loop]
    simp [L36_0,tv,tl,ti,hlt,iindexAddr,g0,hco,loadT_agg,inew,istore,Value.cells,plain1,overlay,IH.get_push,IH.get_set,iparts,bl_ly,bs_ly,nx2,hkd,←hG,gG,gG0,nG,a1,hw1]
    exact ⟨_,rfl,fun t ht=>by simp (disch:=omega) only [at_set_om];exact hK t ht,by simp,by simp [tv],by simp [tl],by simp⟩
   ·have hkd:decide (x.kind=1)=false:=decide_eq_false hk
    have hly2:x.ly=(x.kind,0):=by unfold Shp.ly;rw [if_neg hk]
    rw [hly2] at hG gG a1
    dsimp only at hG gG a1
    rw [r_loop]
    simp [L36_0,tv,tl,ti,hlt,iindexAddr,g0,hco,loadT_agg,inew,istore,Value.cells,plain1,overlay,IH.get_push,IH.get_set,iparts,bl_ly,bs_ly,nx2,hkd,←hG,gG,gG0,nG,a1,hw1]
    exact ⟨_,rfl,fun t ht=>by simp (disch:=omega) only [at_set_om];exact hK t ht,by simp,by simp [tv],by simp [tl],by simp⟩
  obtain ⟨T1,s1,s2,s3,s4,s5,s6⟩:=hgo
  rw [s1]
  exact ih (i+1) T1 H2 hr2 (by omega) ff s2 (by rw [s3,htk];exact a2) s4 s5 s6
end
structure Scr where
 input:List Nat
 fuel:Nat
 heap:Nat
 stack:Nat
 collect:List Bool
def Img.start (im:Img) (s:Scr):Mst:=⟨s.fuel,s.heap,s.stack,s.input,s.collect,.new s.heap (im.shapes.map Shp.ly),[],0,0,0,[],⟨#[]⟩,0,0⟩
def cells0 (mp:Nat) (iv cv:Value) (s:Scr):List Value:=[ptrV mp,iv,.int .i64 (s.fuel:Int),.int .i64 (s.heap:Int),.int .i64 (s.stack:Int),cv,.pointer none,.slice none 0 0,.int .i64 0,.int .i64 0,.int .i64 0,.int .i64 0,.slice none 0 0,.string ⟨#[]⟩,.int .i64 0,.int .i64 0]
def mainOk (im:Img):Bool:=decide (0≤im.main)&&decide (im.main<im.funcs.length)&&((im.funcs[im.main.toNat]?).map fun f=>f.params.isEmpty).getD false
def beginOk (im:Img):Bool:=decide (checkF im=0)&&(im.shapes.map Shp.ly).all lyOk&&mainOk im
structure ScrOk (s:Scr):Prop where
 fuel:s.fuel≤16777216
 heap:s.heap≤65536
 stack:s.stack≤65536
 input:s.input.length≤4611686018427387904∧∀c∈s.input,c<256
section
variable {H:IH} {lo:Nat} {im:Img} {s:Scr}
theorem checkF_ok (h:checkF im=0) (hs:ImSm im):ImOk im:=by
 unfold checkF at h
 cases hb:bigF im with
 |true=>rw [hb] at h;simp at h
 |false=>exact bigF_ok hb hs
theorem start_at {mp p:Nat} {a:HpA} {iv cv:Value} (hi:ImgAt H lo mp im) (hin:LAt lo 1 (CellAt H 5 byteV) iv s.input) (hcl:LAt lo 1 (CellAt H 4 Value.bool) cv s.collect) (hs:ScrOk s) (hok:ImOk im) (hlo:lo≤H.next)
  (hp:HpAt H a (.new s.heap (im.shapes.map Shp.ly))) {n0:Nat} (h1:n0≤a.p) (h2:n0≤a.wb) (h3:n0≤a.hb) (h4:∀lb l c,a.lv=.slice (some ⟨lb,0,none⟩) l c→n0≤lb) (hpl:lo≤p∧p<n0) (hpn:p<H.next)
  (ho:H.get p=some (.cells (({ p:=p,mp:=mp,hp:=a,iv:=iv,cv:=cv,fv:=.slice none 0 0,ov:=.slice none 0 0,fr:=[] }:VA).cells (im.start s)) 84 false)):
  VmAt H lo im { p:=p,mp:=mp,hp:=a,iv:=iv,cv:=cv,fv:=.slice none 0 0,ov:=.slice none 0 0,fr:=[] } (im.start s):=by
 have hb:∀x∈bOf a.lv,∃l c,a.lv=.slice (some ⟨x,0,none⟩) l c∧n0≤x∧x<H.next:=by
  intro x hx
  rcases hp.ly with ⟨e,_⟩|⟨lb,e,e2⟩
  ·rw [e] at hx;simp [bOf] at hx
  ·rw [e] at hx
   simp only [bOf_some,List.mem_singleton] at hx
   subst hx
   exact ⟨_,_,e,h4 _ _ _ e,hp.lt.2.2.2 _ _ _ e⟩
 have hown:({ p:=p,mp:=mp,hp:=a,iv:=iv,cv:=cv,fv:=.slice none 0 0,ov:=.slice none 0 0,fr:=[] }:VA).own=p::a.p::a.wb::a.hb::bOf a.lv:=by simp [VA.own,bOf,frOwn]
 refine ⟨ho,hi,hp,hin,hcl,.nil,.inl ⟨rfl,rfl⟩,.inl ⟨rfl,rfl⟩,?_,?_,hlo,⟨rfl,⟨?_,?_⟩,?_,⟨?_,?_⟩,?_,Nat.le_refl _,Nat.le_refl _,Nat.le_refl _,Nat.zero_le _,hs.input.1,hs.input.2⟩,hok⟩
 ·rw [hown]
  have hne:=hp.ne1
  have hne2:=hp.ne2
  have hsep:=hp.sep
  have hlb:∀x∈bOf a.lv,x≠a.wb∧x≠a.hb∧x≠a.p:=fun x hx=>by
   obtain ⟨l,c,e,_⟩:=hb x hx
   exact hp.ne3 e
  have hnd:(bOf a.lv).Nodup:=by
   unfold bOf
   split<;>simp
  simp only [List.nodup_cons,List.mem_cons,not_or]
  refine ⟨⟨by omega,by omega,by omega,fun hx=>?_⟩,⟨hne,hne2,fun hx=>(hlb _ hx).2.2 rfl⟩,⟨hsep,fun hx=>(hlb _ hx).1 rfl⟩,fun hx=>(hlb _ hx).2.1 rfl,hnd⟩
  obtain ⟨l,c,e,e2,_⟩:=hb _ hx
  omega
 ·rw [hown]
  intro x hx
  have hlt:=hp.lt
  simp only [List.mem_cons] at hx
  rcases hx with rfl|rfl|rfl|rfl|hx
  ·omega
  ·have:=hlt.1;omega
  ·have:=hlt.2.1;omega
  ·have:=hlt.2.2.1;omega
  ·obtain ⟨l,c,e,e2,e3⟩:=hb _ hx;omega
 ·simp only [Img.start];have:=hs.stack;omega
 ·simp only [Img.start];omega
 ·simp only [Img.start];omega
 ·simp only [Img.start];omega
 ·simp only [Img.start];have:=hs.fuel;omega
 ·simp only [Img.start];omega
end
end Go.Proofs.YtchlbfmjnhgpgaaGreat.Idl
