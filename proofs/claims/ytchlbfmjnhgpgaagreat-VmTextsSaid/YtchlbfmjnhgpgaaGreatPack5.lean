/- VmTexts: texts are joined, measured, compared, and their bytes told: for every input the law answers true: the row. Conditions: none but the row's own. -/
import Derived.Test.YtchlbfmjnhgpgaaGreatPack4
import Derived.Test.YtchlbfmjnhgpgaaGreatPack3
import Derived.Test.YtchlbfmjnhgpgaaGreatRows
import Derived.ChangeMaps5
import Derived.RowKitTokens
import Derived.ProofKit
import Derived.ChangeAt2
namespace Go.Proofs.YtchlbfmjnhgpgaaGreat.Idl
open Go
set_option maxHeartbeats 8000000
set_option maxRecDepth 100000
set_option linter.unusedSimpArgs false
def mHd (n:Nat):Nat:=wMark (wHead 0 n) true
section
variable {n:Nat}
theorem hd_val (hn:n<1048576):wHead 0 n=n*2097152+1:=by unfold wHead;omega
theorem mHd_val (hn:n<1048576):mHd n=n*2097152+1+2199023255552:=by unfold mHd wMark;rw [hd_val hn,if_pos rfl];omega
theorem hd_marked (hn:n<1048576):wMarked (wHead 0 n)=false:=by rw [hd_val hn];unfold wMarked;exact decide_eq_false (by omega)
theorem hd_mark:wMark (wHead 0 n) true=mHd n:=rfl
theorem mHd_imm (hn:n<1048576):wIsImm (mHd n)=true:=by rw [mHd_val hn];unfold wIsImm;exact decide_eq_true (by omega)
theorem mHd_marked (hn:n<1048576):wMarked (mHd n)=true:=by rw [mHd_val hn];unfold wMarked;exact decide_eq_true (by omega)
theorem mHd_shape (hn:n<1048576):wShape (mHd n)=0:=by rw [mHd_val hn];unfold wShape;omega
theorem mHd_len (hn:n<1048576):wLen (mHd n)=n:=by rw [mHd_val hn];unfold wLen;omega
theorem mHd_un (hn:n<1048576):wTurn (wMark (mHd n) false) 0=wHead 0 n:=by rw [mHd_val hn,hd_val hn];unfold wTurn wMark;simp only [Bool.false_eq_true,if_false];omega
end
theorem ptr_imm (a:Nat):wIsImm (wPtr a)=false:=by unfold wIsImm wPtr;exact decide_eq_false (by omega)
theorem ptr_at (a:Nat):wAt (wPtr a)=a:=by unfold wAt wPtr;omega
section
variable {σ:Hp} {os:List (Nat×List Nat)}
theorem size_b {σ:Hp} {rs:List Nat} {t n:Nat} {ws:List Nat} (hl:σ.ly= [(3,0),(2,0)]) (hn:n≤65536):GS.size ⟨{ σ with ws:=ws },rs,t⟩ (mHd n)=(osz n,0):=by
 have hk:({ σ with ws:=ws }:Hp).kindI 0=3:=by unfold Hp.kindI Hp.kind;simp only [hl];rfl
 have hne:({ σ with ws:=ws }:Hp).need 0 (n:Int)=(((osz n:Nat):Int),0):=by
  unfold Hp.need Hp.kind
  simp only [hl]
  rw [if_pos ⟨by omega,by decide,by omega⟩,show ((0:Int).toNat)=0 from rfl]
  simp only [List.getElem?_cons_zero,Option.map_some,Option.getD_some]
  rw [if_neg (by simp),if_neg (by omega),if_pos trivial]
  unfold osz;congr 1
 have hb:GS.bytes ⟨{ σ with ws:=ws },rs,t⟩ (mHd n)=true:=by
  unfold GS.bytes
  simp only [mHd_shape (show n<1048576 by omega)]
  exact decide_eq_true hk
 unfold GS.size
 rw [hb]
 simp only [mHd_shape (show n<1048576 by omega),mHd_len (show n<1048576 by omega)]
 rw [if_neg (by simp),show ((0:Nat):Int)=0 from rfl,hne,Int.toNat_natCast]
def W2 (σ:Hp) (b x y:Nat):Hp:={ σ with ws:=(σ.ws.set 0 x).set b y }
theorem W2_w0 (h:σ.ws.length=300) {b x y:Nat} (hb:b≠0):(W2 σ b x y).w 0=x:=by
 unfold W2 Hp.w;simp only
 rw [List.getElem?_set,if_neg hb,List.getElem?_set,if_pos rfl,if_pos (by omega)];rfl
theorem W2_wb (h:σ.ws.length=300) {b x y:Nat} (hb:b<300):(W2 σ b x y).w b=y:=by
 unfold W2 Hp.w;simp only
 rw [List.getElem?_set,if_pos rfl,if_pos (by simpa using by omega)];rfl
theorem W2_set0 {b x y z:Nat} (hb:b≠0):(W2 σ b x y).setW 0 z=W2 σ b z y:=by
 unfold W2 Hp.setW;simp only
 congr 1
 rw [List.set_comm _ _ hb,List.set_set]
theorem W2_setb {b x y z:Nat}:(W2 σ b x y).setW b z=W2 σ b x z:=by
 unfold W2 Hp.setW;simp only [List.set_set]
theorem setW_same {σ:Hp} {i:Nat} (hi:i<σ.ws.length):σ.setW i (σ.w i)=σ:=by
 unfold Hp.setW
 have:σ.ws.set i (σ.w i)=σ.ws:=by rw [←σ.w_eq i hi];exact List.set_getElem_self hi
 rw [this]
theorem W2_id {b:Nat} (h:σ.ws.length=300) (hb:b<300):W2 σ b (σ.w 0) (σ.w b)=σ:=by
 have h1:=setW_same (σ:=σ) (i:=0) (by omega)
 have h2:=setW_same (σ:=σ) (i:=b) (by omega)
 unfold W2
 unfold Hp.setW at h1 h2
 have e1:σ.ws.set 0 (σ.w 0)=σ.ws:=congrArg Hp.ws h1
 have e2:σ.ws.set b (σ.w b)=σ.ws:=congrArg Hp.ws h2
 rw [e1,e2]
section
variable {b x y t r0 r1 r2 r3:Nat} (h:σ.ws.length=300) (hb:b≠0) (hb3:b<300)
include h
theorem W2_len:(W2 σ b x y).ws.length=300:=by unfold W2;simpa using h
theorem ld0 (hb:b≠0) {rs:List Nat}:GS.load ⟨W2 σ b x y,rs,t⟩ 0=some x:=by unfold GS.load;simp only [W2_len h];rw [if_neg (by omega),W2_w0 h hb]
theorem ldb (hb3:b<300) {rs:List Nat}:GS.load ⟨W2 σ b x y,rs,t⟩ b=some y:=by unfold GS.load;simp only [W2_len h];rw [if_neg (by omega),W2_wb h hb3]
theorem ldr (k:Nat) {rs:List Nat}:GS.load ⟨W2 σ b x y,rs,t⟩ (300+k)=rs[k]?:=by unfold GS.load;simp only [W2_len h];rw [if_pos (by omega),Nat.add_sub_cancel_left]
theorem st0 (hb:b≠0) (z:Nat) {rs:List Nat}:GS.store ⟨W2 σ b x y,rs,t⟩ 0 z=some ⟨W2 σ b z y,rs,t⟩:=by unfold GS.store;simp only [W2_len h];rw [if_neg (by omega),W2_set0 hb]
theorem stb (hb3:b<300) (z:Nat) {rs:List Nat}:GS.store ⟨W2 σ b x y,rs,t⟩ b z=some ⟨W2 σ b x z,rs,t⟩:=by unfold GS.store;simp only [W2_len h];rw [if_neg (by omega),W2_setb]
theorem str (k z:Nat) {rs:List Nat} (hk:k<rs.length):GS.store ⟨W2 σ b x y,rs,t⟩ (300+k) z=some ⟨W2 σ b x y,rs.set k z,t⟩:=by unfold GS.store;simp only [W2_len h];rw [if_pos (by omega),Nat.add_sub_cancel_left,if_pos hk]
end
theorem copy_id (a:Nat):∀(d i:Nat) (g:GS),a+i+d≤g.h.ws.length→GS.copyGo a a i d g=some g
 |0,_,_,_=>rfl
 |d+1,i,g,hl=>by
  unfold GS.copyGo
  have e1:g.load (a+i)=some (g.h.w (a+i)):=by unfold GS.load;rw [if_neg (by omega)]
  have e2:g.store (a+i) (g.h.w (a+i))=some g:=by unfold GS.store;rw [if_neg (by omega),setW_same (by omega)]
  simp only [e1,e2,bind,Option.bind]
  exact copy_id a d (i+1) g (by omega)
theorem closeGo_T (H:TH σ os):∀(os':List (Nat×List Nat)) (s n:Nat) (hd:List Nat),(∀p∈os',p∈os)→chainT s os' σ.top→os'.length<n→closeGo σ σ.top n s hd=some ((os'.map (·.1)).foldl hdSet hd)
 | [],s,n,hd,_,hc,hn=>by
  obtain ⟨m,rfl⟩:∃m,n=m+1:=⟨n-1,by simp at hn;omega⟩
  simp only [chainT] at hc
  unfold closeGo
  rw [if_neg (by omega)];rfl
 |(a,t)::os',s,n,hd,hm,hc,hn=>by
  obtain ⟨m,rfl⟩:∃m,n=m+1:=⟨n-1,by simp at hn;omega⟩
  simp only [chainT] at hc
  obtain ⟨e,hc2⟩:=hc
  subst e
  have hmem:(s,t)∈os:=hm _ (by simp)
  have hl:=H.len hmem
  have hle:=(chainT_lt hc2).1
  have hz:1≤osz t.length:=by unfold osz;omega
  have hw:=H.head _ hmem
  simp only at hw hl
  unfold closeGo
  rw [if_pos (by omega)]
  simp only [hw,wShape0 _ (show t.length<1048576 by omega),wLen0 _ (show t.length<1048576 by omega)]
  have hne:=H.need t.length (by omega)
  rw [show ((0:Nat):Int)=0 from rfl,hne,if_pos (by simp;omega)]
  simp only [Int.toNat_natCast]
  exact closeGo_T H os' _ m _ (fun p hp=>hm p (List.mem_cons_of_mem _ hp)) hc2 (by simp at hn;omega)
theorem pad_zero (w m:Nat) (hw:w<18446744073709551616) (hm:0<m) (hm8:m<8) (h:∀j,m≤j→j<8→w / 2^(j*8)%256=0):w / 2^(m*8)=0:=by
 have h7:=h 7 (by omega) (by omega)
 have hm':m=1∨m=2∨m=3∨m=4∨m=5∨m=6∨m=7:=by omega
 rcases hm' with rfl|rfl|rfl|rfl|rfl|rfl|rfl
 ·have h1:=h 1 (by omega) (by omega);have h2:=h 2 (by omega) (by omega);have h3:=h 3 (by omega) (by omega);have h4:=h 4 (by omega) (by omega);have h5:=h 5 (by omega) (by omega);have h6:=h 6 (by omega) (by omega)
  simp only [Nat.reduceMul,Nat.reducePow] at *;omega
 ·have h2:=h 2 (by omega) (by omega);have h3:=h 3 (by omega) (by omega);have h4:=h 4 (by omega) (by omega);have h5:=h 5 (by omega) (by omega);have h6:=h 6 (by omega) (by omega)
  simp only [Nat.reduceMul,Nat.reducePow] at *;omega
 ·have h3:=h 3 (by omega) (by omega);have h4:=h 4 (by omega) (by omega);have h5:=h 5 (by omega) (by omega);have h6:=h 6 (by omega) (by omega)
  simp only [Nat.reduceMul,Nat.reducePow] at *;omega
 ·have h4:=h 4 (by omega) (by omega);have h5:=h 5 (by omega) (by omega);have h6:=h 6 (by omega) (by omega)
  simp only [Nat.reduceMul,Nat.reducePow] at *;omega
 ·have h5:=h 5 (by omega) (by omega);have h6:=h 6 (by omega) (by omega)
  simp only [Nat.reduceMul,Nat.reducePow] at *;omega
 ·have h6:=h 6 (by omega) (by omega)
  simp only [Nat.reduceMul,Nat.reducePow] at *;omega
 ·simp only [Nat.reduceMul,Nat.reducePow] at *;omega
theorem TH.whole (H:TH σ os) (hw:∀i,σ.w i<18446744073709551616):σ.whole=true:=by
 unfold Hp.whole
 rw [List.all_eq_true]
 intro a ha
 unfold Hp.objects at ha
 rw [List.mem_filter,H.is,decide_eq_true_eq] at ha
 obtain ⟨_,ha⟩:=ha
 obtain ⟨p,hp,rfl⟩:=List.mem_map.1 ha
 have hl:=H.len hp
 have hc:=((chainT_lt H.chain).2 p hp).2
 have ht:=H.top
 have hws:=H.ws
 unfold osz at hc
 unfold Hp.wholeAt
 rw [H.head p hp,wShape0 _ (by omega),wLen0 _ (by omega),H.kind,if_pos rfl,H.ly]
 simp only [List.length_cons,List.length_nil,Bool.and_eq_true,Bool.or_eq_true,decide_eq_true_eq]
 refine ⟨⟨by omega,by omega⟩,?_⟩
 by_cases h0:p.2.length%8=0
 ·exact .inl h0
 ·right
  refine ⟨by omega,pad_zero _ _ (hw _) (by omega) (by omega) fun j h1 h2=>?_⟩
  have hb:=H.byte p hp (p.2.length / 8*8+j) (by omega)
  unfold Hp.byteAt at hb
  rw [List.getElem?_eq_none (by omega),show (p.2.length / 8*8+j) / 8=p.2.length / 8 by omega,show (p.2.length / 8*8+j)%8=j by omega] at hb
  exact hb
theorem TH.close (H:TH σ os) (hw:∀i,σ.w i<18446744073709551616) {n:Nat} (hn:os.length<n):σ.close n σ.top=some σ:=by
 have hws:=H.ws
 have ht:=H.top
 have hh:σ.hd.length=5:=by rw [H.hd,hdOf_len]
 have hz:σ.ws.take σ.top++List.replicate (σ.ws.length-σ.top) 0=σ.ws:=by
  apply List.ext_getElem?
  intro i
  by_cases h1:i<σ.top
  ·rw [List.getElem?_append_left (by simp;omega),List.getElem?_take,if_pos h1]
  ·rw [List.getElem?_append_right (by simp;omega),List.getElem?_replicate]
   by_cases h2:i<300
   ·rw [if_pos (by simp;omega)]
    have:=H.zero i (by omega) h2
    unfold Hp.w at this
    rw [List.getElem?_eq_getElem (by omega)] at this ⊢
    simp only [Option.getD_some] at this
    rw [this]
   ·rw [if_neg (by simp;omega),List.getElem?_eq_none (by omega)]
 unfold Hp.close
 rw [if_pos (by omega),closeGo_T H os 0 n _ (fun _ h=>h) H.chain hn,hh]
 have e:(os.map (·.1)).foldl hdSet (List.replicate 5 0)=σ.hd:=H.hd.symm
 simp only [bind,Option.bind,e,hz]
 rw [if_pos (H.whole hw)]
end
section
variable {σ:Hp}
theorem size_W2 {b x y:Nat} {rs:List Nat} {t n:Nat} (hl:σ.ly= [(3,0),(2,0)]) (hn:n≤65536):GS.size ⟨W2 σ b x y,rs,t⟩ (mHd n)=(osz n,0):=size_b hl hn
def WB (σ:Hp):Prop:=∀i,σ.w i<18446744073709551616
theorem WB.new (n:Nat) (l:List (Int×Int)):WB (Hp.new n l):=fun i=>by
 unfold Hp.new Hp.w
 simp only
 rw [List.getElem?_replicate]
 split<;>simp
theorem WB.put (H:WB σ) {n:Nat} (hk:σ.kind 0=3):WB (σ.put 0 n):=fun i=>by
 unfold Hp.put Hp.w
 rw [hk,if_pos rfl]
 simp only
 rw [List.getElem?_set]
 split
 ·split
  ·exact wHead_lt _ _
  ·simp
 ·exact H i
theorem WB.setByte (H:WB σ) (s i:Int) (c:Nat):WB (σ.setByte s i c):=by
 unfold Hp.setByte
 split
 ·intro j
  unfold Hp.setW Hp.w
  simp only
  rw [List.getElem?_set]
  split
  ·split
   ·exact bset_lt _ _ _
   ·simp
  ·exact H j
 ·exact H
theorem WB.setBytes {s:Nat}:∀(l:List Nat) (i:Nat) {σ:Hp},WB σ→WB (σ.setBytes s i l)
 | [],_,_,H=>H
 |_::l,i,_,H=>WB.setBytes l (i+1) (H.setByte _ _ _)
section
variable {g g1 g2:GS} {n i d a b w x to:Nat}
theorem walk_leaf (h1:g.load a=some w) (h2:(g.size (wMark w true)).2=0) (h3:g.store a (wMark w true)=some g1):GS.walk (n+1) a 1 g=some g1:=by
 unfold GS.walk
 simp only [h1,bind,Option.bind]
 rw [if_neg (by omega)]
 simp only [h3]
 rw [if_pos trivial]
theorem mgo_imm (h:g.roots[i]?=some w) (hi:wIsImm w=true):GS.markedGo n i (d+1) g=GS.markedGo n (i+1) d g:=by
 conv=>lhs;unfold GS.markedGo
 simp only [h,bind,Option.bind,GS.mark,hi,if_true]
theorem mgo_ptr (h:g.roots[i]?=some (wPtr a)) (h1:g.load a=some w) (hm:wMarked w=false) (h2:(g.size (wMark w true)).2=0) (h3:g.store a (wMark w true)=some g1):GS.markedGo (n+1) i (d+1) g=GS.markedGo (n+1) (i+1) d g1:=by
 conv=>lhs;unfold GS.markedGo
 have hw:=walk_leaf (n:=n) h1 h2 h3
 simp only [h,bind,Option.bind,GS.mark,ptr_imm,ptr_at,h1,hm,hw,Bool.false_eq_true,if_false]
theorem tgo_imm (h:g.load (b+i)=some w) (hi:wIsImm w=true):GS.threadsGo b i (d+1) g=GS.threadsGo b (i+1) d g:=by
 conv=>lhs;unfold GS.threadsGo
 simp only [bind,Option.bind,GS.thread,h,hi,if_true]
theorem tgo_ptr (h:g.load (b+i)=some (wPtr a)) (h1:g.load a=some x) (h2:g.store (b+i) x=some g1) (h3:g1.store a (wPtr (b+i))=some g2):GS.threadsGo b i (d+1) g=GS.threadsGo b (i+1) d g2:=by
 conv=>lhs;unfold GS.threadsGo
 simp only [bind,Option.bind,GS.thread,h,ptr_imm,ptr_at,h1,h2,h3,Bool.false_eq_true,if_false]
theorem unthread_imm (h:g.load a=some w) (hi:wIsImm w=true) (h2:g.store a w=some g1):g.unthread (n+1) a to=some (w,g1):=by
 unfold GS.unthread GS.unthreadGo
 simp only [h,hi,h2,bind,Option.bind,if_true]
theorem unthread_one (h:g.load a=some (wPtr i)) (h1:g.load i=some w) (hi:wIsImm w=true) (h2:g.store i (wPtr to)=some g1) (h3:g1.store a w=some g2):g.unthread (n+2) a to=some (w,g2):=by
 unfold GS.unthread GS.unthreadGo
 simp only [h,h1,h2,ptr_imm,ptr_at,bind,Option.bind,Bool.false_eq_true,if_false]
 unfold GS.unthreadGo
 simp only [hi,h3,if_true]
theorem live_end {F:Nat→Nat→Nat→GS→Option GS} (h:¬a<g.top):GS.liveGo F (n+1) a to g=some (to,g):=by
 unfold GS.liveGo
 rw [if_neg h]
theorem live_one {F:Nat→Nat→Nat→GS→Option GS} {s:Nat} (h:a<g.top) (hto:¬a<to) (h1:g.load a=some w) (hn:(wIsImm w&& !wMarked w)=false) (h2:g.unthread n a to=some (x,g1)) (hs:(g1.size x).1=s) (h3:F a to x g1=some g2):GS.liveGo F (n+1) a to g=GS.liveGo F n (a+s) (to+s) g2:=by
 conv=>lhs;unfold GS.liveGo
 rw [if_pos h,if_neg hto]
 simp only [h1,bind,Option.bind,hn,Bool.false_eq_true,if_false,h2,h3,hs]
end
theorem fits_imm {r:Nat} (h:wIsImm r=true):σ.fits r=true:=by unfold Hp.fits;rw [h];rfl
theorem fits_T {os:List (Nat×List Nat)} (H:TH σ os) {p:Nat×List Nat} (hp:p∈os):σ.fits (wPtr p.1)=true:=by unfold Hp.fits;rw [ptr_at,H.isO hp];simp
theorem mGo0 {n i:Nat} {g:GS}:GS.markedGo n i 0 g=some g:=rfl
theorem tGo0 {b i:Nat} {g:GS}:GS.threadsGo b i 0 g=some g:=rfl
theorem collect_id0 (H:TH σ []) (hw:WB σ) (k:Nat) {r0 r1 r2 r3:Nat} (i0:wIsImm r0=true) (i1:wIsImm r1=true) (i2:wIsImm r2=true) (i3:wIsImm r3=true):collect (k+10) σ [r0,r1,r2,r3]=some ([r0,r1,r2,r3],σ):=by
 have hs:=H.ws
 have ht:σ.top=0:=H.chain.symm
 have hc:=H.close hw (n:=k+10) (by simp)
 rw [ht] at hc
 have l:∀i (rs:List Nat) (t:Nat),GS.load ⟨σ,rs,t⟩ (300+i)=rs[i]?:=fun i rs t=>by unfold GS.load;simp only [hs];rw [if_pos (by omega),Nat.add_sub_cancel_left]
 have s1:GS.marked (k+10) ⟨σ,[r0,r1,r2,r3],σ.top⟩=some ⟨σ,[r0,r1,r2,r3],σ.top⟩:=by
  show GS.markedGo (k+10) 0 (3+1) _=_
  rw [mgo_imm (w:=r0) rfl i0]
  rw [mgo_imm (d:=2) (w:=r1) rfl i1,mgo_imm (d:=1) (w:=r2) rfl i2,mgo_imm (d:=0) (w:=r3) rfl i3,mGo0]
 have s2:GS.threadsGo 300 0 4 ⟨σ,[r0,r1,r2,r3],σ.top⟩=some ⟨σ,[r0,r1,r2,r3],σ.top⟩:=by
  show GS.threadsGo 300 0 (3+1) _=_
  rw [tgo_imm (l 0 _ _) i0,tgo_imm (d:=2) (l 1 _ _) i1,tgo_imm (d:=1) (l 2 _ _) i2,tgo_imm (d:=0) (l 3 _ _) i3,tGo0]
 have s3:∀F,GS.liveGo F (k+10) 0 0 ⟨σ,[r0,r1,r2,r3],σ.top⟩=some (0,⟨σ,[r0,r1,r2,r3],σ.top⟩):=fun F=>live_end (n:=k+9) (by simp only [ht];omega)
 have hf:([r0,r1,r2,r3].all σ.fits)=true:=by simp [fits_imm,i0,i1,i2,i3]
 unfold collect
 rw [if_pos hf,hs]
 simp only [List.length_cons,List.length_nil,Nat.zero_add,Nat.reduceAdd,s1,s2,s3,bind,Option.bind,hc]
theorem collect_id1 {t:List Nat} (H:TH σ [(0,t)]) (hw:WB σ) (k:Nat) {r1 r2 r3:Nat} (i1:wIsImm r1=true) (i2:wIsImm r2=true) (i3:wIsImm r3=true):collect (k+10) σ [wPtr 0,r1,r2,r3]=some ([wPtr 0,r1,r2,r3],σ):=by
 have hs:=H.ws
 have hly:=H.ly
 have hch:=H.chain
 simp only [chainT] at hch
 have htp:=H.top
 have hn:=H.len (p:=(0,t)) (by simp)
 have hc:=H.close hw (n:=k+10) (by simp)
 have h0:=H.head (0,t) (by simp)
 have f0:=fits_T H (p:=(0,t)) (by simp)
 simp only at hn h0 f0
 obtain ⟨n,hnn⟩:∃n,n=t.length:=⟨_,rfl⟩
 rw [←hnn] at hch hn h0
 have hz:1≤osz n:=by unfold osz;omega
 have hid:=W2_id (b:=1) hs (by omega)
 rw [h0] at hid
 obtain ⟨y,hy⟩:∃y,y=σ.w 1:=⟨_,rfl⟩
 rw [←hy] at hid
 have hn20:n<1048576:=by omega
 have ne:(1:Nat)≠0:=by omega
 have l0:=fun (x:Nat) (rs:List Nat)=>ld0 (σ:=σ) (b:=1) (x:=x) (y:=y) (t:=σ.top) hs ne (rs:=rs)
 have lr:=fun (x i:Nat) (rs:List Nat)=>ldr (σ:=σ) (b:=1) (x:=x) (y:=y) (t:=σ.top) hs i (rs:=rs)
 have q0:=fun (x z:Nat) (rs:List Nat)=>st0 (σ:=σ) (b:=1) (x:=x) (y:=y) (t:=σ.top) hs ne z (rs:=rs)
 have qr:=fun (x i z:Nat) (rs:List Nat) (hk:i<rs.length)=>str (σ:=σ) (b:=1) (x:=x) (y:=y) (t:=σ.top) hs i z hk
 have sz:=fun (x:Nat) (rs:List Nat)=>size_W2 (σ:=σ) (b:=1) (x:=x) (y:=y) (rs:=rs) (t:=σ.top) (n:=n) hly (by omega)
 have s1:GS.marked (k+10) ⟨σ,[wPtr 0,r1,r2,r3],σ.top⟩=some ⟨W2 σ 1 (mHd n) y,[wPtr 0,r1,r2,r3],σ.top⟩:=by
  show GS.markedGo (k+9+1) 0 (3+1) _=_
  rw [show (⟨σ,[wPtr 0,r1,r2,r3],σ.top⟩:GS)=⟨W2 σ 1 (wHead 0 n) y,[wPtr 0,r1,r2,r3],σ.top⟩ by rw [hid]]
  rw [mgo_ptr (a:=0) rfl (l0 _ _) (hd_marked hn20) (by rw [hd_mark,sz]) (q0 _ _ _),hd_mark]
  rw [mgo_imm (d:=2) (w:=r1) rfl i1,mgo_imm (d:=1) (w:=r2) rfl i2,mgo_imm (d:=0) (w:=r3) rfl i3,mGo0]
 have s2:GS.threadsGo 300 0 4 ⟨W2 σ 1 (mHd n) y,[wPtr 0,r1,r2,r3],σ.top⟩=some ⟨W2 σ 1 (wPtr 300) y,[mHd n,r1,r2,r3],σ.top⟩:=by
  show GS.threadsGo 300 0 (3+1) _=_
  rw [tgo_ptr (a:=0) (lr _ 0 _) (l0 _ _) (qr _ 0 _ _ (by simp)) (q0 _ _ _)]
  simp only [List.set_cons_zero]
  rw [tgo_imm (d:=2) (lr _ 1 _) i1,tgo_imm (d:=1) (lr _ 2 _) i2,tgo_imm (d:=0) (lr _ 3 _) i3,tGo0]
 have s3:GS.liveGo GS.pass1 (k+10) 0 0 ⟨W2 σ 1 (wPtr 300) y,[mHd n,r1,r2,r3],σ.top⟩=some (σ.top,⟨W2 σ 1 (mHd n) y,[wPtr 0,r1,r2,r3],σ.top⟩):=by
  have hu:GS.unthread (k+7+2) (⟨W2 σ 1 (wPtr 300) y,[mHd n,r1,r2,r3],σ.top⟩:GS) 0 0=some (mHd n,⟨W2 σ 1 (mHd n) y,[wPtr 0,r1,r2,r3],σ.top⟩):=
   unthread_one (i:=300) (l0 _ _) (lr _ 0 _) (mHd_imm hn20) (qr _ 0 _ _ (by simp)) (q0 _ _ _)
  rw [live_one (n:=k+9) (s:=osz n) (by simp only;omega) (by omega) (l0 _ _) (by rw [ptr_imm];rfl) hu (by rw [sz]) (g2:=⟨W2 σ 1 (mHd n) y,[wPtr 0,r1,r2,r3],σ.top⟩) (by unfold GS.pass1;rw [sz];rfl)]
  rw [live_end (n:=k+8) (by simp only;omega),Nat.zero_add]
  rw [show osz n=σ.top by omega]
 have s4:GS.liveGo GS.pass2 (k+10) 0 0 ⟨W2 σ 1 (mHd n) y,[wPtr 0,r1,r2,r3],σ.top⟩=some (σ.top,⟨σ,[wPtr 0,r1,r2,r3],σ.top⟩):=by
  have hcp:=copy_id 0 (osz n-1) 1 ⟨W2 σ 1 (wHead 0 n) y,[wPtr 0,r1,r2,r3],σ.top⟩ (by simp only [W2_len hs];omega)
  have hu:GS.unthread (k+8+1) (⟨W2 σ 1 (mHd n) y,[wPtr 0,r1,r2,r3],σ.top⟩:GS) 0 0=some (mHd n,⟨W2 σ 1 (mHd n) y,[wPtr 0,r1,r2,r3],σ.top⟩):=
   unthread_imm (l0 _ _) (mHd_imm hn20) (q0 _ _ _)
  rw [live_one (n:=k+9) (s:=osz n) (by simp only;omega) (by omega) (l0 _ _) (by rw [mHd_imm hn20,mHd_marked hn20];rfl) hu (by rw [sz]) (g2:=⟨W2 σ 1 (wHead 0 n) y,[wPtr 0,r1,r2,r3],σ.top⟩) (by
   unfold GS.pass2
   rw [sz,mHd_un hn20]
   simp only [q0,bind,Option.bind,hcp])]
  rw [live_end (n:=k+8) (by simp only;omega),Nat.zero_add,hid]
  rw [show osz n=σ.top by omega]
 have hf:([wPtr 0,r1,r2,r3].all σ.fits)=true:=by simp [fits_imm,f0,i1,i2,i3]
 unfold collect
 rw [if_pos hf,hs]
 simp only [List.length_cons,List.length_nil,Nat.zero_add,Nat.reduceAdd,s1,s2,s3,s4,bind,Option.bind,hc]
theorem collect_id2 {t u:List Nat} (H:TH σ [(0,t),(osz t.length,u)]) (hw:WB σ) (k:Nat) {r2 r3:Nat} (i2:wIsImm r2=true) (i3:wIsImm r3=true):collect (k+10) σ [wPtr 0,wPtr (osz t.length),r2,r3]=some ([wPtr 0,wPtr (osz t.length),r2,r3],σ):=by
 have hs:=H.ws
 have hly:=H.ly
 have hch:=H.chain
 simp only [chainT] at hch
 have htp:=H.top
 have hn:=H.len (p:=(0,t)) (by simp)
 have hm:=H.len (p:=(osz t.length,u)) (by simp)
 have hc:=H.close hw (n:=k+10) (by simp)
 have h0:=H.head (0,t) (by simp)
 have h1:=H.head (osz t.length,u) (by simp)
 have f0:=fits_T H (p:=(0,t)) (by simp)
 have f1:=fits_T H (p:=(osz t.length,u)) (by simp)
 simp only at hn h0 f0 hm h1 f1
 obtain ⟨b,hb⟩:∃b,b=osz t.length:=⟨_,rfl⟩
 rw [←hb] at h1 f1 hch ⊢
 obtain ⟨n,hnn⟩:∃n,n=t.length:=⟨_,rfl⟩
 obtain ⟨m,hmm⟩:∃m,m=u.length:=⟨_,rfl⟩
 rw [←hnn] at hn h0 hb
 rw [←hmm] at hch hm h1
 have hz:1≤osz n:=by unfold osz;omega
 have hz1:1≤osz m:=by unfold osz;omega
 have hb0:b≠0:=by omega
 have hb3:b<300:=by omega
 have hid:=W2_id (b:=b) hs hb3
 rw [h0,h1] at hid
 have hn20:n<1048576:=by omega
 have hm20:m<1048576:=by omega
 have l0:=fun (x y:Nat) (rs:List Nat)=>ld0 (σ:=σ) (b:=b) (x:=x) (y:=y) (t:=σ.top) hs hb0 (rs:=rs)
 have lb:=fun (x y:Nat) (rs:List Nat)=>ldb (σ:=σ) (b:=b) (x:=x) (y:=y) (t:=σ.top) hs hb3 (rs:=rs)
 have lr:=fun (x y i:Nat) (rs:List Nat)=>ldr (σ:=σ) (b:=b) (x:=x) (y:=y) (t:=σ.top) hs i (rs:=rs)
 have q0:=fun (x y z:Nat) (rs:List Nat)=>st0 (σ:=σ) (b:=b) (x:=x) (y:=y) (t:=σ.top) hs hb0 z (rs:=rs)
 have qb:=fun (x y z:Nat) (rs:List Nat)=>stb (σ:=σ) (b:=b) (x:=x) (y:=y) (t:=σ.top) hs hb3 z (rs:=rs)
 have qr:=fun (x y i z:Nat) (rs:List Nat) (hk:i<rs.length)=>str (σ:=σ) (b:=b) (x:=x) (y:=y) (t:=σ.top) hs i z hk
 have sz:=fun (x y:Nat) (rs:List Nat)=>size_W2 (σ:=σ) (b:=b) (x:=x) (y:=y) (rs:=rs) (t:=σ.top) (n:=n) hly (by omega)
 have sm:=fun (x y:Nat) (rs:List Nat)=>size_W2 (σ:=σ) (b:=b) (x:=x) (y:=y) (rs:=rs) (t:=σ.top) (n:=m) hly (by omega)
 have s1:GS.marked (k+10) ⟨σ,[wPtr 0,wPtr b,r2,r3],σ.top⟩=some ⟨W2 σ b (mHd n) (mHd m),[wPtr 0,wPtr b,r2,r3],σ.top⟩:=by
  show GS.markedGo (k+9+1) 0 (3+1) _=_
  rw [show (⟨σ,[wPtr 0,wPtr b,r2,r3],σ.top⟩:GS)=⟨W2 σ b (wHead 0 n) (wHead 0 m),[wPtr 0,wPtr b,r2,r3],σ.top⟩ by rw [hid]]
  rw [mgo_ptr (a:=0) rfl (l0 _ _ _) (hd_marked hn20) (by rw [hd_mark,sz]) (q0 _ _ _ _),hd_mark]
  rw [mgo_ptr (d:=2) (a:=b) rfl (lb _ _ _) (hd_marked hm20) (by rw [hd_mark,sm]) (qb _ _ _ _),hd_mark]
  rw [mgo_imm (d:=1) (w:=r2) rfl i2,mgo_imm (d:=0) (w:=r3) rfl i3,mGo0]
 have s2:GS.threadsGo 300 0 4 ⟨W2 σ b (mHd n) (mHd m),[wPtr 0,wPtr b,r2,r3],σ.top⟩=some ⟨W2 σ b (wPtr 300) (wPtr 301),[mHd n,mHd m,r2,r3],σ.top⟩:=by
  show GS.threadsGo 300 0 (3+1) _=_
  rw [tgo_ptr (a:=0) (lr _ _ 0 _) (l0 _ _ _) (qr _ _ 0 _ _ (by simp)) (q0 _ _ _ _)]
  simp only [List.set_cons_zero]
  rw [tgo_ptr (d:=2) (a:=b) (lr _ _ 1 _) (lb _ _ _) (qr _ _ 1 _ _ (by simp)) (qb _ _ _ _)]
  simp only [List.set_cons_zero,List.set_cons_succ]
  rw [tgo_imm (d:=1) (lr _ _ 2 _) i2,tgo_imm (d:=0) (lr _ _ 3 _) i3,tGo0]
 have s3:GS.liveGo GS.pass1 (k+10) 0 0 ⟨W2 σ b (wPtr 300) (wPtr 301),[mHd n,mHd m,r2,r3],σ.top⟩=some (σ.top,⟨W2 σ b (mHd n) (mHd m),[wPtr 0,wPtr b,r2,r3],σ.top⟩):=by
  have hu:GS.unthread (k+7+2) (⟨W2 σ b (wPtr 300) (wPtr 301),[mHd n,mHd m,r2,r3],σ.top⟩:GS) 0 0=some (mHd n,⟨W2 σ b (mHd n) (wPtr 301),[wPtr 0,mHd m,r2,r3],σ.top⟩):=
   unthread_one (i:=300) (l0 _ _ _) (lr _ _ 0 _) (mHd_imm hn20) (qr _ _ 0 _ _ (by simp)) (q0 _ _ _ _)
  have hv:GS.unthread (k+6+2) (⟨W2 σ b (mHd n) (wPtr 301),[wPtr 0,mHd m,r2,r3],σ.top⟩:GS) b b=some (mHd m,⟨W2 σ b (mHd n) (mHd m),[wPtr 0,wPtr b,r2,r3],σ.top⟩):=
   unthread_one (i:=301) (lb _ _ _) (lr _ _ 1 _) (mHd_imm hm20) (qr _ _ 1 _ _ (by simp)) (qb _ _ _ _)
  rw [live_one (n:=k+9) (s:=osz n) (by simp only;omega) (by omega) (l0 _ _ _) (by rw [ptr_imm];rfl) hu (by rw [sz]) (g2:=⟨W2 σ b (mHd n) (wPtr 301),[wPtr 0,mHd m,r2,r3],σ.top⟩) (by unfold GS.pass1;rw [sz];rfl)]
  rw [Nat.zero_add,←hb]
  rw [live_one (n:=k+8) (s:=osz m) (by simp only;omega) (by omega) (lb _ _ _) (by rw [ptr_imm];rfl) hv (by rw [sm]) (g2:=⟨W2 σ b (mHd n) (mHd m),[wPtr 0,wPtr b,r2,r3],σ.top⟩) (by unfold GS.pass1;rw [sm];rfl)]
  rw [live_end (n:=k+7) (by simp only;omega)]
  rw [show b+osz m=σ.top by omega]
 have s4:GS.liveGo GS.pass2 (k+10) 0 0 ⟨W2 σ b (mHd n) (mHd m),[wPtr 0,wPtr b,r2,r3],σ.top⟩=some (σ.top,⟨σ,[wPtr 0,wPtr b,r2,r3],σ.top⟩):=by
  have hcp:=copy_id 0 (osz n-1) 1 ⟨W2 σ b (wHead 0 n) (mHd m),[wPtr 0,wPtr b,r2,r3],σ.top⟩ (by simp only [W2_len hs];omega)
  have hcq:=copy_id b (osz m-1) 1 ⟨W2 σ b (wHead 0 n) (wHead 0 m),[wPtr 0,wPtr b,r2,r3],σ.top⟩ (by simp only [W2_len hs];omega)
  have hu:GS.unthread (k+8+1) (⟨W2 σ b (mHd n) (mHd m),[wPtr 0,wPtr b,r2,r3],σ.top⟩:GS) 0 0=some (mHd n,⟨W2 σ b (mHd n) (mHd m),[wPtr 0,wPtr b,r2,r3],σ.top⟩):=
   unthread_imm (l0 _ _ _) (mHd_imm hn20) (q0 _ _ _ _)
  have hv:GS.unthread (k+7+1) (⟨W2 σ b (wHead 0 n) (mHd m),[wPtr 0,wPtr b,r2,r3],σ.top⟩:GS) b b=some (mHd m,⟨W2 σ b (wHead 0 n) (mHd m),[wPtr 0,wPtr b,r2,r3],σ.top⟩):=
   unthread_imm (lb _ _ _) (mHd_imm hm20) (qb _ _ _ _)
  rw [live_one (n:=k+9) (s:=osz n) (by simp only;omega) (by omega) (l0 _ _ _) (by rw [mHd_imm hn20,mHd_marked hn20];rfl) hu (by rw [sz]) (g2:=⟨W2 σ b (wHead 0 n) (mHd m),[wPtr 0,wPtr b,r2,r3],σ.top⟩) (by
   unfold GS.pass2
   rw [sz,mHd_un hn20]
   simp only [q0,bind,Option.bind,hcp])]
  rw [Nat.zero_add,←hb]
  rw [live_one (n:=k+8) (s:=osz m) (by simp only;omega) (by omega) (lb _ _ _) (by rw [mHd_imm hm20,mHd_marked hm20];rfl) hv (by rw [sm]) (g2:=⟨W2 σ b (wHead 0 n) (wHead 0 m),[wPtr 0,wPtr b,r2,r3],σ.top⟩) (by
   unfold GS.pass2
   rw [sm,mHd_un hm20]
   simp only [qb,bind,Option.bind,hcq])]
  rw [live_end (n:=k+7) (by simp only;omega),hid]
  rw [show b+osz m=σ.top by omega]
 have hf:([wPtr 0,wPtr b,r2,r3].all σ.fits)=true:=by simp [fits_imm,f0,f1,i2,i3]
 unfold collect
 rw [if_pos hf,hs]
 simp only [List.length_cons,List.length_nil,Nat.zero_add,Nat.reduceAdd,s1,s2,s3,s4,bind,Option.bind,hc]
end
def txtCode (i:Int):List Ins:=[ins 2 0 0 0 0 0,⟨2,1,1,0,0,0,[],[],[0]⟩,ins 14 2 0 1 0 0,ins 16 0 2 0 0 0,⟨13,3,0,1,0,0,[],[],[0,1]⟩,ins 11 2 3 0 0 0,ins 16 0 2 0 0 0,ins 1 2 0 0 0 i,ins 12 2 3 2 0 0,ins 16 0 2 0 0 0]
def txtR (im:Img):Rest:=⟨vText (vSweep 10),fun x=>if x.op=11∨x.op=12∨x.op=13∨x.op=14 then vBytes (vSweep 10) im x else VM.fail,fun _=>VM.fail,fun _=>VM.fail⟩
theorem txtR_ok (lo:Nat) (im:Img):RestOk lo im (txtR im):=by
 refine ⟨fun x=>?_,fun x=>?_,fun x=>?_,fun x=>?_⟩
 ·intro H A σ b o s h hb hx hxl hne hst hs
  have:=h.imok.strings s hs
  exact m_text (sweep_ok 10) x s (by omega) h hb hx hxl ⟨hst.2.1,hst.2.2⟩
 ·show InsOut lo im _ x (if x.op=11∨x.op=12∨x.op=13∨x.op=14 then vBytes (vSweep 10) im x else VM.fail)
  by_cases h:x.op=11∨x.op=12∨x.op=13∨x.op=14
  ·rw [if_pos h];exact m_bytes (sweep_ok 10) x h
  ·rw [if_neg h];intro H A σ b o _ _ _ _ _ _ r σ' hr;simp [VM.fail] at hr
 all_goals intro H A σ b o _ _ _ _ _ _ r σ' hr;simp [txtR,VM.fail] at hr
def txtIm (a b:ByteArray) (i:Int):Img:=mainIm 4 [a,b] (txtCode i)
def txtS:Scr:=⟨[],100,300,20,[true,true,true]⟩
theorem bytesL_len (s:ByteArray):(bytesL s).length=s.size:=by unfold bytesL;rw [List.length_map];exact Array.length_toList
theorem vText_run {os:List (Nat×List Nat)} {hp:Hp} (H:TH hp os) (W:WB hp) {fuel heap stack:Int} {inp:List Nat} {col:List Bool} {fn:Fn} {bl at_ words:Int} {sl s1 s2:List Nat} {inn made:Nat} {out:List Nat} {ex:ByteArray} {steps swept:Nat} (x:Ins) (s:ByteArray)
  (hk:vKeep x.live ⟨fuel,heap,stack,inp,col,hp,[⟨fn,bl,at_,sl⟩],words,inn,made,out,ex,steps,swept⟩=some (.ok (),⟨fuel,heap,stack,inp,col,hp,[⟨fn,bl,at_,s1⟩],words,inn,made,out,ex,steps,swept⟩))
  (hc:collect 10 hp s1=some (s1,hp)) (hcol:col[made]?=some true) (hroom:hp.top+osz s.size≤300) (hs:s.size≤65536) (hd:0≤x.d∧x.d<s1.length) (h2:s1.set x.d.toNat (wPtr hp.top)=s2):
  ∃h',TH h' (os++[(hp.top,bytesL s)])∧WB h'∧h'.top=hp.top+osz s.size∧
   vText (vSweep 10) x s ⟨fuel,heap,stack,inp,col,hp,[⟨fn,bl,at_,sl⟩],words,inn,made,out,ex,steps,swept⟩=some (.ok (),⟨fuel,heap,stack,inp,col,h',[⟨fn,bl,at_,s2⟩],words,inn,made+1,out,ex,steps,swept+1⟩):=by
 have hne:=H.need s.size hs
 have H1:=H.put s.size hs hroom
 have W1:WB (hp.put 0 s.size):=W.put H.kind
 obtain ⟨g1,H2⟩:=TH.setBytes (os:=os) (a:=hp.top) (bytesL s) (bytesL_lt s) (bytesL s) 0 rfl (by rw [List.length_replicate,bytesL_len]) (fun j hj=>by omega) H1
 have W2:=WB.setBytes (s:=hp.top) (bytesL s) 0 W1
 obtain ⟨h',hh'⟩:∃h',h'=(hp.put 0 s.size).setBytes hp.top 0 (bytesL s):=⟨_,rfl⟩
 rw [←hh'] at H2 W2
 have htop:h'.top=hp.top+osz s.size:=by
  have e1:=H2.chain
  have e2:=chainT_snoc (bytesL s) H.chain
  have key:∀(os:List (Nat×List Nat)) (s e e':Nat),chainT s os e→chainT s os e'→e=e':=by
   intro os
   induction os with
   |nil=>intro s e e' h1 h2;simp only [chainT] at h1 h2;omega
   |cons p os ih=>intro s e e' h1 h2;obtain ⟨pa,pt⟩:=p;simp only [chainT] at h1 h2;exact ih _ _ _ h1.2 h2.2
  rw [key _ _ _ _ e1 e2,bytesL_len]
 refine ⟨h',H2,W2,htop,?_⟩
 have hws:=H.ws
 have hr:¬hp.room<((osz s.size:Nat):Int):=by unfold Hp.room;omega
 have hmk:vMake (vSweep 10) 0 (s.size:Int) x.live [] ⟨fuel,heap,stack,inp,col,hp,[⟨fn,bl,at_,sl⟩],words,inn,made,out,ex,steps,swept⟩=some (.ok (hp.top,[]),⟨fuel,heap,stack,inp,col,hp.put 0 s.size,[⟨fn,bl,at_,s1⟩],words,inn,made+1,out,ex,steps,swept+1⟩):=by
  have hsw:vSweep 10 [] ⟨fuel,heap,stack,inp,col,hp,[⟨fn,bl,at_,s1⟩],words,inn,made+1,out,ex,steps,swept⟩=some (.ok [],⟨fuel,heap,stack,inp,col,hp,[⟨fn,bl,at_,s1⟩],words,inn,made+1,out,ex,steps,swept+1⟩):=by
   simp [vSweep,slotsOf,hc,putSlots]
  unfold vMake
  simp only [vbind,VM.bind,VM.get,hne,vMust,decide_true,if_true,VM.ret,hk,hcol,Option.getD_some,VM.upd,hsw,hr,decide_false,Bool.false_eq_true,if_false,Int.toNat_natCast]
  rfl
 have hsb:vSetBytes hp.top (bytesL s) ⟨fuel,heap,stack,inp,col,hp.put 0 s.size,[⟨fn,bl,at_,s1⟩],words,inn,made+1,out,ex,steps,swept+1⟩=some (.ok (),⟨fuel,heap,stack,inp,col,h',[⟨fn,bl,at_,s1⟩],words,inn,made+1,out,ex,steps,swept+1⟩):=by
  unfold vSetBytes
  simp only [g1,if_true,hh']
 unfold vText
 simp only [vbind,VM.bind,hmk,hsb]
 have hd1:(decide (0≤x.d)&&decide (x.d<(s1.length:Int)))=true:=by simp only [Bool.and_eq_true,decide_eq_true_eq];exact hd
 simp [vSet,vbind,VM.bind,vSlot,vTop,VM.of,vMust,hd.1,hd.2,VM.ret,VM.upd,h2]
theorem outB_bytesL (s:ByteArray):outB (bytesL s)=s:=by
 have:(s.data.toList.map fun x:UInt8=>UInt8.ofNat (((x.toNat:Nat):Int)).toNat)=s.data.toList:=by
  have:(fun x:UInt8=>UInt8.ofNat (((x.toNat:Nat):Int)).toNat)=id:=by
   funext x
   simp
  rw [this,List.map_id]
 unfold outB bytesL strOf
 rw [List.map_map,List.map_map]
 show (⟨(s.data.toList.map fun x:UInt8=>UInt8.ofNat (((x.toNat:Nat):Int)).toNat).toArray⟩:ByteArray)=s
 rw [this]
theorem bytesL_append (a b:ByteArray):bytesL (a++b)=bytesL a++bytesL b:=by
 unfold bytesL
 rw [ByteArray.data_append,Array.toList_append,List.map_append]
theorem txt_begin (a b:ByteArray) (i:Int) (ha:a.size≤300) (hb:b.size≤300):beginOk (txtIm a b i)=true:=by
 have ha':¬(16384:Int)<(a.size:Int):=by omega
 have hb':¬(16384:Int)<(b.size:Int):=by omega
 have e1:checkF (txtIm a b i)=0:=by
  have e4:([a,b].any fun s=>decide ((16384:Int)<s.size))=false:=by simp [ha',hb']
  have e5:bigF (txtIm a b i)=(decide ((1024:Int)<(txtIm a b i).types.length)||decide ((512:Int)<(txtIm a b i).shapes.length)||(decide ((256:Int)<([a,b]:List ByteArray).length)||decide ((256:Int)<(txtIm a b i).names.length))||decide ((1024:Int)<(txtIm a b i).funcs.length)||
   ([a,b].any fun s=>decide ((16384:Int)<s.size))||((txtIm a b i).names.any fun s=>decide ((16384:Int)<s.size))||
   ((txtIm a b i).types.any fun x=>decide ((512:Int)<x.shapes.length))||(txtIm a b i).shapes.any bigShape||(bigFns 20000 (txtIm a b i).funcs).isNone):=rfl
  have:bigF (txtIm a b i)=false:=by
   rw [e5,e4]
   kernel_rfl
  unfold checkF
  rw [this,if_neg (by simp)]
  rw [show (txtIm a b i).funcs.any oddFn=false from by kernel_rfl]
  rfl
 have e2:((txtIm a b i).shapes.map Shp.ly).all lyOk=true:=by kernel_rfl
 have e3:mainOk (txtIm a b i)=true:=by kernel_rfl
 unfold beginOk
 rw [e1,e2,e3]
 rfl
def tst (hp:Hp) (fn:Fn) (k:Int) (sl:List Nat) (made:Nat) (out:List Nat) (steps swept:Nat):Mst:=⟨100,300,20,[],[true,true,true],hp,[⟨fn,0,k,sl⟩],6,0,made,out,⟨#[]⟩,steps,swept⟩
theorem tstep {R:Rest} {im:Img} {hp:Hp} {fn:Fn} {inn:List Int} {code:List Ins} {k k':Int} {sl:List Nat} {made steps steps' swept m:Nat} {out:List Nat} {x:Ins} {r:Except Int Unit} {σ':Mst} (hb:fn.blocks= [⟨inn,code⟩]) (hx:code[k.toNat]?=some x) (hk:0≤k∧k<code.length) (hop:¬18≤x.op) (hs:steps<100) (hk':k+1=k') (hs':steps+1=steps')
  (hv:vInstr R im x (tst hp fn k' sl made out steps' swept)=some (r,σ')):vRunN R im (m+1) (tst hp fn k sl made out steps swept)=match r with
   | .ok _=>vRunN R im m σ'
   | .error e=>some (.error e,σ'):=by
 subst hk' hs'
 have hst:¬((steps:Int)=100):=by omega
 have hlt:k.toNat<code.length:=by omega
 have hxe:code[k.toNat]=x:=by rw [List.getElem?_eq_getElem hlt] at hx;simpa using hx
 have hstep:vStep R im (tst hp fn k sl made out steps swept)=vInstr R im x (tst hp fn (k+1) sl made out (steps+1) swept):=by
  unfold vStep tst
  simp [vbind,VM.bind,vTop,VM.of,vMust,hb,Frm.code,hk.1,hk.2,VM.ret,VM.get,hst,hxe,VM.upd,hop]
 show (vStep R im >>= fun _=>vRunN R im m) _=_
 rw [vbind]
 unfold VM.bind
 simp only [hstep,hv]
 cases r<;>rfl
section
variable {a b:ByteArray} {i:Int}
theorem txt_all (ha:a.size≤300) (hb:b.size≤300) (hi: -4611686018427387904≤i∧i≤4611686018427387903):
  ((0≤i∧i<((a.size+b.size:Nat):Int))→∃σ,runOut (txtR (txtIm a b i)) (txtIm a b i) txtS=some (1,σ)∧σ.out= [(Extern.BytealgCompare.cmp a b%256).toNat,(a.size+b.size)%256,((bytesL a++bytesL b)[i.toNat]?).getD 0]∧σ.swept=3)∧
  ((i<0∨((a.size+b.size:Nat):Int)≤i)→∃σ,runOut (txtR (txtIm a b i)) (txtIm a b i) txtS=some (2,σ)∧σ.exn=nSub∧σ.out= [(Extern.BytealgCompare.cmp a b%256).toNat,(a.size+b.size)%256]):=by
 have H0:=TH.new
 have W0:WB (Hp.new 300 [(3,0),(2,0)]):=WB.new _ _
 have t0:(Hp.new 300 [(3,0),(2,0)]).top=0:=rfl
 have oa:osz a.size≤39:=by unfold osz;omega
 have ob:osz b.size≤39:=by unfold osz;omega
 have oc:osz (a.size+b.size)≤76:=by unfold osz;omega
 have im1:wIsImm 1=true:=rfl
 obtain ⟨fn,hfn⟩:∃fn,fn=(⟨[],0,((4:Nat):Int),[⟨List.replicate 4 (-1),txtCode i++[ins 1 0 0 0 0 0,ins 22 0 0 0 0 0]⟩]⟩:Fn):=⟨_,rfl⟩
 obtain ⟨h1,H1,W1,p1,v1⟩:=vText_run H0 W0 (fuel:=100) (heap:=300) (stack:=20) (inp:=[]) (col:=[true,true,true]) (fn:=fn) (bl:=0) (at_:=1) (words:=6) (sl:=[1,1,1,1]) (s1:=[1,1,1,1]) (s2:=[wPtr 0,1,1,1]) (inn:=0) (made:=0) (out:=[]) (ex:=⟨#[]⟩) (steps:=1) (swept:=0) (ins 2 0 0 0 0 0) a
  (by simp [vKeep,vKeepGo,ins,vbind,VM.bind,vTop,VM.of,VM.ret,VM.upd]) (collect_id0 H0 W0 0 im1 im1 im1 im1) rfl (by rw [t0];omega) (by omega) (by simp [ins]) (by rw [t0];rfl)
 rw [t0] at H1 p1
 simp only [List.nil_append,Nat.zero_add] at H1 p1
 obtain ⟨h2,H2,W2,p2,v2⟩:=vText_run H1 W1 (fuel:=100) (heap:=300) (stack:=20) (inp:=[]) (col:=[true,true,true]) (fn:=fn) (bl:=0) (at_:=2) (words:=6) (sl:=[wPtr 0,1,1,1]) (s1:=[wPtr 0,1,1,1]) (s2:=[wPtr 0,wPtr (osz a.size),1,1]) (inn:=0) (made:=1) (out:=[]) (ex:=⟨#[]⟩) (steps:=2) (swept:=1) ⟨2,1,1,0,0,0,[],[],[0]⟩ b
  (by simp [vKeep,vKeepGo,ins,vbind,VM.bind,vTop,VM.of,VM.ret,VM.upd,vGet,vSlot,vMust]) (collect_id1 H1 W1 0 im1 im1 im1) rfl (by rw [p1];omega) (by omega) (by simp) (by rw [p1];rfl)
 rw [p1] at H2 p2
 simp only [List.cons_append,List.nil_append] at H2
 have hbl:=bytesL_len a
 have hbl2:=bytesL_len b
 have m0:(0,bytesL a)∈[(0,bytesL a),(osz a.size,bytesL b)]:=by simp
 have m1:(osz a.size,bytesL b)∈[(0,bytesL a),(osz a.size,bytesL b)]:=by simp
 have x0:=H2.text m0
 have x1:=H2.text m1
 have s0:=H2.shapeOf m0
 have s1:=H2.shapeOf m1
 have g2:=H2.good
 have k2:=H2.kindI
 have ea:outB (bytesL a)=a:=outB_bytesL a
 have eb:outB (bytesL b)=b:=outB_bytesL b
 obtain ⟨cm,hcm⟩:∃cm,cm=Extern.BytealgCompare.cmp a b:=⟨_,rfl⟩
 have hcr:=cmp_range a b
 rw [←hcm] at hcr
 have icm:wInt (wImm cm)=cm:=wInt_imm cm (by omega)
 have H2':TH h2 [(0,bytesL a),(osz (bytesL a).length,bytesL b)]:=by rw [hbl];exact H2
 have hsab:(a++b).size=a.size+b.size:=ByteArray.size_append
 obtain ⟨h3,H3,W3,p3,v3⟩:=vText_run H2 W2 (fuel:=100) (heap:=300) (stack:=20) (inp:=[]) (col:=[true,true,true]) (fn:=fn) (bl:=0) (at_:=5) (words:=6) (sl:=[wPtr 0,wPtr (osz a.size),wImm cm,1]) (s1:=[wPtr 0,wPtr (osz a.size),1,1]) (s2:=[wPtr 0,wPtr (osz a.size),1,wPtr (osz a.size+osz b.size)]) (inn:=0) (made:=2) (out:=[(cm%256).toNat]) (ex:=⟨#[]⟩) (steps:=5) (swept:=2) ⟨13,3,0,1,0,0,[],[],[0,1]⟩ (a++b)
  (by simp [vKeep,vKeepGo,ins,vbind,VM.bind,vTop,VM.of,VM.ret,VM.upd,vGet,vSlot,vMust]) (by have:=collect_id2 H2' W2 0 im1 im1;rw [hbl] at this;exact this) rfl (by rw [p2,hsab];omega) (by omega) (by simp) (by rw [p2];rfl)
 rw [p2] at H3 p3
 simp only [List.cons_append,List.nil_append] at H3
 have m2:(osz a.size+osz b.size,bytesL (a++b))∈[(0,bytesL a),(osz a.size,bytesL b),(osz a.size+osz b.size,bytesL (a++b))]:=by simp
 have s2:=H3.shapeOf m2
 have n2:=H3.lenOf m2
 have g3:=H3.good
 have k3:=H3.kindI
 have hba:bytesL (a++b)=bytesL a++bytesL b:=bytesL_append a b
 simp only at x0 x1 s0 s1 s2 n2
 rw [hba,List.length_append,hbl,hbl2] at n2
 have z0:wIsImm (wPtr 0)=false:=ptr_imm 0
 have z1:=ptr_imm (osz a.size)
 have z2:=ptr_imm (osz a.size+osz b.size)
 have y0:wAt (wPtr 0)=0:=ptr_at 0
 have y1:=ptr_at (osz a.size)
 have y2:=ptr_at (osz a.size+osz b.size)
 have iz:wInt (wImm 0)=0:=rfl
 have i2:=wInt_imm i hi
 have il:=wInt_imm ((a.size:Int)+(b.size:Int)) (by omega)
 have hlm:(((a.size:Int)+(b.size:Int))%256).toNat=(a.size+b.size)%256:=by omega
 have hbig:¬65536<a.size+b.size:=by omega
 generalize osz a.size+osz b.size=c2 at*
 generalize osz a.size=c1 at*
 obtain ⟨im,him⟩:∃im,im=txtIm a b i:=⟨_,rfl⟩
 have hstr:im.strings= [a,b]:=by rw [him];rfl
 have hsh:im.names= [nMatch,nDiv,nSub,nSize]:=by rw [him];rfl
 have hrt:(txtR im).text=vText (vSweep 10):=rfl
 have hrb:∀x,(txtR im).bytes x=if x.op=11∨x.op=12∨x.op=13∨x.op=14 then vBytes (vSweep 10) im x else VM.fail:=fun _=>rfl
 have hbk:fn.blocks= [⟨List.replicate 4 (-1),txtCode i++[ins 1 0 0 0 0 0,ins 22 0 0 0 0 0]⟩]:=by rw [hfn]
 have st0:runOut (txtR im) im txtS=match vRunN (txtR im) im 101 (tst (Hp.new 300 [(3,0),(2,0)]) fn 0 [1,1,1,1] 0 [] 0 0) with
   |some (.error k,σ')=>some (k,σ')
   |_=>none:=by
  have hvc:vCall im im.main [] (im.start txtS)=some (.ok (),tst (Hp.new 300 [(3,0),(2,0)]) fn 0 [1,1,1,1] 0 [] 0 0):=by
   rw [him,hfn]
   simp [txtIm,mainIm,txtS,vCall,vbind,VM.bind,vMust,VM.ret,VM.of,VM.get,VM.upd,Img.start,Fn.frame,Shp.ly,tst]
  unfold runOut
  rw [him,txt_begin a b i ha hb,←him,if_neg (by simp),hvc]
  rfl
 have K0:(Hp.new 300 [(3,0),(2,0)]).kindI 0=3:=rfl
 have K1:=H1.kindI
 have c0:∀m,vRunN (txtR im) im (m+1) (tst (Hp.new 300 [(3,0),(2,0)]) fn 0 [1,1,1,1] 0 [] 0 0)=vRunN (txtR im) im m (tst h1 fn 1 [wPtr 0,1,1,1] 1 [] 1 1):=fun m=>
  tstep (k':=1) (steps':=1) (r:=.ok ()) (x:=ins 2 0 0 0 0 0) hbk rfl (by simp [txtCode]) (by decide) (by omega) rfl rfl (by
   unfold tst
   simp only [vInstr,ins]
   simp [vbind,VM.bind,VM.get,K0,vMust,VM.ret,VM.of,hstr,hrt]
   exact v1)
 have c1':∀m,vRunN (txtR im) im (m+1) (tst h1 fn 1 [wPtr 0,1,1,1] 1 [] 1 1)=vRunN (txtR im) im m (tst h2 fn 2 [wPtr 0,wPtr c1,1,1] 2 [] 2 2):=fun m=>
  tstep (k':=2) (steps':=2) (r:=.ok ()) (x:=⟨2,1,1,0,0,0,[],[],[0]⟩) hbk rfl (by simp [txtCode]) (by decide) (by omega) rfl rfl (by
   unfold tst
   simp only [vInstr]
   simp [vbind,VM.bind,VM.get,K1,vMust,VM.ret,VM.of,hstr,hrt]
   exact v2)
 have c2':∀m,vRunN (txtR im) im (m+1) (tst h2 fn 2 [wPtr 0,wPtr c1,1,1] 2 [] 2 2)=vRunN (txtR im) im m (tst h2 fn 3 [wPtr 0,wPtr c1,wImm cm,1] 2 [] 3 2):=fun m=>
  tstep (k':=3) (steps':=3) (r:=.ok ()) (x:=ins 14 2 0 1 0 0) hbk rfl (by simp [txtCode]) (by decide) (by omega) rfl rfl (by
   unfold tst
   simp only [vInstr,ins]
   simp [vbind,VM.bind,VM.get,VM.upd,vMust,VM.ret,VM.of,hrb,vBytes,vCmp,vTwo,vObject,vGet,vSlot,vTop,z0,z1,y0,y1,s0,s1,k2,vGood,g2,x0,x1,ea,eb,←hcm,vSetInt,vSet])
 have c3':∀m,vRunN (txtR im) im (m+1) (tst h2 fn 3 [wPtr 0,wPtr c1,wImm cm,1] 2 [] 3 2)=vRunN (txtR im) im m (tst h2 fn 4 [wPtr 0,wPtr c1,wImm cm,1] 2 [(cm%256).toNat] 4 2):=fun m=>
  tstep (k':=4) (steps':=4) (r:=.ok ()) (x:=ins 16 0 2 0 0 0) hbk rfl (by simp [txtCode]) (by decide) (by omega) rfl rfl (by
   unfold tst
   simp only [vInstr,ins]
   simp [vbind,VM.bind,VM.get,VM.upd,vMust,VM.ret,VM.of,vNumber,vGet,vSlot,vTop,wIsImm_imm,icm])
 have c4':∀m,vRunN (txtR im) im (m+1) (tst h2 fn 4 [wPtr 0,wPtr c1,wImm cm,1] 2 [(cm%256).toNat] 4 2)=vRunN (txtR im) im m (tst h3 fn 5 [wPtr 0,wPtr c1,1,wPtr c2] 3 [(cm%256).toNat] 5 3):=fun m=>
  tstep (k':=5) (steps':=5) (r:=.ok ()) (x:=⟨13,3,0,1,0,0,[],[],[0,1]⟩) hbk rfl (by simp [txtCode]) (by decide) (by omega) rfl rfl (by
   unfold tst
   simp only [vInstr]
   simp [vbind,VM.bind,VM.get,VM.upd,vMust,VM.ret,VM.of,hrb,vBytes,vCat,vTwo,vObject,vGet,vSlot,vTop,z0,z1,y0,y1,s0,s1,k2,vGood,g2,x0,x1,ea,eb,hbig]
   exact v3)
 have c5':∀m,vRunN (txtR im) im (m+1) (tst h3 fn 5 [wPtr 0,wPtr c1,1,wPtr c2] 3 [(cm%256).toNat] 5 3)=vRunN (txtR im) im m (tst h3 fn 6 [wPtr 0,wPtr c1,wImm ((a.size:Int)+(b.size:Int)),wPtr c2] 3 [(cm%256).toNat] 6 3):=fun m=>
  tstep (k':=6) (steps':=6) (r:=.ok ()) (x:=ins 11 2 3 0 0 0) hbk rfl (by simp [txtCode]) (by decide) (by omega) rfl rfl (by
   unfold tst
   simp only [vInstr,ins]
   simp [vbind,VM.bind,VM.get,VM.upd,vMust,VM.ret,VM.of,hrb,vBytes,vLen,vObject,vGet,vSlot,vTop,z2,y2,s2,k3,n2,vSetInt,vSet])
 have c6':∀m,vRunN (txtR im) im (m+1) (tst h3 fn 6 [wPtr 0,wPtr c1,wImm ((a.size:Int)+(b.size:Int)),wPtr c2] 3 [(cm%256).toNat] 6 3)=vRunN (txtR im) im m (tst h3 fn 7 [wPtr 0,wPtr c1,wImm ((a.size:Int)+(b.size:Int)),wPtr c2] 3 [(cm%256).toNat,(a.size+b.size)%256] 7 3):=fun m=>
  tstep (k':=7) (steps':=7) (r:=.ok ()) (x:=ins 16 0 2 0 0 0) hbk rfl (by simp [txtCode]) (by decide) (by omega) rfl rfl (by
   unfold tst
   simp only [vInstr,ins]
   simp [vbind,VM.bind,VM.get,VM.upd,vMust,VM.ret,VM.of,vNumber,vGet,vSlot,vTop,wIsImm_imm,il,hlm])
 have c7':∀m,vRunN (txtR im) im (m+1) (tst h3 fn 7 [wPtr 0,wPtr c1,wImm ((a.size:Int)+(b.size:Int)),wPtr c2] 3 [(cm%256).toNat,(a.size+b.size)%256] 7 3)=vRunN (txtR im) im m (tst h3 fn 8 [wPtr 0,wPtr c1,wImm i,wPtr c2] 3 [(cm%256).toNat,(a.size+b.size)%256] 8 3):=fun m=>
  tstep (k':=8) (steps':=8) (r:=.ok ()) (x:=ins 1 2 0 0 0 i) hbk rfl (by simp [txtCode]) (by simp [ins]) (by omega) rfl rfl (by
   unfold tst
   simp only [vInstr,ins]
   simp [vbind,VM.bind,VM.get,VM.upd,vMust,VM.ret,VM.of,vSetInt,vSet,vSlot,vTop])
 have hlen2:(bytesL (a++b)).length=a.size+b.size:=by rw [hba,List.length_append,hbl,hbl2]
 refine ⟨fun hb=>?_,fun hb=>?_⟩
 ·obtain ⟨j,rfl⟩:∃j:Nat,i=j:=⟨i.toNat,by omega⟩
  have hj:j<(bytesL (a++b)).length:=by omega
  have hv:vIndex (j:Int)=(j:Int):=by unfold vIndex;rw [if_neg (by omega)]
  have q1:=H3.byteI m2 j hj
  simp only at q1
  obtain ⟨w,hw⟩:∃w,w=(bytesL (a++b))[j]:=⟨_,rfl⟩
  rw [←hw] at q1
  have hw8:w<256:=by rw [hw];exact bytesL_lt _ _ (List.getElem_mem _)
  have hwf:((bytesL a++bytesL b)[((j:Nat):Int).toNat]?).getD 0=w:=by
   rw [←hba,Int.toNat_natCast,List.getElem?_eq_getElem hj,hw];rfl
  have iw:=wInt_imm (w:Int) (by omega)
  have hw2:((w:Int)%256).toNat=w:=by omega
  have c8':∀m,vRunN (txtR im) im (m+1) (tst h3 fn 8 [wPtr 0,wPtr c1,wImm (j:Int),wPtr c2] 3 [(cm%256).toNat,(a.size+b.size)%256] 8 3)=vRunN (txtR im) im m (tst h3 fn 9 [wPtr 0,wPtr c1,wImm (w:Int),wPtr c2] 3 [(cm%256).toNat,(a.size+b.size)%256] 9 3):=fun m=>
   tstep (k':=9) (steps':=9) (r:=.ok ()) (x:=ins 12 2 3 2 0 0) hbk rfl (by simp [txtCode]) (by decide) (by omega) rfl rfl (by
    unfold tst
    simp only [vInstr,ins]
    simp [vbind,VM.bind,VM.get,VM.upd,vMust,VM.ret,VM.of,hrb,vBytes,vByte,vObject,vGet,vSlot,vTop,z2,y2,s2,k3,vNumber,wIsImm_imm,i2,vGood,g3,hv,q1,vSetInt,vSet])
  have c9':∀m,vRunN (txtR im) im (m+1) (tst h3 fn 9 [wPtr 0,wPtr c1,wImm (w:Int),wPtr c2] 3 [(cm%256).toNat,(a.size+b.size)%256] 9 3)=vRunN (txtR im) im m (tst h3 fn 10 [wPtr 0,wPtr c1,wImm (w:Int),wPtr c2] 3 [(cm%256).toNat,(a.size+b.size)%256,w] 10 3):=fun m=>
   tstep (k':=10) (steps':=10) (r:=.ok ()) (x:=ins 16 0 2 0 0 0) hbk rfl (by simp [txtCode]) (by decide) (by omega) rfl rfl (by
    unfold tst
    simp only [vInstr,ins]
    simp [vbind,VM.bind,VM.get,VM.upd,vMust,VM.ret,VM.of,vNumber,vGet,vSlot,vTop,wIsImm_imm,iw,hw2])
  rw [←him,st0,c0,c1',c2',c3',c4',c5',c6',c7',c8',c9',←hcm,hwf]
  have hcode:((fn.blocks[(0:Int).toNat]?).map (·.code)).getD []=txtCode (j:Int)++[ins 1 0 0 0 0 0,ins 22 0 0 0 0 0]:=by rw [hbk];rfl
  simp [tst,vRunN,vStep,vbind,VM.bind,vTop,VM.of,vMust,hbk,Frm.code,txtCode,ins,VM.ret,VM.get,VM.upd,vInstr,vSetInt,vSet,vSlot,vGet,vLast,vPop,vEnd]
 ·have q1:=H3.byte_bad m2 (vIndex i) (by simp only;rw [hlen2];unfold vIndex;split<;>omega)
  simp only at q1
  have hp0:wInt (wImm 2)=2:=rfl
  rw [←him,st0,c0,c1',c2',c3',c4',c5',c6',c7',←hcm]
  simp [tst,vRunN,vStep,vbind,VM.bind,vTop,VM.of,vMust,hbk,Frm.code,txtCode,ins,VM.ret,VM.get,VM.upd,vInstr,hrb,vBytes,vByte,vObject,vGet,vSlot,z2,y2,s2,k3,vNumber,wIsImm_imm,i2,vGood,g3,q1,vThrow,vThrowN,vPop,nameF,hsh,hp0,vEnd]
end
def cmpF (l m:List UInt8):Int:=
 match (List.range (min l.length m.length)).find? fun i=>l[i]! !=m[i]! with
 |some i=>if l[i]! <m[i]! then -1 else 1
 |none=>if l.length<m.length then -1 else if l.length>m.length then 1 else 0
theorem ba_get (s:ByteArray) (i:Nat):s[i]! =s.data.toList[i]! :=by
 by_cases h:i<s.size
 ·have h2:i<s.data.toList.length:=by rw [Array.length_toList];exact h
  rw [getElem!_pos s i h,getElem!_pos s.data.toList i h2]
  rfl
 ·have h2:¬i<s.data.toList.length:=by rw [Array.length_toList];exact h
  rw [getElem!_neg s i h,getElem!_neg s.data.toList i h2]
theorem cmp_eq (s u:ByteArray):Extern.BytealgCompare.cmp s u=cmpF s.data.toList u.data.toList:=by
 have e:∀v:ByteArray,v.size=v.data.toList.length:=fun v=>by rw [Array.length_toList];rfl
 unfold Extern.BytealgCompare.cmp cmpF
 simp only [ba_get,e]
 cases List.find? (fun i=>s.data.toList[i]! !=u.data.toList[i]!) (List.range (min s.data.toList.length u.data.toList.length))<;>rfl
theorem cmpF_cons (x y:UInt8) (l m:List UInt8):cmpF (x::l) (y::m)=if x=y then cmpF l m else if x<y then -1 else 1:=by
 unfold cmpF
 simp only [List.length_cons,Nat.add_min_add_right,List.range_succ_eq_map,List.find?_cons,List.find?_map]
 have e0:((x::l)[0]! :UInt8)=x:=rfl
 have e1:((y::m)[0]! :UInt8)=y:=rfl
 have e2:((fun i=>(x::l)[i]! !=(y::m)[i]!)∘Nat.succ)=fun i=>l[i]! !=m[i]! :=by
  funext i
  simp
 rw [e0,e1,e2]
 by_cases h:x=y
 ·rw [if_pos h]
  have:(x !=y)=false:=by simp [h]
  rw [this]
  simp only
  cases (List.range (min l.length m.length)).find? fun i=>l[i]! !=m[i]! with
  |none=>simp
  |some i=>simp
 ·rw [if_neg h]
  have:(x !=y)=true:=by simp [h]
  rw [this]
  simp
theorem less_cmp:∀(l m:List UInt8),Op.bytesLess l m=decide (cmpF l m= -1)
 | [],[]=>by simp [Op.bytesLess,cmpF]
 |x::l,[]=>by simp [Op.bytesLess,cmpF]
 | [],y::m=>by simp [Op.bytesLess,cmpF]
 |x::l,y::m=>by
  have ih:=less_cmp l m
  rw [cmpF_cons]
  unfold Op.bytesLess
  rw [ih]
  by_cases h:x=y
  ·subst h
   have:¬x<x:=UInt8.lt_irrefl x
   simp [this]
  ·rw [if_neg h]
   by_cases h2:x<y
   ·rw [if_pos h2];simp [h2]
   ·rw [if_neg h2];simp [h2,h]
theorem eq_cmp:∀(l m:List UInt8),(l==m)=decide (cmpF l m=0)
 | [],[]=>by simp [cmpF]
 |x::l,[]=>by simp [cmpF]
 | [],y::m=>by simp [cmpF]
 |x::l,y::m=>by
  have ih:=eq_cmp l m
  rw [cmpF_cons,List.cons_beq_cons,ih]
  by_cases h:x=y
  ·simp [h]
  ·rw [if_neg h]
   have:(x==y)=false:=by simp [h]
   rw [this]
   split<;>simp
section
variable (J:Env) (H:IH) (t:TypeId) (x y:Operand) (s u:ByteArray)
theorem s_less:Op.bytesLess s.toList u.toList=decide (Extern.BytealgCompare.cmp s u= -1):=by rw [ByteArray.toList_eq,ByteArray.toList_eq,less_cmp,cmp_eq]
theorem s_eq:(s.toList==u.toList)=decide (Extern.BytealgCompare.cmp s u=0):=by rw [ByteArray.toList_eq,ByteArray.toList_eq,eq_cmp,cmp_eq]
theorem bin_slss:binR J .lss t x y (.string s) (.string u) H=some (.val (.bool (decide (Extern.BytealgCompare.cmp s u= -1))) H):=binR_pure J H rfl rfl rfl (by simp [binOp,Op.stringOp,pure,pureRun,s_less]) rfl
theorem bin_sgtr:binR J .gtr t x y (.string s) (.string u) H=some (.val (.bool (!(decide (Extern.BytealgCompare.cmp s u= -1)||decide (Extern.BytealgCompare.cmp s u=0)))) H):=binR_pure J H rfl rfl rfl (by simp [binOp,Op.stringOp,pure,pureRun,s_less,s_eq]) rfl
end
def txC1 (a:Nat):List Value:=[.int .i64 2,.int .i64 1,.int .i64 1,.int .i64 0,.int .i64 0,.int .i64 0,.slice none 0 0,.slice none 0 0,.slice (some ⟨a,0,none⟩) 1 1]
def txC2 (a:Nat):List Value:=[.int .i64 13,.int .i64 3,.int .i64 0,.int .i64 1,.int .i64 0,.int .i64 0,.slice none 0 0,.slice none 0 0,.slice (some ⟨a,0,none⟩) 2 2]
theorem bt015 (op d n:Int):ibuild J 30 [(0,.int .i64 op),(1,.int .i64 d),(5,.int .i64 n)]=some (.agg (insC (ins op d 0 0 0 n)).toArray):=by kernel_rfl
theorem bt012 (op d a:Int):ibuild J 30 [(0,.int .i64 op),(1,.int .i64 d),(2,.int .i64 a)]=some (.agg (insC (ins op d a 0 0 0)).toArray):=by kernel_rfl
theorem bt013 (op d b:Int):ibuild J 30 [(0,.int .i64 op),(1,.int .i64 d),(3,.int .i64 b)]=some (.agg (insC (ins op d 0 b 0 0)).toArray):=by kernel_rfl
theorem bt0123 (op d a b:Int):ibuild J 30 [(0,.int .i64 op),(1,.int .i64 d),(2,.int .i64 a),(3,.int .i64 b)]=some (.agg (insC (ins op d a b 0 0)).toArray):=by kernel_rfl
theorem bt02 (op a:Int):ibuild J 30 [(0,.int .i64 op),(2,.int .i64 a)]=some (.agg (insC (ins op 0 a 0 0 0)).toArray):=by kernel_rfl
theorem btc1 (a:Nat):ibuild J 30 [(0,.int .i64 2),(1,.int .i64 1),(2,.int .i64 1),(8,.slice (some ⟨a,0,none⟩) 1 1)]=some (.agg (txC1 a).toArray):=by kernel_rfl
theorem btc2 (a:Nat):ibuild J 30 [(0,.int .i64 13),(1,.int .i64 3),(3,.int .i64 1),(8,.slice (some ⟨a,0,none⟩) 2 2)]=some (.agg (txC2 a).toArray):=by kernel_rfl
theorem bti2 (H:IH) (x y:Int):ibuildSlice J 28 2 [(0,.int .i64 x),(1,.int .i64 y)] H=some (.slice (some ⟨H.next,0,none⟩) 2 2,H.push (.cells [.int .i64 x,.int .i64 y] 3 false)):=by kernel_rfl
theorem bts10 (H:IH) (a b:Nat) (x0 x2 x3 x5 x6 x7 x8 x9:Ins):ibuildSlice J 54 10 [(0,.agg (insC x0).toArray),(1,.agg (txC1 a).toArray),(2,.agg (insC x2).toArray),(3,.agg (insC x3).toArray),(4,.agg (txC2 b).toArray),(5,.agg (insC x5).toArray),(6,.agg (insC x6).toArray),(7,.agg (insC x7).toArray),(8,.agg (insC x8).toArray),(9,.agg (insC x9).toArray)] H=
  some (.slice (some ⟨H.next,0,none⟩) 10 10,H.push (.cells (insC x0++(txC1 a++(insC x2++(insC x3++(txC2 b++(insC x5++(insC x6++(insC x7++(insC x8++insC x9))))))))) 30 false)):=by kernel_rfl
theorem btst (H:IH) (s u:ByteArray):ibuildSlice J 24 2 [(0,.string s),(1,.string u)] H=some (.slice (some ⟨H.next,0,none⟩) 2 2,H.push (.cells [.string s,.string u] 9 false)):=by kernel_rfl
theorem btbo (H:IH):ibuildSlice J 35 3 [(0,.bool true),(1,.bool true),(2,.bool true)] H=some (.slice (some ⟨H.next,0,none⟩) 3 3,H.push (.cells [.bool true,.bool true,.bool true] 4 false)):=by kernel_rfl
theorem btscr (f h s:Int) (a:Option Addr) (n c:Nat):ibuild J 37 [(1,.int .i64 f),(2,.int .i64 h),(3,.int .i64 s),(4,.slice a n c)]=some (.agg #[.slice none 0 0,.int .i64 f,.int .i64 h,.int .i64 s,.slice a n c]):=by kernel_rfl
theorem btb2 (H:IH) (x y:Int):ibuildSlice J 34 2 [(0,.int .u8 x),(1,.int .u8 y)] H=some (.slice (some ⟨H.next,0,none⟩) 2 2,H.push (.cells [.int .u8 x,.int .u8 y] 5 false)):=by kernel_rfl
theorem btb1 (H:IH) (x:Int):ibuildSlice J 34 1 [(0,.int .u8 x)] H=some (.slice (some ⟨H.next,0,none⟩) 1 1,H.push (.cells [.int .u8 x] 5 false)):=by kernel_rfl
theorem live_at {F:IH} {lo b o a q:Nat} {cs:List Value} {pr:Bool} {x:Ins} {lv:List Int} (hx:x= { ins x.op x.d x.a x.b x.c x.n with live:=lv }) (hg:F.get b=some (.cells cs 30 pr))
  (h:∀j,j<8→cs[o+j]?=(insC x)[j]?) (h8:cs[o+8]?=some (.slice (some ⟨a,0,none⟩) q q)) (hq:lv.length=q) (ha:a<lo) (hga:F.get a=some (.cells (intsC lv) 3 false)):InsAt F lo b o x:=by
 have hl:x.l= []:=by rw [hx];rfl
 have hm:x.m= []:=by rw [hx];rfl
 have hv:x.live=lv:=by rw [hx]
 refine ⟨cs,pr,_,_,_,hg,by simpa [insC] using h 0 (by omega),by simpa [insC] using h 1 (by omega),by simpa [insC] using h 2 (by omega),by simpa [insC] using h 3 (by omega),by simpa [insC] using h 4 (by omega),by simpa [insC] using h 5 (by omega),
  by simpa [insC] using h 6 (by omega),by simpa [insC] using h 7 (by omega),h8,by rw [hl];exact LAt.nil,by rw [hm];exact LAt.nil,?_⟩
 rw [hv]
 exact LAt.mk hq ha fun i hi=>CellAt.one hga (by simp [intsC,hi])
theorem nine8 {P:Nat→Prop} (h0:P 0) (h1:P 1) (h2:P 2) (h3:P 3) (h4:P 4) (h5:P 5) (h6:P 6) (h7:P 7):∀j,j<8→P j:=by
 intro j hj
 match j,hj with
 |0,_=>exact h0
 |1,_=>exact h1
 |2,_=>exact h2
 |3,_=>exact h3
 |4,_=>exact h4
 |5,_=>exact h5
 |6,_=>exact h6
 |7,_=>exact h7
theorem nine9 {P:Nat→Prop} (h:∀j,j<8→P j) (h8:P 8):∀j,j<9→P j:=fun j hj=>by
 rcases Nat.lt_or_ge j 8 with h'|h'
 ·exact h j h'
 ·have:j=8:=by omega
  subst this;exact h8
def txtCells (i:Int) (a b:Nat):List Value:=insC (ins 2 0 0 0 0 0)++(txC1 a++(insC (ins 14 2 0 1 0 0)++(insC (ins 16 0 2 0 0 0)++(txC2 b++(insC (ins 11 2 3 0 0 0)++(insC (ins 16 0 2 0 0 0)++(insC (ins 1 2 0 0 0 i)++(insC (ins 12 2 3 2 0 0)++insC (ins 16 0 2 0 0 0)))))))))
section
variable {H:IH}
theorem txt_ins {i:Int} {a b:Nat} (ha:a<H.next) (hga:H.get a=some (.cells [.int .i64 0] 3 false)) (hb:b<H.next) (hgb:H.get b=some (.cells [.int .i64 0,.int .i64 1] 3 false)) (F:IH) (c:Nat) (cs':List Value) (hs:SameB H.next H F) (hg:F.get c=some (.cells (txtCells i a b++cs') 30 false)):
  ∀k (h:k<(txtCode i).length),InsAt F H.next c (k*9) (txtCode i)[k]:=by
 intro k hk
 match k,hk with
 |0,_=>exact InsAt.plain hg (nine9 (nine8 rfl rfl rfl rfl rfl rfl rfl rfl) rfl) rfl rfl rfl
 |1,_=>exact live_at (lv:=[0]) rfl hg (nine8 rfl rfl rfl rfl rfl rfl rfl rfl) rfl rfl ha ((hs a ha).trans hga)
 |2,_=>exact InsAt.plain hg (nine9 (nine8 rfl rfl rfl rfl rfl rfl rfl rfl) rfl) rfl rfl rfl
 |3,_=>exact InsAt.plain hg (nine9 (nine8 rfl rfl rfl rfl rfl rfl rfl rfl) rfl) rfl rfl rfl
 |4,_=>exact live_at (lv:=[0,1]) rfl hg (nine8 rfl rfl rfl rfl rfl rfl rfl rfl) rfl rfl hb ((hs b hb).trans hgb)
 |5,_=>exact InsAt.plain hg (nine9 (nine8 rfl rfl rfl rfl rfl rfl rfl rfl) rfl) rfl rfl rfl
 |6,_=>exact InsAt.plain hg (nine9 (nine8 rfl rfl rfl rfl rfl rfl rfl rfl) rfl) rfl rfl rfl
 |7,_=>exact InsAt.plain hg (nine9 (nine8 rfl rfl rfl rfl rfl rfl rfl rfl) rfl) rfl rfl rfl
 |8,_=>exact InsAt.plain hg (nine9 (nine8 rfl rfl rfl rfl rfl rfl rfl rfl) rfl) rfl rfl rfl
 |9,_=>exact InsAt.plain hg (nine9 (nine8 rfl rfl rfl rfl rfl rfl rfl rfl) rfl) rfl rfl rfl
theorem txt_sm (a b:ByteArray) (i:Int) (hi: -4611686018427387904≤i∧i≤4611686018427387903):ImSm (txtIm a b i):=by
 refine ⟨fun f hf y hy'=>?_,fun f hf y' hy' z hz=>?_⟩
 ·simp only [txtIm,mainIm,List.mem_singleton] at hf
  subst hf
  simp only [List.mem_singleton] at hy'
  subst hy'
  simp [txtCode]
 ·simp only [txtIm,mainIm,List.mem_singleton] at hf
  subst hf
  simp only [List.mem_singleton] at hy'
  subst hy'
  simp only [txtCode,List.cons_append,List.nil_append,List.mem_cons,List.not_mem_nil,or_false] at hz
  rcases hz with rfl|rfl|rfl|rfl|rfl|rfl|rfl|rfl|rfl|rfl|rfl|rfl<;>simp only [ins]<;>omega
theorem run_txt {a b:ByteArray} {i:Int} (hi: -4611686018427387904≤i∧i≤4611686018427387903) {x y c sb:Nat} (hx:x<H.next) (gx:H.get x=some (.cells [.int .i64 0] 3 false)) (hy:y<H.next) (gy:H.get y=some (.cells [.int .i64 0,.int .i64 1] 3 false))
  (hc:c<H.next) (gc:H.get c=some (.cells (txtCells i x y) 30 false)) (hs:sb<H.next) (gs:H.get sb=some (.cells [.string a,.string b] 9 false)) {k:Int} {σ:Mst} (hr:runOut (txtR (txtIm a b i)) (txtIm a b i) txtS=some (k,σ)):
  ∃(H1 H2 E Q:IH) (a1 a2 a3 a4 a5:Option Addr) (c1 c2 c3 c4 c5 m1 m2 m3 m4 m5:Nat) (oa:Option Addr) (on oc:Nat),
   cal J okAll 29 #[.int .i64 4,.slice (some ⟨sb,0,none⟩) 2 2,.slice (some ⟨c,0,none⟩) 10 10] H=some (.ret (.agg #[.slice a1 m1 c1,.slice a2 m2 c2,.slice a3 m3 c3,.slice a4 m4 c4,.slice a5 m5 c5,.int .i64 0,.int .i64 0]),H1)∧
   H2=H1.push (.cells [.bool true,.bool true,.bool true] 4 false)∧
   cal J okAll 19 #[.agg #[.slice a1 m1 c1,.slice a2 m2 c2,.slice a3 m3 c3,.slice a4 m4 c4,.slice a5 m5 c5,.int .i64 0,.int .i64 0],.agg #[.slice none 0 0,.int .i64 100,.int .i64 300,.int .i64 20,.slice (some ⟨H1.next,0,none⟩) 3 3]] H2=some (.ret (.agg #[.int .i64 k,.slice oa on oc,.string σ.exn,.int .i64 (σ.steps:Int),.int .i64 (σ.swept:Int)]),E)∧
   Q=(E.push (.cells [.int .i64 0,.slice none 0 0,.string ⟨#[]⟩,.int .i64 0,.int .i64 0] 44 false)).set E.next (.cells [.int .i64 k,.slice oa on oc,.string σ.exn,.int .i64 (σ.steps:Int),.int .i64 (σ.swept:Int)] 44 false)∧
   Q.get E.next=some (.cells [.int .i64 k,.slice oa on oc,.string σ.exn,.int .i64 (σ.steps:Int),.int .i64 (σ.swept:Int)] 44 false)∧
   Q.next=E.next+1∧(∀Q':IH,Fr Q.next Q Q'→iconvert J 34 9 (.slice oa on oc) Q'=some (.string (outB σ.out),Q'))∧(∀Q':IH,∃L,cal J okAll 18 #[] Q'=some (.ret (.bool true),L)):=by
 have ht:LAt H.next 1 (CellAt H 9 Value.string) (.slice (some ⟨sb,0,none⟩) ([a,b]:List ByteArray).length 2) [a,b]:=LAt.mk rfl hs fun i hi=>by
  match i,hi with
  |0,_=>exact CellAt.one gs rfl
  |1,_=>exact CellAt.one gs rfl
 obtain ⟨H1,u,e1,f1,v1⟩:=c_main1g (H:=H) (slots:=4) (texts:=[a,b]) (code:=txtCode i) (cs:=txtCells i x y) (ta:=some ⟨sb,0,none⟩) (tc:=2) (cb:=c) (cc:=10) (by omega) ht hc gc (by simp [txtCells,txtCode,insC,txC1,txC2]) (fun F b cs' hs hg'=>txt_ins hx gx hy gy F b cs' hs hg') (by simp [txtCode]) (by simp [txtCode])
 obtain ⟨H2,hH2⟩:∃H2,H2=H1.push (.cells [.bool true,.bool true,.bool true] 4 false):=⟨_,rfl⟩
 have f2:Fr H1.next H1 H2:=by rw [hH2];exact (Fr.refl _ _).push (Nat.le_refl _) _
 have n2:H2.next=H1.next+1:=by rw [hH2];simp
 have gb:H2.get H1.next=some (.cells [.bool true,.bool true,.bool true] 4 false):=by rw [hH2,IH.get_push_same]
 have hcl:LAt H2.next 1 (CellAt H2 4 Value.bool) (slV (some ⟨H1.next,0,none⟩,3,3)) [true,true,true]:=LAt.mk rfl (by omega) fun i hi=>by
  match i,hi with
  |0,_=>exact CellAt.one gb rfl
  |1,_=>exact CellAt.one gb rfl
  |2,_=>exact CellAt.one gb rfl
 obtain ⟨E,oa,on,oc,r1,fE,hon,hcv⟩:=run_im (R:=txtR (txtIm a b i)) (im:=txtIm a b i) (fun lo=>txtR_ok lo _) v1 (txt_sm a b i hi) f2 (cv:=(some ⟨H1.next,0,none⟩,3,3)) (cl:=[true,true,true]) hcl (f:=100) (h:=300) (st:=20) (by omega) (by omega) (by omega) hr
 obtain ⟨a1,c1,q1,_⟩:=id v1.types
 obtain ⟨a2,c2,q2,_⟩:=id v1.shapes
 obtain ⟨a3,c3,q3,_⟩:=id v1.strings
 obtain ⟨a4,c4,q4,_⟩:=id v1.names
 obtain ⟨a5,c5,q5,_⟩:=id v1.funcs
 obtain ⟨Q,hQ⟩:∃Q,Q=(E.push (.cells [.int .i64 0,.slice none 0 0,.string ⟨#[]⟩,.int .i64 0,.int .i64 0] 44 false)).set E.next (.cells [.int .i64 k,.slice oa on oc,.string σ.exn,.int .i64 (σ.steps:Int),.int .i64 (σ.swept:Int)] 44 false):=⟨_,rfl⟩
 have fQ:Fr E.next E Q:=by rw [hQ];exact ((Fr.refl _ _).push (Nat.le_refl _) _).set (Nat.le_refl _) _
 have nQ:Q.next=E.next+1:=by rw [hQ];simp
 simp only [ImV.val,ImV.cells,txtIm,q1,q2,q3,q4,q5,txtCode,List.length_cons,List.length_nil,Nat.zero_add,Nat.reduceAdd,slV,scrV] at e1 r1
 exact ⟨H1,H2,E,Q,a1,a2,a3,a4,a5,c1,c2,c3,c4,c5,_,_,_,_,_,oa,on,oc,e1,hH2,r1,hQ,by rw [hQ,IH.get_set,if_pos rfl],nQ,fun Q' f=>hcv Q' (fQ.trans (f.of_le (by omega))),fun Q'=>by obtain ⟨L,hl,_⟩:=c_lives (H:=Q');exact ⟨L,hl⟩⟩
end
section
variable {H:IH}
theorem c_VmTexts (a b:ByteArray) (i0:Int):∃H',cal J okAll 11 #[.string a,.string b,.int .i64 i0] H=some (.ret (.bool true),H'):=by
 rw [cal11 _ _ (by simp)]
 obtain ⟨L0,hl0,_⟩:=c_lives (H:=H)
 by_cases ha:300<a.size
 ·have z1:(300:Int)<(a.size:Int):=by omega
  simp [C11,regsOf,fin,iresult1,z1,hl0]
 have z1:¬(300:Int)<(a.size:Int):=by omega
 by_cases hb:300<b.size
 ·have z2:(300:Int)<(b.size:Int):=by omega
  simp [C11,regsOf,fin,iresult1,z1,z2,hl0]
 have z2:¬(300:Int)<(b.size:Int):=by omega
 clear hl0
 have cw:=c_Wrap H i0
 have hi:=wWrap_range i0
 generalize wWrap i0=i at*
 obtain ⟨B1,hB1⟩:∃B1,B1=H.push (.cells [.int .i64 0] 3 false):=⟨_,rfl⟩
 have nB1:B1.next=H.next+1:=by rw [hB1];simp
 obtain ⟨B2,hB2⟩:∃B2,B2=B1.push (.cells [.int .i64 0,.int .i64 1] 3 false):=⟨_,rfl⟩
 have nB2:B2.next=H.next+2:=by rw [hB2];simp [nB1]
 obtain ⟨B3,hB3⟩:∃B3,B3=B2.push (.cells (txtCells i H.next (H.next+1)) 30 false):=⟨_,rfl⟩
 have nB3:B3.next=H.next+3:=by rw [hB3];simp [nB2]
 obtain ⟨B4,hB4⟩:∃B4,B4=B3.push (.cells [.string a,.string b] 9 false):=⟨_,rfl⟩
 have nB4:B4.next=H.next+4:=by rw [hB4];simp [nB3]
 have gx:B4.get H.next=some (.cells [.int .i64 0] 3 false):=by rw [hB4,IH.get_push_other _ _ _ (by omega),hB3,IH.get_push_other _ _ _ (by omega),hB2,IH.get_push_other _ _ _ (by omega),hB1,IH.get_push_same]
 have gy:B4.get (H.next+1)=some (.cells [.int .i64 0,.int .i64 1] 3 false):=by rw [hB4,IH.get_push_other _ _ _ (by omega),hB3,IH.get_push_other _ _ _ (by omega),hB2,←nB1,IH.get_push_same]
 have gc:B4.get (H.next+2)=some (.cells (txtCells i H.next (H.next+1)) 30 false):=by rw [hB4,IH.get_push_other _ _ _ (by omega),hB3,←nB2,IH.get_push_same]
 have gs:B4.get (H.next+3)=some (.cells [.string a,.string b] 9 false):=by rw [hB4,←nB3,IH.get_push_same]
 unfold txtCells at hB3
 obtain ⟨p1,p2⟩:=txt_all (a:=a) (b:=b) (i:=i) (by omega) (by omega) hi
 have hcr:=cmp_range a b
 obtain ⟨cm,hcm⟩:∃cm,Extern.BytealgCompare.cmp a b=cm:=⟨_,rfl⟩
 rw [hcm] at p1 p2 hcr
 obtain ⟨cb,hcb⟩:∃cb:Nat,cb=(cm%256).toNat:=⟨_,rfl⟩
 obtain ⟨s8,hs8⟩:∃s8:Nat,s8=(a.size+b.size)%256:=⟨_,rfl⟩
 rw [←hcb,←hs8] at p1 p2
 have wl:IntKind.i64.wrap ((a.size:Int)+(b.size:Int))=(a.size:Int)+(b.size:Int):=by rw [wrapI];omega
 have w8:IntKind.u8.wrap ((a.size:Int)+(b.size:Int))=(s8:Int):=by
  have:IntKind.u8.wrap ((a.size:Int)+(b.size:Int))=((a.size:Int)+(b.size:Int))%256:=by unfold IntKind.wrap;simp [IntKind.bits,IntKind.signed]
  rw [this,hs8];omega
 have hcat:((((a.size+b.size:Nat):Int)>9223372036854775807))=False:=by simp only [eq_iff_iff,iff_false];omega
 have hcases:(cm= -1∧cb=255)∨(cm=0∧cb=0)∨(cm=1∧cb=1):=by
  have:cm= -1∨cm=0∨cm=1:=by omega
  rcases this with rfl|rfl|rfl
  ·exact .inl ⟨rfl,hcb⟩
  ·exact .inr (.inl ⟨rfl,hcb⟩)
  ·exact .inr (.inr ⟨rfl,hcb⟩)
 clear hcb
 by_cases hin:0≤i∧i<((a.size+b.size:Nat):Int)
 ·obtain ⟨σ,hr,hout,hswp⟩:=p1 hin
  obtain ⟨w,hw⟩:∃w,w=((bytesL a++bytesL b)[i.toNat]?).getD 0:=⟨_,rfl⟩
  rw [←hw] at hout
  obtain ⟨H1,H2,E,Q,a1,a2,a3,a4,a5,c1,c2,c3,c4,c5,m1,m2,m3,m4,m5,oa,on,oc,r1,hH2,r2,hQ,gQ,nQ,hcv,hl⟩:=run_txt hi (by omega) gx (by omega) gy (by omega) gc (by omega) gs hr
  rw [hswp] at r2 hQ gQ
  simp only [Int.cast_ofNat_Int] at r2 hQ gQ
  rw [hout] at hcv
  obtain ⟨Q1,hQ1⟩:∃Q1,Q1=Q.push (.cells [.int .u8 (cb:Int),.int .u8 (s8:Int)] 5 false):=⟨_,rfl⟩
  have nQ1:Q1.next=E.next+2:=by rw [hQ1];simp [nQ]
  obtain ⟨Q2,hQ2⟩:∃Q2,Q2=Q1.push (.cells [.int .u8 (w:Int)] 5 false):=⟨_,rfl⟩
  have nQ2:Q2.next=E.next+3:=by rw [hQ2];simp [nQ1]
  have g21:Q2.get (E.next+1)=some (.cells [.int .u8 (cb:Int),.int .u8 (s8:Int)] 5 false):=by rw [hQ2,IH.get_push_other _ _ _ (by omega),hQ1,←nQ,IH.get_push_same]
  have g22:Q2.get (E.next+2)=some (.cells [.int .u8 (w:Int)] 5 false):=by rw [hQ2,←nQ1,IH.get_push_same]
  have ap:=app_full st_byte (H:=Q2) (xb:=E.next+2) (o:=0) (m:=1) (c:=1) (b:=E.next+1) (len:=2) (cap:=2) (new:=[.int .u8 (w:Int)]) (by simp [g22]) (by simp) (by omega) (by omega) g21 (by simp) (by simp [plain1]) (by decide) (by omega)
  obtain ⟨Q3,hQ3⟩:∃Q3,Q3=Q2.push (.cells [.int .u8 (cb:Int),.int .u8 (s8:Int),.int .u8 (w:Int)] 5 false):=⟨_,rfl⟩
  have g3:Q3.get Q2.next=some (.cells ([cb,s8,w].map byteV) 5 false):=by rw [hQ3,IH.get_push_same];rfl
  have f1:Fr Q.next Q Q1:=by rw [hQ1];exact (Fr.refl _ _).push (Nat.le_refl _) _
  have f2:Fr Q.next Q Q2:=f1.trans (by rw [hQ2];exact (Fr.refl _ _).push (by omega) _)
  have f3:Fr Q.next Q Q3:=f2.trans (by rw [hQ3];exact (Fr.refl _ _).push (by omega) _)
  have k1:=(f1.2 E.next (by omega)).trans gQ
  have k2:=(f2.2 E.next (by omega)).trans gQ
  have k3:=(f3.2 E.next (by omega)).trans gQ
  have v1:=hcv Q1 f1
  have v2:=hcv Q2 f2
  have v3:=hcv Q3 f3
  have vw:=conv_lit' (n:=3) (c:=capU) g3 rfl
  obtain ⟨L3,hl3⟩:=hl Q3
  rw [nQ2] at vw ap
  have hw1:idxS (a++b) i=some (.int .u8 (w:Int)):=by
   have hlt:i.toNat<(a++b).size:=by rw [ByteArray.size_append];omega
   have e1:=idxS_nat (a++b) i.toNat hlt
   rw [show ((i.toNat:Nat):Int)=i by omega] at e1
   rw [e1,hw,←bytesL_append]
   unfold bytesL
   rw [List.getElem?_map,List.getElem?_eq_getElem (by rw [Array.length_toList];exact hlt)]
   rfl
  simp only [List.take_succ_cons,List.take_zero,Nat.mul_one,List.cons_append,List.nil_append,←hQ3] at ap
  have e1:¬i<0:=by omega
  have e2:¬(a.size:Int)+(b.size:Int)≤i:=by omega
  generalize outB [cb,s8,w]=W at*
  rcases hcases with ⟨rfl,rfl⟩|⟨rfl,rfl⟩|⟨rfl,rfl⟩
  ·(try simp only [Int.cast_ofNat_Int,Int.natCast_zero,Int.natCast_one] at hQ1 ap)
   simp (maxSteps:=1000000) [C11,regsOf,fin,iresult1,inew,Value.cells,z1,z2,cw,iparts,bi0,bsi1,←hB1,btc1,bt013,bt02,bti2,←hB2,btc2,bt012,bt015,bt0123,bts10,←hB3,nB1,nB2,btst,←hB4,nB3,nB4,r1,btbo,←hH2,btscr,r2,istore,plain1,overlay,IH.get_push,IH.get_set,←hQ,nQ,bin_slss,bin_sgtr,hcm,wl,w8,btb2,←hQ1,loadT_agg,e1,e2,k1,v1,bin_sadd (h:=hcat),hw1,nQ1,btb1,←hQ2,nQ2,k2,v2,ap,k3,v3,vw,hl3]
  ·(try simp only [Int.cast_ofNat_Int,Int.natCast_zero,Int.natCast_one] at hQ1 ap)
   simp (maxSteps:=1000000) [C11,regsOf,fin,iresult1,inew,Value.cells,z1,z2,cw,iparts,bi0,bsi1,←hB1,btc1,bt013,bt02,bti2,←hB2,btc2,bt012,bt015,bt0123,bts10,←hB3,nB1,nB2,btst,←hB4,nB3,nB4,r1,btbo,←hH2,btscr,r2,istore,plain1,overlay,IH.get_push,IH.get_set,←hQ,nQ,bin_slss,bin_sgtr,hcm,wl,w8,btb2,←hQ1,loadT_agg,e1,e2,k1,v1,bin_sadd (h:=hcat),hw1,nQ1,btb1,←hQ2,nQ2,k2,v2,ap,k3,v3,vw,hl3]
  ·(try simp only [Int.cast_ofNat_Int,Int.natCast_zero,Int.natCast_one] at hQ1 ap)
   simp (maxSteps:=1000000) [C11,regsOf,fin,iresult1,inew,Value.cells,z1,z2,cw,iparts,bi0,bsi1,←hB1,btc1,bt013,bt02,bti2,←hB2,btc2,bt012,bt015,bt0123,bts10,←hB3,nB1,nB2,btst,←hB4,nB3,nB4,r1,btbo,←hH2,btscr,r2,istore,plain1,overlay,IH.get_push,IH.get_set,←hQ,nQ,bin_slss,bin_sgtr,hcm,wl,w8,btb2,←hQ1,loadT_agg,e1,e2,k1,v1,bin_sadd (h:=hcat),hw1,nQ1,btb1,←hQ2,nQ2,k2,v2,ap,k3,v3,vw,hl3]
 ·obtain ⟨σ,hr,hex,hout⟩:=p2 (by omega)
  obtain ⟨H1,H2,E,Q,a1,a2,a3,a4,a5,c1,c2,c3,c4,c5,m1,m2,m3,m4,m5,oa,on,oc,r1,hH2,r2,hQ,gQ,nQ,hcv,hl⟩:=run_txt hi (by omega) gx (by omega) gy (by omega) gc (by omega) gs hr
  rw [hex] at r2 hQ gQ
  rw [hout] at hcv
  simp only [nSub] at r2 hQ gQ
  obtain ⟨Q1,hQ1⟩:∃Q1,Q1=Q.push (.cells [.int .u8 (cb:Int),.int .u8 (s8:Int)] 5 false):=⟨_,rfl⟩
  have g1:Q1.get (E.next+1)=some (.cells ([cb,s8].map byteV) 5 false):=by rw [hQ1,←nQ,IH.get_push_same];rfl
  have f1:Fr Q.next Q Q1:=by rw [hQ1];exact (Fr.refl _ _).push (Nat.le_refl _) _
  have k1:=(f1.2 E.next (by omega)).trans gQ
  have v1:=hcv Q1 f1
  have vw:=conv_lit' (n:=2) (c:=2) g1 rfl
  obtain ⟨L3,hl3⟩:=hl Q1
  generalize outB [cb,s8]=W at*
  by_cases e1:i<0
  ·rcases hcases with ⟨rfl,rfl⟩|⟨rfl,rfl⟩|⟨rfl,rfl⟩
   ·simp only [Int.cast_ofNat_Int,Int.natCast_zero,Int.natCast_one] at hQ1
    simp (maxSteps:=1000000) [C11,regsOf,fin,iresult1,inew,Value.cells,z1,z2,cw,iparts,bi0,bsi1,←hB1,btc1,bt013,bt02,bti2,←hB2,btc2,bt012,bt015,bt0123,bts10,←hB3,nB1,nB2,btst,←hB4,nB3,nB4,r1,btbo,←hH2,btscr,r2,istore,plain1,overlay,IH.get_push,IH.get_set,←hQ,nQ,bin_slss,bin_sgtr,hcm,wl,w8,btb2,←hQ1,loadT_agg,e1,k1,v1,vw,hl3]
   ·simp only [Int.cast_ofNat_Int,Int.natCast_zero,Int.natCast_one] at hQ1
    simp (maxSteps:=1000000) [C11,regsOf,fin,iresult1,inew,Value.cells,z1,z2,cw,iparts,bi0,bsi1,←hB1,btc1,bt013,bt02,bti2,←hB2,btc2,bt012,bt015,bt0123,bts10,←hB3,nB1,nB2,btst,←hB4,nB3,nB4,r1,btbo,←hH2,btscr,r2,istore,plain1,overlay,IH.get_push,IH.get_set,←hQ,nQ,bin_slss,bin_sgtr,hcm,wl,w8,btb2,←hQ1,loadT_agg,e1,k1,v1,vw,hl3]
   ·simp only [Int.cast_ofNat_Int,Int.natCast_zero,Int.natCast_one] at hQ1
    simp (maxSteps:=1000000) [C11,regsOf,fin,iresult1,inew,Value.cells,z1,z2,cw,iparts,bi0,bsi1,←hB1,btc1,bt013,bt02,bti2,←hB2,btc2,bt012,bt015,bt0123,bts10,←hB3,nB1,nB2,btst,←hB4,nB3,nB4,r1,btbo,←hH2,btscr,r2,istore,plain1,overlay,IH.get_push,IH.get_set,←hQ,nQ,bin_slss,bin_sgtr,hcm,wl,w8,btb2,←hQ1,loadT_agg,e1,k1,v1,vw,hl3]
  ·have e2:(a.size:Int)+(b.size:Int)≤i:=by omega
   rcases hcases with ⟨rfl,rfl⟩|⟨rfl,rfl⟩|⟨rfl,rfl⟩
   ·simp only [Int.cast_ofNat_Int,Int.natCast_zero,Int.natCast_one] at hQ1
    simp (maxSteps:=1000000) [C11,regsOf,fin,iresult1,inew,Value.cells,z1,z2,cw,iparts,bi0,bsi1,←hB1,btc1,bt013,bt02,bti2,←hB2,btc2,bt012,bt015,bt0123,bts10,←hB3,nB1,nB2,btst,←hB4,nB3,nB4,r1,btbo,←hH2,btscr,r2,istore,plain1,overlay,IH.get_push,IH.get_set,←hQ,nQ,bin_slss,bin_sgtr,hcm,wl,w8,btb2,←hQ1,loadT_agg,e1,e2,k1,v1,vw,hl3]
   ·simp only [Int.cast_ofNat_Int,Int.natCast_zero,Int.natCast_one] at hQ1
    simp (maxSteps:=1000000) [C11,regsOf,fin,iresult1,inew,Value.cells,z1,z2,cw,iparts,bi0,bsi1,←hB1,btc1,bt013,bt02,bti2,←hB2,btc2,bt012,bt015,bt0123,bts10,←hB3,nB1,nB2,btst,←hB4,nB3,nB4,r1,btbo,←hH2,btscr,r2,istore,plain1,overlay,IH.get_push,IH.get_set,←hQ,nQ,bin_slss,bin_sgtr,hcm,wl,w8,btb2,←hQ1,loadT_agg,e1,e2,k1,v1,vw,hl3]
   ·simp only [Int.cast_ofNat_Int,Int.natCast_zero,Int.natCast_one] at hQ1
    simp (maxSteps:=1000000) [C11,regsOf,fin,iresult1,inew,Value.cells,z1,z2,cw,iparts,bi0,bsi1,←hB1,btc1,bt013,bt02,bti2,←hB2,btc2,bt012,bt015,bt0123,bts10,←hB3,nB1,nB2,btst,←hB4,nB3,nB4,r1,btbo,←hH2,btscr,r2,istore,plain1,overlay,IH.get_push,IH.get_set,←hQ,nQ,bin_slss,bin_sgtr,hcm,wl,w8,btb2,←hQ1,loadT_agg,e1,e2,k1,v1,vw,hl3]
end
end Go.Proofs.YtchlbfmjnhgpgaaGreat.Idl
namespace Go.Proofs.YtchlbfmjnhgpgaaGreat
open Go.ChangeShapes Go.WideShapes Go.ChangeAt Go.RowKit
set_option maxRecDepth 100000
theorem own:ownKnob Tryz.prog.godebug=.none:=by kernel_rfl
theorem und4:Tryz.prog.underlying 4=some .bool:=by kernel_rfl
theorem laidOut:laidOutB Tryz.prog=true:=by kernel_rfl
namespace Idl
noncomputable def Hst:IH:=⟨Tryz.prog.globals.size,.leaf⟩
theorem start (W:World):Sim J (Bd.at W.heap.size) (fun b=>⟨b,0,0,0⟩) Hst W:=by
 have hg:∀b,Hst.get b=none:=fun b=>rfl
 refine ⟨⟨Nat.le_refl _,fun x hx=>by cases hx⟩,fun g h=>⟨h,rfl,rfl⟩,fun b x h=>?_,fun b cs e pr h=>?_,fun b cs e h=>?_,fun b es pr h=>?_,fun b s p h=>?_,fun _ _=>trivial,fun b b' x x' h=>?_,fun b x h=>?_⟩<;>(rw [hg] at h;cases h)
theorem keptBut_of_below {w w':World} (h:Go.RowKit.Below w.heap.size w w') (may:MemPlace→Prop):w.keptBut w' may:=by
 have hr:=World.keptBut_refl w may
 refine ⟨h.os,h.output,fun i hi=>?_⟩
 rw [h.block i hi]
 exact hr.2.2 i hi
end Idl
end Go.Proofs.YtchlbfmjnhgpgaaGreat
namespace Go.Proofs.YtchlbfmjnhgpgaaGreat
open Go.ChangeShapes Go.WideShapes Go.ChangeAt Go.RowKit
set_option maxRecDepth 100000
theorem func11 : Tryz.prog.funcs[11]? = some Tryz.f11 := by kernel_rfl
theorem params11 : Tryz.f11.params = #[9, 9, 2] := by kernel_rfl
theorem readable11 : ([9, 9, 2].all fun t => Tryz.prog.readableRec t && decide (t < Tryz.prog.types.size)) = true := by kernel_rfl
namespace Idl
theorem law11 {K : Type} (H : IH) (vs : List Value) (ds : List (DataW K)) (h : DatAll J H [9, 9, 2] vs ds) : ∃ H', cal J okAll 11 vs.toArray H = some (.ret (.bool true), H') := by
  obtain ⟨v0,d0,v1,d1,v2,d2,rfl,rfl,h0,h1,h2⟩ := h.three
  obtain ⟨a, rfl, -, -⟩ := h0.string (by simp)
  obtain ⟨b, rfl, -, -⟩ := h1.string (by simp)
  obtain ⟨i, rfl, -, -⟩ := h2.int (k := .i64) (by simp)
  exact c_VmTexts a b i
end Idl
theorem lifted11 (os : Os) (started : os.Started) (H : Type) (enc : TypeId × Value → H) :
    ReturnsInHanded {} Tryz.checked os 11 .any (Rows.vmTextsSpec.pre6 enc Tryz.prog Tryz.f11 [] false) (Rows.vmTextsSpec.post enc Tryz.prog Tryz.f11 false true false false) := by
  refine returnsInHanded_of_change (C := Tryz.checked) own started (by kernel_rfl) func11
    (ChangeSpec.witness6 (enc := enc) (C := Tryz.checked) false ⟨#[], #[.string ⟨#[]⟩, .string ⟨#[]⟩, .int .i64 0], []⟩ 8 (by kernel_rfl) (by kernel_rfl) (by kernel_rfl) (by kernel_rfl)) ?_
  intro W base args ds gs before hval0 hW hcnd _
  have hval : ∀ (j : Nat) t v, Tryz.f11.params[j]? = some t → args[j]? = some v → Value.okWide Tryz.prog W .any base t v := hval0
  have hW' := hW
  have hlt := hW.lt
  obtain ⟨p, q, hA0, hV, rfl, _, _⟩ := hW
  have hA : DataW.TrodAll enc Tryz.prog W 0 (fun _ => true) true Tryz.f11.params.toList args.toList ds p := hA0
  rw [params11] at hA hval
  obtain ⟨d0, d1, d2, rfl⟩ := Idl.trod_ds3 hA
  obtain ⟨rfl, rfl⟩ := trodVars_none hV
  rw [List.append_nil] at hlt
  simp only [List.append_nil] at hW'
  refine (Idl.law_gen (J := Idl.J) Idl.sound (Idl.start W) (k := 12) (ts := [9, 9, 2]) (by kernel_rfl) (r := .any) (base := base) (args := args) (fun j t v h1 h2 => hval j t v (by simpa using h1) (by simpa using h2)) hA fun H vs hk hd => Idl.law11 H vs _ hd).mono fun e W' ⟨he, hB⟩ => ?_
  subst he
  refine ⟨_, rfl, _, _, _, [], p, [], hW', ?_, ?_, ?_, Idl.keptBut_of_below hB _, fun h => by cases h⟩
  · exact trodAll_mk1 (shut_bool und4 true)
  · refine Idl.stay_args laidOut hB (fun t ht => ?_) hA0 hlt
    rw [params11] at ht
    have := List.all_eq_true.1 readable11 t (by simpa using ht)
    simpa using this
  · rfl
theorem vmTexts_holds : Rows.VmTextsSaid :=
  OpenClaim.holds_of_wide 11 Tryz.f11 rfl rfl rfl rfl rfl rfl rfl ⟨rfl, rfl, rfl, rfl, rfl⟩ rfl rfl rfl rfl rfl (by kernel_rfl) func11 (by kernel_rfl)
    (of_decide_eq_true (by kernel_rfl)) (by unfold Func.isWrapper; first | (rw [if_pos (by decide +kernel)]; kernel_rfl) | (rw [if_neg (by decide +kernel)]; exact ⟨rfl, rfl⟩))
    (fun os started H enc _ => lifted11 os started H enc)
#print axioms vmTexts_holds
end Go.Proofs.YtchlbfmjnhgpgaaGreat
