/- The ideal machine: a computable, deterministic reading of the loaded program over a heap of its own, in which no order is drawn and no capacity is guessed. Here: its memory. -/
import Derived.Calls
import Derived.Below
import Derived.Orders
import Derived.KernelRfl
import Derived.WalkKit
import Derived.Laws.Sem
import Derived.Laws.BytesString
import Derived.Tactics
namespace Go.Proofs.YtchlbfmjnhgpgaaGreat.Idl
open Go
/-! ### A trie -/
inductive Tr (α:Type) where
 |leaf
 |node (v:Option α) (l r:Tr α)
namespace Tr
variable {α:Type}
def get:Tr α→Nat→Option α
 | .leaf,_=>none
 | .node v l r,n=>if n=0 then v else if n%2=1 then l.get (n / 2) else r.get ((n-1) / 2)
def setF (x:α):Nat→Tr α→Nat→Tr α
 |0,t,_=>t
 |k+1,.leaf,n=>
  if n=0 then .node (some x) .leaf .leaf
  else if n%2=1 then .node none (setF x k .leaf (n / 2)) .leaf else .node none .leaf (setF x k .leaf ((n-1) / 2))
 |k+1,.node v l r,n=>
  if n=0 then .node (some x) l r
  else if n%2=1 then .node v (setF x k l (n / 2)) r else .node v l (setF x k r ((n-1) / 2))
def set (t:Tr α) (n:Nat) (x:α):Tr α:=setF x (n+1) t n
theorem get_setF (x:α):∀(k:Nat) (t:Tr α) (n m:Nat),n<k→(setF x k t n).get m=if m=n then some x else t.get m:=by
 intro k
 induction k with
 |zero=>intro t n m h;omega
 |succ k ih=>
  intro t n m h
  cases t with
  |leaf=>
   simp only [setF]
   by_cases h0:n=0
   ·subst h0
    simp only [if_true,get]
    by_cases hm:m=0
    ·simp [hm]
    ·simp [hm]
   ·rw [if_neg h0]
    by_cases h1:n%2=1
    ·rw [if_pos h1]
     simp only [get]
     by_cases hm:m=0
     ·subst hm;rw [if_pos rfl,if_neg (by omega)]
     ·rw [if_neg hm]
      by_cases hm1:m%2=1
      ·rw [if_pos hm1,ih _ _ _ (by omega)]
       by_cases e:m=n
       ·subst e;simp
       ·rw [if_neg (by omega),if_neg e];rfl
      ·rw [if_neg hm1,if_neg (by omega)]
    ·rw [if_neg h1]
     simp only [get]
     by_cases hm:m=0
     ·subst hm;rw [if_pos rfl,if_neg (by omega)]
     ·rw [if_neg hm]
      by_cases hm1:m%2=1
      ·rw [if_pos hm1,if_neg (by omega)]
      ·rw [if_neg hm1,ih _ _ _ (by omega)]
       by_cases e:m=n
       ·subst e;simp
       ·rw [if_neg (by omega),if_neg e];rfl
  |node v l r=>
   simp only [setF]
   by_cases h0:n=0
   ·subst h0
    simp only [if_true,get]
    by_cases hm:m=0
    ·simp [hm]
    ·simp [hm]
   ·rw [if_neg h0]
    by_cases h1:n%2=1
    ·rw [if_pos h1]
     simp only [get]
     by_cases hm:m=0
     ·subst hm;rw [if_pos rfl,if_neg (by omega),if_pos rfl]
     ·rw [if_neg hm,if_neg hm]
      by_cases hm1:m%2=1
      ·rw [if_pos hm1,if_pos hm1,ih _ _ _ (by omega)]
       by_cases e:m=n
       ·subst e;simp
       ·rw [if_neg (by omega),if_neg e]
      ·rw [if_neg hm1,if_neg hm1,if_neg (by omega)]
    ·rw [if_neg h1]
     simp only [get]
     by_cases hm:m=0
     ·subst hm;rw [if_pos rfl,if_neg (by omega),if_pos rfl]
     ·rw [if_neg hm,if_neg hm]
      by_cases hm1:m%2=1
      ·rw [if_pos hm1,if_pos hm1,if_neg (by omega)]
      ·rw [if_neg hm1,if_neg hm1,ih _ _ _ (by omega)]
       by_cases e:m=n
       ·subst e;simp
       ·rw [if_neg (by omega),if_neg e]
theorem get_set (t:Tr α) (n m:Nat) (x:α):(t.set n x).get m=if m=n then some x else t.get m:=get_setF x _ t n m (by omega)
end Tr
/-! ### Blocks, the heap -/
inductive Blk where
 |cells (cs:List Value) (e:TypeId) (pr:Bool)
 |map (es:List (Value×Value)) (pr:Bool)
 |iter (s:ByteArray) (pos:Nat)
 |dead
structure IH where
 next:Nat
 t:Tr Blk
namespace IH
def get (H:IH) (b:Nat):Option Blk:=H.t.get b
def set (H:IH) (b:Nat) (x:Blk):IH:={ H with t:=H.t.set b x }
def push (H:IH) (x:Blk):IH:={ next:=H.next+1,t:=H.t.set H.next x }
theorem get_set (H:IH) (b c:Nat) (x:Blk):(H.set b x).get c=if c=b then some x else H.get c:=Tr.get_set _ _ _ _
theorem get_push (H:IH) (c:Nat) (x:Blk):(H.push x).get c=if c=H.next then some x else H.get c:=Tr.get_set _ _ _ _
@[simp] theorem next_set (H:IH) (b:Nat) (x:Blk):(H.set b x).next=H.next:=rfl
@[simp] theorem next_push (H:IH) (x:Blk):(H.push x).next=H.next+1:=rfl
end IH
/-! ### Values that hold no address -/
def flatN:Nat→Value→Bool
 |_,.bool _|_,.int _ _|_,.float _ _|_,.complex _ _ _|_,.string _|_,.pointer none|_,.slice none 0 0|_,.map none|_,.nilFunc|_,.nilIface=>true
 |n+1,.func _ first captured=>first.all (flatN n)&&captured.all (flatN n)
 |n+1,.iface _ v=>flatN n v
 |n+1,.agg cs=>cs.all (flatN n)
 |n+1,.tuple cs=>cs.all (flatN n)
 |_,_=>false
def flat (v:Value):Bool:=flatN 4 v
/-! ### Operations that touch no memory -/
def pureRun {α:Type} (P:Program):Sem α→Option α
 | .pure a=>some a
 | .program k=>pureRun P (k P)
 | .mark _ k=>pureRun P k
 |_=>none
theorem pureRun_run {α:Type} {P:Program} {s:Sem α} {a:α} (h:pureRun P s=some a) (w:World):s.run P w=.ok a w:=by
 induction s with
 |pure b=>simp only [pureRun,Option.some.injEq] at h;subst h;rfl
 |program k ih=>exact ih P h
 |mark m k ih=>exact ih h
 |_=>simp [pureRun] at h
/-! ### The program's tables, at hand -/
structure TyI where
 und:TypeDesc
 size:Nat
 bytes:Nat
 zero:Option Value
structure Env where
 P:Program
 ty:Nat→Option TyI
 ty_ok:∀t i,ty t=some i→P.underlying t=some i.und∧∃inf,P.info? t=some inf∧inf.size=i.size∧inf.bytes=i.bytes∧∀z,i.zero=some z→inf.zero=some z∧flat z=true
 fn:FuncId→Option Func
 fn_ok:∀f x,fn f=some x→P.funcs[f]?=some x∧(x.name== "runtime.NumGoroutine")=false
 dfr:FuncId→Bool
 ident:FuncId→Bool
 ident_ok:∀f,ident f=true→∃fn,P.funcs[f]?=some fn∧(fn.name== "runtime.NumGoroutine")=false∧fn.body.isNone=true∧Extern.findNext fn=none∧Extern.find fn=some Extern.AbiNoEscape.same
 inv:World→Prop
 hook:FuncId→List Value→Option Value
 hook_ok:∀f vs v,hook f vs=some v→flat v=true∧vs.all flat=true∧∀w,inv w→Calls P f vs.toArray w fun e w'=>e=.returned v∧Go.RowKit.Below w.heap.size w w'
def Env.keep (J:Env) (B:Nat) (w:World):Prop:=∀w':World,(∀k,k<B→w'.heap[k]?=w.heap[k]?)→J.inv w'
theorem Env.keep_inv {J:Env} {B:Nat} {w:World} (h:J.keep B w):J.inv w:=h w fun _ _=>rfl
theorem Env.keep_on {J:Env} {B:Nat} {w w':World} (h:J.keep B w) (e:∀k,k<B→w'.heap[k]?=w.heap[k]?):J.keep B w':=fun w2 h2=>h w2 fun k hk=>(h2 k hk).trans (e k hk)
namespace Env
variable (J:Env)
def und (t:TypeId):Option TypeDesc:=match J.ty t with|some i=>some i.und|none=>none
def size (t:TypeId):Option Nat:=match J.ty t with|some i=>some i.size|none=>none
def bytes (t:TypeId):Option Nat:=match J.ty t with|some i=>some i.bytes|none=>none
def zero (t:TypeId):Option Value:=match J.ty t with|some i=>i.zero|none=>none
theorem und_ok {J:Env} {t:TypeId} {d:TypeDesc} (h:J.und t=some d):J.P.underlying t=some d:=by
 unfold und at h
 split at h
 ·rename_i i hi;cases h;exact (J.ty_ok t i hi).1
 ·simp at h
theorem size_ok {J:Env} {t:TypeId} {n:Nat} (h:J.size t=some n):∃i,J.P.info? t=some i∧i.size=n:=by
 unfold size at h
 split at h
 ·rename_i i hi;cases h;obtain ⟨_,inf,h1,h2,_⟩:=J.ty_ok t i hi;exact ⟨inf,h1,h2⟩
 ·simp at h
theorem bytes_ok {J:Env} {t:TypeId} {n:Nat} (h:J.bytes t=some n):∃i,J.P.info? t=some i∧i.bytes=n:=by
 unfold bytes at h
 split at h
 ·rename_i i hi;cases h;obtain ⟨_,inf,h1,_,h3,_⟩:=J.ty_ok t i hi;exact ⟨inf,h1,h3⟩
 ·simp at h
theorem zero_ok {J:Env} {t:TypeId} {z:Value} (h:J.zero t=some z):(∃i,J.P.info? t=some i∧i.zero=some z)∧flat z=true:=by
 unfold zero at h
 split at h
 ·rename_i i hi;obtain ⟨_,inf,h1,_,_,h4⟩:=J.ty_ok t i hi;obtain ⟨h5,h6⟩:=h4 z h;exact ⟨⟨inf,h1,h5⟩,h6⟩
 ·simp at h
theorem size_some {J:Env} {t:TypeId} {z:Value} (h:J.zero t=some z):∃n,J.size t=some n:=by
 unfold zero at h
 unfold size
 split at h
 ·exact ⟨_,rfl⟩
 ·simp at h
end Env
def capU:Nat:=2^64
abbrev Regs:=Tr Value
def Regs.at (T:Regs) (t:Nat):Value:=(Tr.get T t).getD undef
def iev (T:Regs):Operand→Value
 | .tmp t=>T.at t
 | .const v=>v
 | .global g=>.pointer (some ⟨g,0,none⟩)
 | .func f=>.func (.func f) #[] #[]
inductive OR where
 |val (v:Value) (H:IH)
 |pan (v:Value) (H:IH)
 |enter (f:FuncId) (args:Array Value) (H:IH)
def isAggT (J:Env) (t:TypeId):Option Bool:=
 match J.und t with
 |some (.struct _)|some (.array _ _)=>some true
 |some _=>some false
 |none=>none
def icells (H:IH) (a:Addr) (n:Nat):Option (List Value):=
 match H.get a.block with
 |some (.cells cs _ _)=>if a.spot=none∧a.off+n≤cs.length then some ((cs.drop a.off).take n) else none
 |_=>none
def icell (H:IH) (a:Addr):Option Value:=
 match H.get a.block with
 |some (.cells cs _ _)=>if a.spot=none then cs[a.off]? else none
 |_=>none
def plain1:Value→Bool
 | .agg _| .tuple _=>false
 |_=>true
def overlay (cs:List Value) (off:Nat) (vs:List Value):List Value:=cs.take off++vs++cs.drop (off+vs.length)
def iput (H:IH) (a:Addr) (vs:List Value):Option IH:=
 match H.get a.block with
 |some (.cells cs e false)=>if a.spot=none∧a.off+vs.length≤cs.length∧vs≠[]∧vs.all plain1 then some (H.set a.block (.cells (overlay cs a.off vs) e false)) else none
 |_=>none
def iload (J:Env) (t:TypeId) (a:Addr) (H:IH):Option Value:=
 match isAggT J t with
 |some true=>match J.size t with
  |some n=>(icells H a n).map fun cs=>.agg cs.toArray
  |none=>none
 |some false=>icell H a
 |none=>none
def istore (J:Env) (t:TypeId) (a:Addr) (v:Value) (H:IH):Option IH:=
 if J.size t=some v.cells.size then iput H a v.cells.toList else none
def inew (H:IH) (e:TypeId) (cs:List Value):Value×IH:=(.pointer (some ⟨H.next,0,none⟩),H.push (.cells cs e false))
def ifieldAddr (J:Env) (s:TypeId) (x:Value) (i:Nat):Option Value:=
 match J.und s,x with
 |some (.struct fs),.pointer (some a)=>match fs[i]? with
  |some f=>match J.size f.type with
   |some (_+1)=>some (.pointer (some (a.add f.offset)))
   |_=>none
  |none=>none
 |_,_=>none
def ipart (J:Env) (t:TypeId) (cs:Array Value) (off:Nat):Option Value:=
 match isAggT J t with
 |some true=>(J.size t).map fun n=>.agg (cs.extract off (off+n))
 |some false=>cs[off]?
 |none=>none
def ifield (J:Env) (s:TypeId) (x:Value) (i:Nat):Option Value:=
 match J.und s,x with
 |some (.struct fs),.agg cs=>match fs[i]? with
  |some f=>ipart J f.type cs f.offset
  |none=>none
 |_,_=>none
def iindexAddr (J:Env) (t:TypeId) (x ix:Value):Option Value:=
 match ix with
 | .int _ i=>match J.und t,x with
  |some (.slice e),.slice (some a) len _=>if 0≤i∧i<len then (J.size e).map fun n=>.pointer (some (a.add (i.toNat*n))) else none
  |some (.array len e),.pointer (some a)=>if 0≤i∧i<len then (J.size e).map fun n=>.pointer (some (a.add (i.toNat*n))) else none
  |_,_=>none
 |_=>none
def iindex (J:Env) (t:TypeId) (x ix:Value):Option Value:=
 match ix with
 | .int _ i=>match J.und t,x with
  |some (.array len e),.agg cs=>if 0≤i∧i<len then (J.size e).bind fun n=>ipart J e cs (i.toNat*n) else none
  |some .string,.string s=>if 0≤i then (s[i.toNat]?).map fun b=>.int .u8 b.toNat else none
  |_,_=>none
 |_=>none
def ibound (x:Option Value) (d:Nat):Option Nat:=
 match x with
 |none=>some d
 |some (.int _ i)=>if 0≤i then some i.toNat else none
 |_=>none
def islice (J:Env) (t:TypeId) (x:Value) (lo hi mx:Option Value) (H:IH):Option Value:=
 match J.und t,x with
 |some .string,.string s=>match ibound lo 0,ibound hi s.size,mx with
  |some l,some h,none=>if l≤h∧h≤s.size then some (.string (s.extract l h)) else none
  |_,_,_=>none
 |some (.slice e),.slice none 0 0=>match ibound lo 0,ibound hi 0,ibound mx 0,J.size e with
  |some 0,some 0,some 0,some _=>if (mx.isNone||hi.isSome)=true then some (.slice none 0 0) else none
  |_,_,_,_=>none
 |some (.slice e),.slice (some a) len cap=>match ibound lo 0,ibound hi len,ibound mx cap,J.size e with
  |some l,some h,some m,some n=>
   match H.get a.block with
   |some (.cells _ e' _)=>
    if e'=e∧l≤h∧h≤m∧m≤cap∧(mx.isNone||hi.isSome)=true∧(h≤len∨cap≠capU)∧(m≤len∨mx.isNone=true∨cap≠capU) then
     some (.slice (some (a.add (l*n))) (h-l) (if m=capU then capU else m-l))
    else none
   |_=>none
  |_,_,_,_=>none
 |_,_=>none
def iparts (T:Regs) (ps:Array (Nat×Operand)):List (Nat×Value):=ps.toList.map fun p=>(p.1,iev T p.2)
def ibuild (J:Env) (t:TypeId) (ps:List (Nat×Value)):Option Value:=
 match J.zero t,J.und t with
 |some z,some (.struct fs)=>match (fs.mapM fun f=>(J.size f.type).map fun n=>(f.offset,n):Option (Array (Nat×Nat))) with
  |some pl=>(Instr.fill (pl[·]?) z.cells ps).map .agg
  |none=>none
 |some z,some (.array _ e)=>match J.size e with
  |some n=>(Instr.fill (fun i=>some (i*n,n)) z.cells ps).map .agg
  |none=>none
 |_,_=>none
def ibuildSlice (J:Env) (t:TypeId) (len:Nat) (ps:List (Nat×Value)) (H:IH):Option (Value×IH):=
 match J.und t with
 |some (.slice e)=>match J.size e,J.zero e with
  |some n,some z=>if len*n≤2^24 then
    match Instr.fill (fun i=>some (i*n,n)) ((Array.range (len*n)).map (z.cells[· %z.cells.size]!)) ps with
    |some cs=>if cs.size=len*n then some (.slice (some ⟨H.next,0,none⟩) len len,H.push (.cells cs.toList e false)) else none
    |none=>none
   else none
  |_,_=>none
 |_=>none
def imakeSlice (J:Env) (t:TypeId) (l c:Value) (H:IH):Option (Value×IH):=
 match J.und t,l,c with
 |some (.slice e),.int _ l,.int _ c=>match J.size e,J.zero e,J.bytes e with
  |some n,some z,some by_=>if 0≤l∧l≤c∧c<2^63∧by_*c≤2^48 then
    some (.slice (some ⟨H.next,0,none⟩) l.toNat c.toNat,H.push (.cells ((List.range (c.toNat*n)).map (z.cells[· %z.cells.size]!)) e false))
   else none
  |_,_,_=>none
 |_,_,_=>none
def bytesCells (s:ByteArray):List Value:=s.data.toList.map fun b=>.int .u8 b.toNat
def ifirst (H:IH) (size n:Nat):Value→Option (List Value)
 | .slice (some a) _ _=>icells H a (n*size)
 | .slice none _ _=>some []
 | .string s=>some ((bytesCells s).take n)
 |_=>none
def ilenOf:Value→Option Nat
 | .slice _ n _=>some n
 | .string s=>some s.size
 |_=>none
def iappend (J:Env) (at_:Array TypeId) (s x:Value) (H:IH):Option (Value×IH):=
 match at_[0]?,at_[1]? with
 |some st,some xt=>match J.und st,J.und xt with
  |some (.slice _),some (.int _)=>none
  |some (.slice e),some _=>match J.size e,J.bytes e,J.zero e,s,ilenOf x with
   |some size,some by_,some z,.slice base len cap,some n=>
    if n=0 then some (s,H)
    else if (len+n)*(3*by_)≤2^47∧0<by_∧by_≤2^30∧z.cells.size=size then
     match ifirst H size n x with
     |some new=>match base with
      |none=>if len=0∧cap=0∧new.length=n*size then some (.slice (some ⟨H.next,0,none⟩) n capU,H.push (.cells new e false)) else none
      |some a=>match H.get a.block with
       |some (.cells cs e' pr)=>
        if a.spot=none∧a.off+len*size≤cs.length∧e'=e∧new.all plain1∧new.length=n*size then
         if cap=capU then
          if pr||a.off%size !=0 then none
          else some (.slice (some ⟨H.next,0,none⟩) (len+n) capU,(H.set a.block .dead).push (.cells ((cs.drop a.off).take (len*size)++new) e false))
         else if len+n≤cap then
          (iput H (a.add (len*size)) new).map fun H'=>(.slice (some a) (len+n) cap,H')
         else some (.slice (some ⟨H.next,0,none⟩) (len+n) capU,H.push (.cells ((cs.drop a.off).take (len*size)++new) e false))
        else none
       |_=>none
     |none=>none
    else none
   |_,_,_,_,_=>none
  |_,_=>none
 |_,_=>none
def icopy (J:Env) (at_:Array TypeId) (d x:Value) (H:IH):Option (Value×IH):=
 match at_[0]? with
 |some dt=>match J.und dt with
  |some (.slice e)=>match J.size e,d,ilenOf x with
   |some size,.slice base len _,some m=>
    match ifirst H size (Nat.min m len) x with
    |some cs=>match base with
     |none=>some (.int .i64 (Nat.min m len),H)
     |some a=>if Nat.min m len=0 then some (.int .i64 0,H) else (iput H a cs).map fun H'=>(.int .i64 (Nat.min m len),H')
    |none=>none
   |_,_,_=>none
  |_=>none
 |none=>none
def iclear (J:Env) (at_:Array TypeId) (x:Value) (H:IH):Option (Value×IH):=
 match at_[0]? with
 |some st=>match J.und st,x with
  |some (.slice _),.slice none _ _=>some (.tuple #[],H)
  |some (.slice e),.slice (some a) n _=>
   if n=0 then some (.tuple #[],H) else match J.zero e with
    |some z=>if z.cells.size=1 then (iput H a (List.replicate n (z.cells.getD 0 undef))).map fun H'=>(.tuple #[],H') else none
    |none=>none
  |_,_=>none
 |none=>none
def ifind (d:TypeDesc) (k:Value):List (Value×Value)→Nat→Option (Option (Nat×Value))
 | [],_=>some none
 |e::es,i=>match Instr.sameNow d k e.1 with
  |some true=>some (some (i,e.2))
  |some false=>ifind d k es (i+1)
  |none=>none
def keyT (J:Env) (t:TypeId):Option TypeDesc:=
 match J.und t with
 |some (.int k)=>some (.int k)
 |some .string=>some .string
 |some .bool=>some .bool
 |_=>none
def imapEs (x:Value) (H:IH):Option (List (Value×Value)):=
 match x with
 | .map none=>some []
 | .map (some r)=>match H.get r with
  |some (.map es _)=>some es
  |_=>none
 |_=>none
def ilookup (J:Env) (t:TypeId) (x k:Value) (ok:Bool) (H:IH):Option Value:=
 match J.und t with
 |some (.map kt et)=>match keyT J kt,imapEs x H with
  |some d,some es=>match ifind d k es 0 with
   |some (some (_,v))=>some (if ok then .tuple #[v,.bool true] else v)
   |some none=>(J.zero et).map fun z=>if ok then .tuple #[z,.bool false] else z
   |none=>none
  |_,_=>none
 |_=>none
def imapUpdate (J:Env) (t:TypeId) (m k v:Value) (H:IH):Option IH:=
 match J.und t,m with
 |some (.map kt _),.map (some r)=>match keyT J kt,H.get r with
  |some d,some (.map es false)=>match ifind d k es 0 with
   |some (some (i,_))=>some (H.set r (.map (es.modify i fun _=>(k,v)) false))
   |some none=>if flat k then some (H.set r (.map (es++[(k,v)]) false)) else none
   |none=>none
  |_,_=>none
 |_,_=>none
def bytesOfCells:List Value→Option (List UInt8)
 | []=>some []
 | .int .u8 n::r=>(bytesOfCells r).map (UInt8.ofNat n.toNat:: ·)
 |_=>none
def iconvert (J:Env) (src dst:TypeId) (x:Value) (H:IH):Option (Value×IH):=
 match J.und src,J.und dst,x with
 |some .string,some (.slice e),.string s=>match J.und e,J.size e with
  |some (.int .u8),some 1=>some (.slice (some ⟨H.next,0,none⟩) s.size capU,H.push (.cells (bytesCells s) e false))
  |_,_=>none
 |some (.slice e),some .string,.slice (some a) n _=>match J.und e with
  |some (.int .u8)=>match icells H a n with
   |some cs=>(bytesOfCells cs).map fun bs=>(.string ⟨bs.toArray⟩,H)
   |none=>none
  |_=>none
 |some (.slice e),some .string,.slice none _ _=>match J.und e with
  |some (.int .u8)=>some (.string .empty,H)
  |_=>none
 |some (.pointer t),some .unsafePointer,.pointer (some a)=>match H.get a.block,J.size t with
  |some (.cells cs _ false),some (_+1)=>if a.spot=none∧a.off<cs.length then some (.pointer (some a),H) else none
  |_,_=>none
 |some .unsafePointer,some (.pointer u),.pointer (some a)=>match H.get a.block,J.size u with
  |some (.cells cs e false),some (s+1)=>if e=u∧a.spot=none∧a.off%(s+1)=0∧a.off+(s+1)≤cs.length then some (.pointer (some a),H) else none
  |_,_=>none
 |_,_,_=>none
def iunsafeString (J:Env) (pt:TypeId) (p n:Value) (H:IH):Option (Value×IH):=
 match J.und pt,p,n with
 |some (.pointer e),.pointer (some a),.int _ i=>match H.get a.block with
  |some (.cells cs e' false)=>
   if 0<i∧i<2^63∧e'=e∧J.size e=some 1∧a.spot=none∧a.off+i.toNat≤cs.length then
    (bytesOfCells ((cs.drop a.off).take i.toNat)).map fun bs=>(.string ⟨bs.toArray⟩,H.set a.block (.cells cs e' true))
   else none
  |_=>none
 |some (.pointer _),.pointer none,.int _ i=>if i=0 then some (.string .empty,H) else none
 |_,_,_=>none
def isliceData:Value→Option Value
 | .slice none _ _=>some (.pointer none)
 | .slice (some a) (_+1) _=>some (.pointer (some a))
 |_=>none
def nilEq:Value→Value→Option Bool
 | .pointer (some a),.pointer (some b)=>if a.block=b.block∧a.spot=none∧b.spot=none then some (decide (a.off=b.off)) else none
 | .pointer (some _),.pointer none| .pointer none,.pointer (some _)=>some false
 | .slice (some _) _ _,.slice none _ _| .slice none _ _,.slice (some _) _ _=>some false
 | .map (some _),.map none| .map none,.map (some _)=>some false
 | .func _ _ _,.nilFunc| .nilFunc,.func _ _ _=>some false
 | .iface _ _,.nilIface| .nilIface,.iface _ _=>some false
 |_,_=>none
def fitsNil (J:Env) (t:TypeId) (v:Value):Bool:=
 match J.und t,v with
 |some (.pointer e),.pointer (some _)=>(J.size e).any fun n=>n !=0
 |some (.pointer _),.pointer none|some (.slice _),.slice _ _ _|some (.map _ _),.map _|some (.func _ _ _),.func _ _ _|some (.func _ _ _),.nilFunc
 |some (.interface _),.iface _ _|some (.interface _),.nilIface=>true
 |_,_=>false
def itypeAssert (J:Env) (x:Value) (t:TypeId) (ok:Bool):Option Value:=
 match J.und t,x with
 |some (.interface _),_=>none
 |some _,.iface u v=>if u=t then some (if ok then .tuple #[v,.bool true] else v) else if ok then (J.zero t).map fun z=>.tuple #[z,.bool false] else none
 |some _,.nilIface=>if ok then (J.zero t).map fun z=>.tuple #[z,.bool false] else none
 |_,_=>none
def hasBody (J:Env) (f:FuncId):Bool:=
 match J.fn f with
 |some fn=>fn.body.isSome
 |none=>false
def ipure (J:Env) (o:Oper) (T:Regs) (H:IH):Option OR:=
 if o.op.operands.all fun x=>flat (iev T x) then
  match pureRun J.P (execOp (iev T) o) with
  |some (.value v)=>if flat v then some (.val v H) else none
  |_=>none
 else none
def OR.ofVal (H:IH) (v:Option Value):Option OR:=v.map fun v=>.val v H
def OR.ofPair (x:Option (Value×IH)):Option OR:=x.map fun p=>.val p.1 p.2
def OR.ofHeap (x:Option IH):Option OR:=x.map fun H=>.val undef H
def identR (vs:List Value) (H:IH):Option OR:=
 match vs with
 | [v]=>some (.val v H)
 |_=>none
def icall0 (J:Env) (o:Oper) (T:Regs) (H:IH) (c:Call):Option OR:=
 match c.callee with
 | .value f=>match iev T f with
  | .func (.func g) first captured=>
   if hasBody J g then some (.enter g (first++c.args.map (iev T)++captured) H) else if J.ident g then identR (first++c.args.map (iev T)++captured).toList H else ipure J o T H
  |_=>none
 | .invoke _ _=>none
 | .builtin .len=>match c.args[0]?,c.argTypes[0]? with
  |some x,some t=>match J.und t,iev T x with
   |some (.slice _),.slice _ n _=>some (.val (.int .i64 n) H)
   |some (.map _ _),.map (some r)=>match H.get r with
    |some (.map es _)=>some (.val (.int .i64 es.length) H)
    |_=>none
   |_,_=>ipure J o T H
  |_,_=>none
 | .builtin .append=>match c.args[0]?,c.args[1]? with
  |some s,some x=>OR.ofPair (iappend J c.argTypes (iev T s) (iev T x) H)
  |_,_=>none
 | .builtin .copy=>match c.args[0]?,c.args[1]? with
  |some s,some x=>OR.ofPair (icopy J c.argTypes (iev T s) (iev T x) H)
  |_,_=>none
 | .builtin .clear=>match c.args[0]? with
  |some s=>OR.ofPair (iclear J c.argTypes (iev T s) H)
  |none=>none
 | .builtin .unsafeString=>match c.args.toList,c.argTypes[0]? with
  | [p,n],some pt=>OR.ofPair (iunsafeString J pt (iev T p) (iev T n) H)
  |_,_=>none
 | .builtin .unsafeSliceData=>match c.args.toList with
  | [x]=>OR.ofVal H (isliceData (iev T x))
  |_=>none
 | .builtin _=>ipure J o T H
def iop (J:Env) (o:Oper) (T:Regs) (H:IH):Option OR:=
 match o.op with
 | .move x| .assign x=>some (.val (iev T x) H)
 | .pick c a b=>match iev T c with
  | .bool true=>some (.val (iev T a) H)
  | .bool false=>some (.val (iev T b) H)
  |_=>none
 | .alloc e=>(J.zero e).map fun z=>let r:=inew H e z.cells.toList;.val r.1 r.2
 | .box e x=>(J.size e).map fun _=>let r:=inew H e (iev T x).cells.toList;.val r.1 r.2
 | .build t ps=>OR.ofVal H (ibuild J t (iparts T ps))
 | .buildSlice t n ps=>OR.ofPair (ibuildSlice J t n (iparts T ps) H)
 | .load t a=>match iev T a with
  | .pointer (some ad)=>OR.ofVal H (iload J t ad H)
  |_=>none
 | .store t a x=>match iev T a with
  | .pointer (some ad)=>OR.ofHeap (istore J t ad (iev T x) H)
  |_=>none
 | .nilCheck x=>match iev T x with
  | .pointer (some a)=>some (.val (.pointer (some a)) H)
  | .func (.func g) first captured=>some (.val (.func (.func g) first captured) H)
  |_=>none
 | .binOp op t x y _=>match op,nilEq (iev T x) (iev T y) with
  | .eql,some r=>if fitsNil J t (iev T x)&&fitsNil J t (iev T y) then some (.val (.bool r) H) else none
  | .neq,some r=>if fitsNil J t (iev T x)&&fitsNil J t (iev T y) then some (.val (.bool (!r)) H) else none
  |_,_=>ipure J o T H
 | .convert src dst x=>match iconvert J src dst (iev T x) H with
  |some (v,H')=>some (.val v H')
  |none=>ipure J o T H
 | .makeInterface t x=>match J.und t with
  |some (.interface _)|none=>none
  |some _=>some (.val (.iface t (iev T x)) H)
 | .makeFunc (.func g) first captured=>some (.val (.func (.func g) (first.map (iev T)) (captured.map (iev T))) H)
 | .makeMap _ none=>some (.val (.map (some H.next)) (H.push (.map [] false)))
 | .makeSlice t l c=>OR.ofPair (imakeSlice J t (iev T l) (iev T c) H)
 | .slice t x lo hi mx=>OR.ofVal H (islice J t (iev T x) (lo.map (iev T)) (hi.map (iev T)) (mx.map (iev T)) H)
 | .fieldAddr s x f=>OR.ofVal H (ifieldAddr J s (iev T x) f)
 | .field s x f=>OR.ofVal H (ifield J s (iev T x) f)
 | .indexAddr t x ix=>OR.ofVal H (iindexAddr J t (iev T x) (iev T ix))
 | .index t x ix=>OR.ofVal H (iindex J t (iev T x) (iev T ix))
 | .lookup t x k ok=>OR.ofVal H (ilookup J t (iev T x) (iev T k) ok H)
 | .mapUpdate t m k x| .insert t m k x=>OR.ofHeap (imapUpdate J t (iev T m) (iev T k) (iev T x) H)
 | .typeAssert x _ t ok=>OR.ofVal H (itypeAssert J (iev T x) t ok)
 | .extract x i=>match iev T x with
  | .tuple vs=>OR.ofVal H (vs[i]?)
  |_=>none
 | .call c=>icall0 J o T H c
 | .select _ _=>none
 | .panic x=>match iev T x with
  | .iface t v=>some (.pan (.iface t v) H)
  |_=>none
 |_=>ipure J o T H
/-! ### Code -/
inductive IX where
 |normal
 |exit (id:Nat)
 |ret
 |pan (v:Value)
inductive IE where
 |ret (v:Value)
 |pan (v:Value)
abbrev CallR:=FuncId→Array Value→IH→Option (IE×IH)
def putR (T:Regs) (d:Option Tmp) (v:Value):Regs:=
 match d with
 |some d=>T.set d v
 |none=>T
def wantedR (ops:Array Oper) (T:Regs) (o:Oper):Bool:=
 match o.guard with
 |none=>true
 |some (j,want)=>match (ops[j]?).bind (·.dst) with
  |some d=>match T.at d with
   | .bool b=>b==want
   |_=>false
  |none=>false
def iexec (J:Env) (call:CallR) (o:Oper) (T:Regs) (H:IH):Option (IE×IH):=
 match iop J o T H with
 |some (.val v H')=>some (.ret v,H')
 |some (.pan v H')=>some (.pan v,H')
 |some (.enter f args H')=>call f args H'
 |none=>none
def iops (J:Env) (call:CallR) (ops:Array Oper):List Oper→Regs→IH→Option (IX×Regs×IH)
 | [],T,H=>some (.normal,T,H)
 |o::r,T,H=>
  if wantedR ops T o then
   match iexec J call o T H with
   |some (.ret v,H')=>iops J call ops r (putR T o.dst v) H'
   |some (.pan v,H')=>some (.pan v,T,H')
   |none=>none
  else iops J call ops r (putR T o.dst undef) H
def iresult1 (J:Env) (T:Regs) (H:IH):ResultVar→Option Value
 | .tmp t=>some (T.at t)
 | .cell a t=>match T.at a with
  | .pointer (some ad)=>iload J t ad H
  |_=>none
def iresults (J:Env) (fn:Func) (T:Regs) (H:IH):Option Value:=
 match fn.results.toList.mapM (iresult1 J T H) with
 |some [v]=>some v
 |some vs=>some (.tuple vs.toArray)
 |none=>none
def regsOf:List Value→Nat→Regs→Regs
 | [],_,T=>T
 |v::r,i,T=>regsOf r (i+1) (T.set i v)
structure BI where
 rb:Nat
 ro:Nat
 esz:Nat
 rsz:Nat
abbrev Emb:=Nat→BI
def ARel (ι:Emb) (n:Nat) (a a':Addr):Prop:=a.spot=none∧a.block<n∧a'=⟨(ι a.block).rb,(ι a.block).ro+a.off,none⟩
inductive VRel (ι:Emb) (n:Nat):Value→Value→Prop
 |bool (b:Bool):VRel ι n (.bool b) (.bool b)
 |int (k:IntKind) (x:Int):VRel ι n (.int k x) (.int k x)
 |float (k:FloatKind) (x:Nat):VRel ι n (.float k x) (.float k x)
 |complex (k:FloatKind) (x y:Nat):VRel ι n (.complex k x y) (.complex k x y)
 |string (s:ByteArray):VRel ι n (.string s) (.string s)
 |ptrN:VRel ι n (.pointer none) (.pointer none)
 |ptr {a a':Addr} (h:ARel ι n a a'):VRel ι n (.pointer (some a)) (.pointer (some a'))
 |sliceN:VRel ι n (.slice none 0 0) (.slice none 0 0)
 |slice {a a':Addr} {len c c':Nat} (h:ARel ι n a a') (hc:c=c'∨c=capU) (hl:len≤c') (hs:a'.off+c'*(ι a.block).esz≤(ι a.block).rsz):
   VRel ι n (.slice (some a) len c) (.slice (some a') len c')
 |slice0 {a a':Addr} {c:Nat} (hc:c=0∨c=capU):VRel ι n (.slice (some a) 0 c) (.slice (some a') 0 0)
 |mapN:VRel ι n (.map none) (.map none)
 |map {r:Nat} (h:r<n):VRel ι n (.map (some r)) (.map (some (ι r).rb))
 |func (f:Fn) {xs ys us vs:Array Value} (h1:xs.size=ys.size) (h2:∀(i:Nat) (x y:Value),xs[i]?=some x→ys[i]?=some y→VRel ι n x y)
   (h3:us.size=vs.size) (h4:∀(i:Nat) (x y:Value),us[i]?=some x→vs[i]?=some y→VRel ι n x y):VRel ι n (.func f xs us) (.func f ys vs)
 |nilFunc:VRel ι n .nilFunc .nilFunc
 |iface (t:TypeId) {v v':Value} (h:VRel ι n v v'):VRel ι n (.iface t v) (.iface t v')
 |nilIface:VRel ι n .nilIface .nilIface
 |agg {xs ys:Array Value} (h1:xs.size=ys.size) (h2:∀(i:Nat) (x y:Value),xs[i]?=some x→ys[i]?=some y→VRel ι n x y):VRel ι n (.agg xs) (.agg ys)
 |tuple {xs ys:Array Value} (h1:xs.size=ys.size) (h2:∀(i:Nat) (x y:Value),xs[i]?=some x→ys[i]?=some y→VRel ι n x y):VRel ι n (.tuple xs) (.tuple ys)
def LRel (ι:Emb) (n:Nat) (xs ys:List Value):Prop:=xs.length=ys.length∧∀(i:Nat) (x y:Value),xs[i]?=some x→ys[i]?=some y→VRel ι n x y
theorem LRel.nil {ι:Emb} {n:Nat}:LRel ι n [] []:=⟨rfl,by simp⟩
theorem LRel.cons {ι:Emb} {n:Nat} {x y:Value} {xs ys:List Value} (h:VRel ι n x y) (hs:LRel ι n xs ys):LRel ι n (x::xs) (y::ys):=
 ⟨by simp [hs.1],fun i a b ha hb=>by
  cases i with
  |zero=>simp at ha hb;subst ha;subst hb;exact h
  |succ i=>exact hs.2 i a b (by simpa using ha) (by simpa using hb)⟩
theorem LRel.append {ι:Emb} {n:Nat} {xs ys us vs:List Value} (h:LRel ι n xs ys) (h':LRel ι n us vs):LRel ι n (xs++us) (ys++vs):=by
 refine ⟨by simp [h.1,h'.1],fun i a b ha hb=>?_⟩
 by_cases hi:i<xs.length
 ·rw [List.getElem?_append_left hi] at ha
  rw [List.getElem?_append_left (by rw [←h.1];exact hi)] at hb
  exact h.2 i a b ha hb
 ·rw [List.getElem?_append_right (by omega)] at ha
  rw [List.getElem?_append_right (by rw [←h.1];omega),←h.1] at hb
  exact h'.2 _ a b ha hb
theorem LRel.take {ι:Emb} {n:Nat} {xs ys:List Value} (h:LRel ι n xs ys) (k:Nat):LRel ι n (xs.take k) (ys.take k):=by
 refine ⟨by simp [h.1],fun i a b ha hb=>?_⟩
 rw [List.getElem?_take] at ha hb
 split at ha
 ·rename_i hi
  rw [if_pos hi] at hb
  exact h.2 i a b ha hb
 ·exact absurd ha (by simp)
theorem LRel.drop {ι:Emb} {n:Nat} {xs ys:List Value} (h:LRel ι n xs ys) (k:Nat):LRel ι n (xs.drop k) (ys.drop k):=by
 refine ⟨by simp [h.1],fun i a b ha hb=>?_⟩
 rw [List.getElem?_drop] at ha hb
 exact h.2 _ a b ha hb
theorem LRel.get {ι:Emb} {n:Nat} {xs ys:List Value} (h:LRel ι n xs ys) {i:Nat} {x:Value} (hx:xs[i]?=some x):∃y,ys[i]?=some y∧VRel ι n x y:=by
 obtain ⟨hi,_⟩:=List.getElem?_eq_some_iff.1 hx
 exact ⟨ys[i]'(by rw [←h.1];exact hi),List.getElem?_eq_getElem _,h.2 i x _ hx (List.getElem?_eq_getElem _)⟩
theorem LRel.mem_all {ι:Emb} {n:Nat} {xs ys:List Value} (h:LRel ι n xs ys) {p q:Value→Bool} (hpq:∀x y,VRel ι n x y→p x=true→q y=true) (hp:xs.all p=true):ys.all q=true:=by
 rw [List.all_eq_true] at hp ⊢
 intro y hy
 obtain ⟨i,hi,rfl⟩:=List.getElem_of_mem hy
 have hi':i<xs.length:=by rw [h.1];exact hi
 exact hpq _ _ (h.2 i _ _ (List.getElem?_eq_getElem hi') (List.getElem?_eq_getElem hi)) (hp _ (List.getElem_mem hi'))
def Ext (ι:Emb) (n:Nat) (ι':Emb) (n':Nat):Prop:=n≤n'∧∀b,b<n→ι' b=ι b
theorem Ext.refl (ι:Emb) (n:Nat):Ext ι n ι n:=⟨Nat.le_refl _,fun _ _=>rfl⟩
theorem Ext.trans {ι ι' ι'':Emb} {n n' n'':Nat} (h:Ext ι n ι' n') (h':Ext ι' n' ι'' n''):Ext ι n ι'' n'':=
 ⟨Nat.le_trans h.1 h'.1,fun b hb=>(h'.2 b (Nat.lt_of_lt_of_le hb h.1)).trans (h.2 b hb)⟩
theorem ARel.ext {ι ι':Emb} {n n':Nat} {a a':Addr} (he:Ext ι n ι' n') (h:ARel ι n a a'):ARel ι' n' a a':=
 ⟨h.1,Nat.lt_of_lt_of_le h.2.1 he.1,by rw [he.2 _ h.2.1];exact h.2.2⟩
theorem VRel.ext {ι ι':Emb} {n n':Nat} (he:Ext ι n ι' n') {v v':Value} (h:VRel ι n v v'):VRel ι' n' v v':=by
 induction h with
 |bool b=>exact .bool b
 |int k x=>exact .int k x
 |float k x=>exact .float k x
 |complex k x y=>exact .complex k x y
 |string s=>exact .string s
 |ptrN=>exact .ptrN
 |ptr h=>exact .ptr (h.ext he)
 |sliceN=>exact .sliceN
 |slice h hc hl hs=>exact .slice (h.ext he) hc hl (by rw [he.2 _ h.2.1];exact hs)
 |slice0 hc=>exact .slice0 hc
 |mapN=>exact .mapN
 |map h=>rw [←he.2 _ h];exact .map (Nat.lt_of_lt_of_le h he.1)
 |func f h1 h2 h3 h4 ih2 ih4=>exact .func f h1 ih2 h3 ih4
 |nilFunc=>exact .nilFunc
 |iface t h ih=>exact .iface t ih
 |nilIface=>exact .nilIface
 |agg h1 h2 ih=>exact .agg h1 ih
 |tuple h1 h2 ih=>exact .tuple h1 ih
theorem LRel.ext {ι ι':Emb} {n n':Nat} (he:Ext ι n ι' n') {xs ys:List Value} (h:LRel ι n xs ys):LRel ι' n' xs ys:=
 ⟨h.1,fun i x y hx hy=>(h.2 i x y hx hy).ext he⟩
theorem array_eq_of_get {xs ys:Array Value} (h1:xs.size=ys.size) (h:∀(i:Nat) (x y:Value),xs[i]?=some x→ys[i]?=some y→x=y):xs=ys:=
 Array.ext h1 fun i hi hi'=>h i _ _ (Array.getElem?_eq_getElem hi) (Array.getElem?_eq_getElem hi')
theorem flatN_all {n:Nat} {xs:Array Value} (h:xs.all (flatN n)=true) {i:Nat} {x:Value} (hx:xs[i]?=some x):flatN n x=true:=by
 obtain ⟨hi,rfl⟩:=Array.getElem?_eq_some_iff.1 hx
 exact (Array.all_eq_true.1 h) i hi
theorem flatN_eq {ι:Emb} {n:Nat} {v v':Value} (h:VRel ι n v v'):∀k,flatN k v=true→v=v':=by
 induction h with
 |ptr h=>intro k hk;cases k<;>simp [flatN] at hk
 |slice h hc hl hs=>intro k hk;cases k<;>simp [flatN] at hk
 |slice0 hc=>intro k hk;cases k<;>simp [flatN] at hk
 |map h=>intro k hk;cases k<;>simp [flatN] at hk
 |func f h1 h2 h3 h4 ih2 ih4=>
  intro k hk
  cases k with
  |zero=>simp [flatN] at hk
  |succ k=>
   simp only [flatN,Bool.and_eq_true] at hk
   rw [array_eq_of_get h1 fun i x y hx hy=>ih2 i x y hx hy k (flatN_all hk.1 hx),array_eq_of_get h3 fun i x y hx hy=>ih4 i x y hx hy k (flatN_all hk.2 hx)]
 |iface t h ih=>
  intro k hk
  cases k with
  |zero=>simp [flatN] at hk
  |succ k=>simp only [flatN] at hk;rw [ih k hk]
 |agg h1 h2 ih=>
  intro k hk
  cases k with
  |zero=>simp [flatN] at hk
  |succ k=>simp only [flatN] at hk;rw [array_eq_of_get h1 fun i x y hx hy=>ih i x y hx hy k (flatN_all hk hx)]
 |tuple h1 h2 ih=>
  intro k hk
  cases k with
  |zero=>simp [flatN] at hk
  |succ k=>simp only [flatN] at hk;rw [array_eq_of_get h1 fun i x y hx hy=>ih i x y hx hy k (flatN_all hk hx)]
 |_=>intros;rfl
theorem flat_eq {ι:Emb} {n:Nat} {v v':Value} (h:VRel ι n v v') (hf:flat v=true):v=v':=flatN_eq h 4 hf
theorem VRel.ofFlatN {ι:Emb} {n:Nat}:∀(k:Nat) (v:Value),flatN k v=true→VRel ι n v v:=by
 intro k
 induction k with
 |zero=>
  intro v h
  cases v with
  |bool b=>exact .bool b
  |int k x=>exact .int k x
  |float k x=>exact .float k x
  |complex k x y=>exact .complex k x y
  |string s=>exact .string s
  |pointer a=>cases a with
   |none=>exact .ptrN
   |some a=>simp [flatN] at h
  |slice a l c=>cases a with
   |none=>
    by_cases e:l=0∧c=0
    ·obtain ⟨rfl,rfl⟩:=e;exact .sliceN
    ·cases l<;>cases c<;>simp_all [flatN]
   |some a=>simp [flatN] at h
  |map r=>cases r with
   |none=>exact .mapN
   |some r=>simp [flatN] at h
  |nilFunc=>exact .nilFunc
  |nilIface=>exact .nilIface
  |_=>simp [flatN] at h
 |succ k ih=>
  have arr:∀xs:Array Value,xs.all (flatN k)=true→∀(i:Nat) (x y:Value),xs[i]?=some x→xs[i]?=some y→VRel ι n x y:=fun xs hx i x y h1 h2=>by
   rw [h1] at h2;cases h2;exact ih x (flatN_all hx h1)
  intro v h
  cases v with
  |bool b=>exact .bool b
  |int k x=>exact .int k x
  |float k x=>exact .float k x
  |complex k x y=>exact .complex k x y
  |string s=>exact .string s
  |pointer a=>cases a with
   |none=>exact .ptrN
   |some a=>simp [flatN] at h
  |slice a l c=>cases a with
   |none=>
    by_cases e:l=0∧c=0
    ·obtain ⟨rfl,rfl⟩:=e;exact .sliceN
    ·cases l<;>cases c<;>simp_all [flatN]
   |some a=>simp [flatN] at h
  |map r=>cases r with
   |none=>exact .mapN
   |some r=>simp [flatN] at h
  |nilFunc=>exact .nilFunc
  |nilIface=>exact .nilIface
  |chan c=>simp [flatN] at h
  |func f xs us=>
   simp only [flatN,Bool.and_eq_true] at h
   exact .func f rfl (arr xs h.1) rfl (arr us h.2)
  |iface t v=>simp only [flatN] at h;exact .iface t (ih v h)
  |agg xs=>simp only [flatN] at h;exact .agg rfl (arr xs h)
  |tuple xs=>simp only [flatN] at h;exact .tuple rfl (arr xs h)
theorem VRel.ofFlat {ι:Emb} {n:Nat} {v:Value} (h:flat v=true):VRel ι n v v:=VRel.ofFlatN 4 v h
theorem VRel.undef {ι:Emb} {n:Nat}:VRel ι n undef undef:=.tuple rfl (by simp)
theorem VRel.cells {ι:Emb} {n:Nat} {v v':Value} (h:VRel ι n v v'):LRel ι n v.cells.toList v'.cells.toList:=by
 have one:∀{a b:Value},VRel ι n a b→LRel ι n [a] [b]:=fun h=>.cons h .nil
 cases h with
 |agg h1 h2=>exact ⟨by simpa [Value.cells] using h1,fun i x y hx hy=>h2 i x y (by simpa [Value.cells] using hx) (by simpa [Value.cells] using hy)⟩
 |bool b=>exact one (.bool b)
 |int k x=>exact one (.int k x)
 |float k x=>exact one (.float k x)
 |complex k x y=>exact one (.complex k x y)
 |string s=>exact one (.string s)
 |ptrN=>exact one .ptrN
 |ptr h=>exact one (.ptr h)
 |sliceN=>exact one .sliceN
 |slice h hc hl hs=>exact one (.slice h hc hl hs)
 |slice0 hc=>exact one (.slice0 hc)
 |mapN=>exact one .mapN
 |map h=>exact one (.map h)
 |func f h1 h2 h3 h4=>exact one (.func f h1 h2 h3 h4)
 |nilFunc=>exact one .nilFunc
 |iface t h=>exact one (.iface t h)
 |nilIface=>exact one .nilIface
 |tuple h1 h2=>exact one (.tuple h1 h2)
theorem VRel.plain {ι:Emb} {n:Nat} {v v':Value} (h:VRel ι n v v') (hp:plain1 v=true):plain1 v'=true:=by
 cases h<;>simp_all [plain1]
/-! ### Memory -/
def writable:Blk→Bool
 | .cells _ _ pr=> !pr
 | .map _ pr=> !pr
 | .iter _ _=>true
 | .dead=>false
def alive:Blk→Bool
 | .dead=>false
 |_=>true
structure Bd where
 lo:Nat
 ex:Nat→Prop
def Bd.own (B:Bd) (x:Nat):Prop:=B.lo≤x∧¬B.ex x
def Bd.frn (B:Bd) (x:Nat):Prop:=x<B.lo∨B.ex x
def Bd.fits (B:Bd) (n:Nat):Prop:=B.lo≤n∧∀x,B.ex x→x<n
theorem Bd.ne {B:Bd} {r k:Nat} (h:B.own r) (hk:B.frn k):r≠k:=fun e=>by
 subst e
 rcases hk with h1|h1
 ·have:=h.1;omega
 ·exact h.2 h1
theorem Bd.fits.own {B:Bd} {n:Nat} (h:B.fits n):B.own n:=⟨h.1,fun e=>by have:=h.2 n e;omega⟩
theorem Bd.fits.mono {B:Bd} {n m:Nat} (h:B.fits n) (hm:n≤m):B.fits m:=⟨Nat.le_trans h.1 hm,fun x hx=>Nat.lt_of_lt_of_le (h.2 x hx) hm⟩
theorem Bd.fits.lt {B:Bd} {n k:Nat} (h:B.fits n) (hk:B.frn k):k<n:=by
 rcases hk with h1|h1
 ·exact Nat.lt_of_lt_of_le h1 h.1
 ·exact h.2 k h1
structure Below (B:Bd) (w w':World):Prop where
 os:w'.os=w.os
 tape:w'.tape=w.tape
 output:w'.output=w.output
 size:w.heap.size≤w'.heap.size
 block:∀k,B.frn k→w'.heap[k]?=w.heap[k]?
theorem Below.refl (B:Bd) (w:World):Below B w w:=⟨rfl,rfl,rfl,Nat.le_refl _,fun _ _=>rfl⟩
theorem Below.trans {B:Bd} {a b c:World} (h:Below B a b) (k:Below B b c):Below B a c:=
 ⟨k.os.trans h.os,k.tape.trans h.tape,k.output.trans h.output,Nat.le_trans h.size k.size,fun i hi=>(k.block i hi).trans (h.block i hi)⟩
def Bd.at (n:Nat):Bd:=⟨n,fun _=>False⟩
theorem Below.kit {n:Nat} {w w':World} (h:Below (Bd.at n) w w'):Go.RowKit.Below n w w':=⟨h.os,h.tape,h.output,h.size,fun k hk=>h.block k (.inl hk)⟩
structure Sim (J:Env) (B:Bd) (ι:Emb) (H:IH) (w:World):Prop where
 base:B.fits w.heap.size
 glob:∀g,g<J.P.globals.size→g<H.next∧(ι g).rb=g∧(ι g).ro=0
 lt:∀b x,H.get b=some x→b<H.next
 cells:∀b cs e pr,H.get b=some (.cells cs e pr)→∃rc re fr,w.heap[(ι b).rb]?=some (.cells rc re fr)∧
  (∀(i:Nat) (v:Value),cs[i]?=some v→∃v',rc[(ι b).ro+i]?=some v'∧VRel ι H.next v v')∧(ι b).rsz=rc.size∧J.size e=some (ι b).esz∧
  (pr=false→B.own (ι b).rb∧(rc.size≤fr.1∨fr.2≤fr.1))
 rows:∀b cs e,H.get b=some (.cells cs e false)→(∃rc fr,w.heap[(ι b).rb]?=some (.cells rc e fr))∧(ι b).esz ∣ (ι b).ro
 maps:∀b es pr,H.get b=some (.map es pr)→∃res clk,w.heap[(ι b).rb]?=some (.map res clk)∧es.length=res.size∧
  (∀(i:Nat) (e:Value×Value),es[i]?=some e→∃r,res[i]?=some r∧VRel ι H.next e.1 r.key∧VRel ι H.next e.2 r.val)∧(pr=false→B.own (ι b).rb)
 iters:∀b s p,H.get b=some (.iter s p)→w.heap[(ι b).rb]?=some (.stringIter s p)∧B.own (ι b).rb
 keep:J.keep B.lo w
 apart:∀b b' x x',H.get b=some x→H.get b'=some x'→alive x=true→alive x'=true→b≠b'→(writable x=true∨writable x'=true)→(ι b).rb≠(ι b').rb
 out:∀b x,H.get b=some x→alive x=true→¬B.ex (ι b).rb
def upd (ι:Emb) (n:Nat) (x:BI):Emb:=fun b=>if b=n then x else ι b
theorem upd_eq (ι:Emb) (n:Nat) (x:BI):upd ι n x n=x:=by simp [upd]
theorem upd_ne (ι:Emb) {n b:Nat} (x:BI) (h:b≠n):upd ι n x b=ι b:=by simp [upd,h]
theorem ext_upd (ι:Emb) (n:Nat) (x:BI):Ext ι n (upd ι n x) (n+1):=⟨by omega,fun b hb=>upd_ne ι x (by omega)⟩
theorem Sim.of_heap {J:Env} {B:Bd} {ι:Emb} {H:IH} {w w':World} (h:Sim J B ι H w) (e:w'.heap=w.heap):Sim J B ι H w':=
 ⟨e▸h.base,h.glob,h.lt,e▸h.cells,e▸h.rows,e▸h.maps,e▸h.iters,Env.keep_on h.keep (fun _ _=>by rw [e]),h.apart,h.out⟩
theorem heap_lt {w:World} {r:Nat} {o:Obj} (h:w.heap[r]?=some o):r<w.heap.size:=(Array.getElem?_eq_some_iff.1 h).1
theorem Sim.rb_lt {J:Env} {B:Bd} {ι:Emb} {H:IH} {w:World} (h:Sim J B ι H w) {b:Nat} {x:Blk} (hb:H.get b=some x) (ha:alive x=true):(ι b).rb<w.heap.size:=by
 cases x with
 |cells cs e pr=>obtain ⟨rc,re,fr,hr,_⟩:=h.cells _ _ _ _ hb;exact heap_lt hr
 |map es pr=>obtain ⟨res,clk,hr,_⟩:=h.maps _ _ _ hb;exact heap_lt hr
 |iter s p=>exact heap_lt (h.iters _ _ _ hb).1
 |dead=>simp [alive] at ha
theorem Sim.push {J:Env} {B:Bd} {ι:Emb} {H:IH} {w w':World} (h:Sim J B ι H w) (x:Blk) (o:Obj) (esz rsz:Nat)
  (hw:w'.heap=w.heap.push o)
  (hc:∀cs e pr,x=.cells cs e pr→∃rc fr,o=.cells rc e fr∧(∀(i:Nat) (v:Value),cs[i]?=some v→∃v',rc[i]?=some v'∧VRel ι H.next v v')∧
   rsz=rc.size∧J.size e=some esz∧(rc.size≤fr.1∨fr.2≤fr.1))
  (hm:∀es pr,x=.map es pr→es= []∧∃clk,o=.map #[] clk)
  (hi:∀s p,x=.iter s p→o=.stringIter s p):
  Sim J B (upd ι H.next ⟨w.heap.size,0,esz,rsz⟩) (H.push x) w'∧Ext ι H.next (upd ι H.next ⟨w.heap.size,0,esz,rsz⟩) (H.push x).next:=by
 have he:Ext ι H.next (upd ι H.next ⟨w.heap.size,0,esz,rsz⟩) (H.push x).next:=ext_upd ι H.next _
 have old:∀{b:Nat} {y:Blk},H.get b=some y→upd ι H.next ⟨w.heap.size,0,esz,rsz⟩ b=ι b:=fun hb=>upd_ne ι _ (by have:=h.lt _ _ hb;omega)
 have look:∀{r:Nat} {o':Obj},w.heap[r]?=some o'→w'.heap[r]?=some o':=fun hr=>by
  have:=heap_lt hr
  rw [hw,Array.getElem?_push,if_neg (by omega)];exact hr
 have new:w'.heap[w.heap.size]?=some o:=by rw [hw];simp
 refine ⟨⟨h.base.mono (by rw [hw];simp),fun g hg=>?_,fun b y hb=>?_,fun b cs e pr hb=>?_,fun b cs e hb=>?_,fun b es pr hb=>?_,fun b s p hb=>?_,Env.keep_on h.keep (fun k hk=>by rw [hw,Array.getElem?_push,if_neg (by have:=h.base.1;omega)]),fun b b' y y' hb hb' ha ha' hne hwr=>?_,fun b y hb ha=>?_⟩,he⟩
 ·obtain ⟨h1,h2,h3⟩:=h.glob g hg
  refine ⟨by simp;omega,?_,?_⟩<;>rw [upd_ne ι _ (by omega)]<;>assumption
 ·rw [IH.get_push] at hb
  split at hb
  ·subst b;simp
  ·have:=h.lt _ _ hb;simp;omega
 ·rw [IH.get_push] at hb
  split at hb
  ·subst b
   obtain ⟨rc,fr,rfl,h1,h2,h3,h4⟩:=hc cs e pr (by simpa using hb)
   refine ⟨rc,e,fr,by rw [upd_eq];exact new,fun i v hv=>?_,by rw [upd_eq];exact h2,by rw [upd_eq];exact h3,fun _=>⟨by rw [upd_eq];exact h.base.own,h4⟩⟩
   obtain ⟨v',hv',hr⟩:=h1 i v hv
   exact ⟨v',by rw [upd_eq];simpa using hv',hr.ext he⟩
  ·obtain ⟨rc,re,fr,h0,h1,h2,h3,h4⟩:=h.cells _ _ _ _ hb
   rw [old hb]
   exact ⟨rc,re,fr,look h0,fun i v hv=>by obtain ⟨v',hv',hr⟩:=h1 i v hv;exact ⟨v',hv',hr.ext he⟩,h2,h3,h4⟩
 ·rw [IH.get_push] at hb
  split at hb
  ·subst b
   obtain ⟨rc,fr,rfl,h1,h2,h3,h4⟩:=hc cs e false (by simpa using hb)
   rw [upd_eq]
   exact ⟨⟨rc,fr,new⟩,⟨0,by simp⟩⟩
  ·obtain ⟨⟨rc,fr,h0⟩,h1⟩:=h.rows _ _ _ hb
   rw [old hb]
   exact ⟨⟨rc,fr,look h0⟩,h1⟩
 ·rw [IH.get_push] at hb
  split at hb
  ·subst b
   obtain ⟨rfl,clk,rfl⟩:=hm es pr (by simpa using hb)
   exact ⟨#[],clk,by rw [upd_eq];exact new,by simp,by simp,fun _=>by rw [upd_eq];exact h.base.own⟩
  ·obtain ⟨res,clk,h0,h1,h2,h3⟩:=h.maps _ _ _ hb
   rw [old hb]
   exact ⟨res,clk,look h0,h1,fun i e hv=>by obtain ⟨r,hr,k1,k2⟩:=h2 i e hv;exact ⟨r,hr,k1.ext he,k2.ext he⟩,h3⟩
 ·rw [IH.get_push] at hb
  split at hb
  ·subst b
   have:=hi s p (by simpa using hb)
   subst this
   exact ⟨by rw [upd_eq];exact new,by rw [upd_eq];exact h.base.own⟩
  ·rw [old hb]
   exact ⟨look (h.iters _ _ _ hb).1,(h.iters _ _ _ hb).2⟩
 ·rw [IH.get_push] at hb hb'
  split at hb<;>split at hb'
  ·omega
  ·subst b
   rw [upd_eq,old hb']
   have:=h.rb_lt hb' ha'
   simp only;omega
  ·subst b'
   rw [upd_eq,old hb]
   have:=h.rb_lt hb ha
   simp only;omega
  ·rw [old hb,old hb']
   exact h.apart _ _ _ _ hb hb' ha ha' hne hwr
 ·rw [IH.get_push] at hb
  split at hb
  ·subst b
   rw [upd_eq];exact h.base.own.2
  ·rw [old hb];exact h.out _ _ hb ha
theorem Sim.own_ge {J:Env} {B:Bd} {ι:Emb} {H:IH} {w:World} (h:Sim J B ι H w) {b:Nat} {x:Blk} (hb:H.get b=some x) (hw:writable x=true):B.own (ι b).rb:=by
 cases x with
 |cells cs e pr=>
  obtain ⟨_,_,_,_,_,_,_,h4⟩:=h.cells _ _ _ _ hb
  exact (h4 (by simpa [writable] using hw)).1
 |map es pr=>
  obtain ⟨_,_,_,_,_,h4⟩:=h.maps _ _ _ hb
  exact h4 (by simpa [writable] using hw)
 |iter s p=>exact (h.iters _ _ _ hb).2
 |dead=>simp [writable] at hw
theorem Sim.more {J:Env} {B:Bd} {ι:Emb} {H:IH} {w w':World} (h:Sim J B ι H w) (hb:Go.RowKit.Below w.heap.size w w'):Sim J B ι H w':=by
 have look:∀{r:Nat} {o:Obj},w.heap[r]?=some o→w'.heap[r]?=some o:=fun hr=>by rw [hb.block _ (heap_lt hr)];exact hr
 refine ⟨h.base.mono hb.size,h.glob,h.lt,fun b cs e pr hc=>?_,fun b cs e hc=>?_,fun b es pr hc=>?_,fun b s p hc=>?_,Env.keep_on h.keep (fun k hk=>hb.block k (Nat.lt_of_lt_of_le hk h.base.1)),h.apart,h.out⟩
 ·obtain ⟨rc,re,fr,h0,h1⟩:=h.cells _ _ _ _ hc
  exact ⟨rc,re,fr,look h0,h1⟩
 ·obtain ⟨⟨rc,fr,h0⟩,h1⟩:=h.rows _ _ _ hc
  exact ⟨⟨rc,fr,look h0⟩,h1⟩
 ·obtain ⟨res,clk,h0,h1⟩:=h.maps _ _ _ hc
  exact ⟨res,clk,look h0,h1⟩
 ·obtain ⟨h0,h1⟩:=h.iters _ _ _ hc
  exact ⟨look h0,h1⟩
theorem Sim.kill {J:Env} {B:Bd} {ι:Emb} {H:IH} {w:World} (h:Sim J B ι H w) {b:Nat} {x:Blk} (hx:H.get b=some x):Sim J B ι (H.set b .dead) w:=by
 refine ⟨h.base,h.glob,fun c y hc=>?_,fun c cs e pr hc=>?_,fun c cs e hc=>?_,fun c es pr hc=>?_,fun c s p hc=>?_,h.keep,fun c c' y y' hc hc' ha ha' hne hwr=>?_,fun c y hc ha=>?_⟩
 ·rw [IH.get_set] at hc
  split at hc
  ·subst c;exact h.lt _ _ hx
  ·exact h.lt _ _ hc
 ·rw [IH.get_set] at hc
  split at hc
  ·simp at hc
  ·exact h.cells _ _ _ _ hc
 ·rw [IH.get_set] at hc
  split at hc
  ·simp at hc
  ·exact h.rows _ _ _ hc
 ·rw [IH.get_set] at hc
  split at hc
  ·simp at hc
  ·exact h.maps _ _ _ hc
 ·rw [IH.get_set] at hc
  split at hc
  ·simp at hc
  ·exact h.iters _ _ _ hc
 ·rw [IH.get_set] at hc hc'
  split at hc
  ·cases hc;simp [alive] at ha
  ·split at hc'
   ·cases hc';simp [alive] at ha'
   ·exact h.apart _ _ _ _ hc hc' ha ha' hne hwr
 ·rw [IH.get_set] at hc
  split at hc
  ·cases hc;simp [alive] at ha
  ·exact h.out _ _ hc ha
theorem Sim.rewrite {J:Env} {B:Bd} {ι:Emb} {H:IH} {w w':World} (h:Sim J B ι H w) {b:Nat} {x y:Blk} (hx:H.get b=some x) (hwx:writable x=true) (o:Obj)
  (hw:w'.heap=w.heap.setIfInBounds (ι b).rb o)
  (hc:∀cs e pr,y=.cells cs e pr→∃rc fr,o=.cells rc e fr∧(ι b).esz ∣ (ι b).ro∧(∀(i:Nat) (v:Value),cs[i]?=some v→∃v',rc[(ι b).ro+i]?=some v'∧VRel ι H.next v v')∧
   (ι b).rsz=rc.size∧J.size e=some (ι b).esz∧(pr=false→B.own (ι b).rb∧(rc.size≤fr.1∨fr.2≤fr.1)))
  (hm:∀es pr,y=.map es pr→B.own (ι b).rb∧∃res clk,o=.map res clk∧es.length=res.size∧∀(i:Nat) (e:Value×Value),es[i]?=some e→∃r,res[i]?=some r∧VRel ι H.next e.1 r.key∧VRel ι H.next e.2 r.val)
  (hi:∀s p,y=.iter s p→B.own (ι b).rb∧o=.stringIter s p):
  Sim J B ι (H.set b y) w':=by
 have hax:alive x=true:=by cases x<;>simp_all [alive,writable]
 have hlt:=h.rb_lt hx hax
 have other:∀{c:Nat} {z:Blk},H.get c=some z→alive z=true→c≠b→∀{o':Obj},w.heap[(ι c).rb]?=some o'→w'.heap[(ι c).rb]?=some o':=fun hcz haz hne o' hr=>by
  have:=h.apart _ _ _ _ hcz hx haz hax hne (.inr hwx)
  rw [hw,Array.getElem?_setIfInBounds_ne (Ne.symm this)];exact hr
 have here:w'.heap[(ι b).rb]?=some o:=by rw [hw];simp [hlt]
 refine ⟨h.base.mono (by rw [hw];simp),h.glob,fun c z hcz=>?_,fun c cs e pr hcz=>?_,fun c cs e hcz=>?_,fun c es pr hcz=>?_,fun c s p hcz=>?_,Env.keep_on h.keep (fun k hk=>by rw [hw,Array.getElem?_setIfInBounds_ne (by have:=(h.own_ge hx hwx).1;omega)]),fun c c' z z' hcz hcz' ha ha' hne hwr=>?_,fun c z hcz ha=>?_⟩
 ·rw [IH.get_set] at hcz
  split at hcz
  ·subst c;exact h.lt _ _ hx
  ·exact h.lt _ _ hcz
 ·rw [IH.get_set] at hcz
  split at hcz
  ·subst c
   obtain ⟨rc,fr,rfl,_,h1,h2,h3,h4⟩:=hc cs e pr (by simpa using hcz)
   exact ⟨rc,e,fr,here,h1,h2,h3,h4⟩
  ·rename_i hne
   obtain ⟨rc,re,fr,h0,h1⟩:=h.cells _ _ _ _ hcz
   exact ⟨rc,re,fr,other hcz rfl hne h0,h1⟩
 ·rw [IH.get_set] at hcz
  split at hcz
  ·subst c
   obtain ⟨rc,fr,rfl,h0,_⟩:=hc cs e false (by simpa using hcz)
   exact ⟨⟨rc,fr,here⟩,h0⟩
  ·rename_i hne
   obtain ⟨⟨rc,fr,h0⟩,h1⟩:=h.rows _ _ _ hcz
   exact ⟨⟨rc,fr,other hcz rfl hne h0⟩,h1⟩
 ·rw [IH.get_set] at hcz
  split at hcz
  ·subst c
   obtain ⟨h4,res,clk,rfl,h1,h2⟩:=hm es pr (by simpa using hcz)
   exact ⟨res,clk,here,h1,h2,fun _=>h4⟩
  ·rename_i hne
   obtain ⟨res,clk,h0,h1⟩:=h.maps _ _ _ hcz
   exact ⟨res,clk,other hcz rfl hne h0,h1⟩
 ·rw [IH.get_set] at hcz
  split at hcz
  ·subst c
   obtain ⟨h4,rfl⟩:=hi s p (by simpa using hcz)
   exact ⟨here,h4⟩
  ·rename_i hne
   exact ⟨other hcz rfl hne (h.iters _ _ _ hcz).1,(h.iters _ _ _ hcz).2⟩
 ·rw [IH.get_set] at hcz hcz'
  split at hcz
  ·subst c
   split at hcz'
   ·omega
   ·exact h.apart _ _ _ _ hx hcz' hax ha' hne (.inl hwx)
  ·split at hcz'
   ·subst c'
    exact h.apart _ _ _ _ hcz hx ha hax hne (.inr hwx)
   ·exact h.apart _ _ _ _ hcz hcz' ha ha' hne hwr
 ·rw [IH.get_set] at hcz
  split at hcz
  ·subst c;exact h.out _ _ hx hax
  ·exact h.out _ _ hcz ha
theorem Sim.regrow {J:Env} {B:Bd} {ι:Emb} {H:IH} {w w':World} (h:Sim J B ι H w) {b:Nat} {x:Blk} (hx:H.get b=some x) (hwx:writable x=true)
  (cs:List Value) (e:TypeId) (ro:Nat) (rc:Array Value) (fr:Nat×Nat) (hro:(ι b).esz ∣ ro)
  (hw:w'.heap=w.heap.setIfInBounds (ι b).rb (.cells rc e fr)) (hB:B.own (ι b).rb) (he:J.size e=some (ι b).esz) (hr:(ι b).rsz=rc.size) (hf:rc.size≤fr.1∨fr.2≤fr.1)
  (hc:∀(i:Nat) (v:Value),cs[i]?=some v→∃v',rc[ro+i]?=some v'∧VRel ι H.next v v'):
  Sim J B (upd ι H.next ⟨(ι b).rb,ro,(ι b).esz,(ι b).rsz⟩) ((H.set b .dead).push (.cells cs e false)) w'∧
   Ext ι H.next (upd ι H.next ⟨(ι b).rb,ro,(ι b).esz,(ι b).rsz⟩) ((H.set b .dead).push (.cells cs e false)).next:=by
 have hE:Ext ι H.next (upd ι H.next ⟨(ι b).rb,ro,(ι b).esz,(ι b).rsz⟩) ((H.set b .dead).push (.cells cs e false)).next:=ext_upd ι H.next _
 have hax:alive x=true:=by cases x<;>simp_all [alive,writable]
 have hlt:=h.rb_lt hx hax
 have hbn:=h.lt _ _ hx
 have old:∀{c:Nat} {y:Blk},H.get c=some y→upd ι H.next ⟨(ι b).rb,ro,(ι b).esz,(ι b).rsz⟩ c=ι c:=fun hb=>upd_ne ι _ (by have:=h.lt _ _ hb;omega)
 have other:∀{c:Nat} {z:Blk},H.get c=some z→alive z=true→c≠b→∀{o':Obj},w.heap[(ι c).rb]?=some o'→w'.heap[(ι c).rb]?=some o':=fun hcz haz hne o' hr=>by
  have:=h.apart _ _ _ _ hcz hx haz hax hne (.inr hwx)
  rw [hw,Array.getElem?_setIfInBounds_ne (Ne.symm this)];exact hr
 have here:w'.heap[(ι b).rb]?=some (.cells rc e fr):=by rw [hw];simp [hlt]
 have hget:∀c,((H.set b .dead).push (.cells cs e false)).get c=if c=H.next then some (.cells cs e false) else if c=b then some .dead else H.get c:=fun c=>by
  rw [IH.get_push,IH.next_set,IH.get_set]
 refine ⟨⟨h.base.mono (by rw [hw];simp),fun g hg=>?_,fun c z hcz=>?_,fun c cs' e' pr hcz=>?_,fun c cs' e' hcz=>?_,fun c es pr hcz=>?_,fun c s p hcz=>?_,Env.keep_on h.keep (fun k hk=>by rw [hw,Array.getElem?_setIfInBounds_ne (by have:=(h.own_ge hx hwx).1;omega)]),fun c c' z z' hcz hcz' ha ha' hne hwr=>?_,fun c z hcz ha=>?_⟩,hE⟩
 ·obtain ⟨h1,h2,h3⟩:=h.glob g hg
  refine ⟨by simp;omega,?_,?_⟩<;>rw [upd_ne ι _ (by omega)]<;>assumption
 ·rw [hget] at hcz
  simp only [IH.next_push,IH.next_set]
  split at hcz
  ·omega
  ·split at hcz
   ·omega
   ·have:=h.lt _ _ hcz;omega
 ·rw [hget] at hcz
  split at hcz
  ·subst c
   cases hcz
   rw [upd_eq]
   exact ⟨rc,e,fr,here,fun i v hv=>by obtain ⟨v',hv',hrl⟩:=hc i v hv;exact ⟨v',hv',hrl.ext hE⟩,hr,he,fun _=>⟨hB,hf⟩⟩
  ·split at hcz
   ·simp at hcz
   ·rename_i hne
    obtain ⟨rc,re,fr,h0,h1,h2,h3,h4⟩:=h.cells _ _ _ _ hcz
    rw [old hcz]
    exact ⟨rc,re,fr,other hcz rfl hne h0,fun i v hv=>by obtain ⟨v',hv',hrl⟩:=h1 i v hv;exact ⟨v',hv',hrl.ext hE⟩,h2,h3,h4⟩
 ·rw [hget] at hcz
  split at hcz
  ·subst c
   cases hcz
   rw [upd_eq]
   exact ⟨⟨rc,fr,here⟩,hro⟩
  ·split at hcz
   ·simp at hcz
   ·rename_i hne
    obtain ⟨⟨rc',fr',h0⟩,h1⟩:=h.rows _ _ _ hcz
    rw [old hcz]
    exact ⟨⟨rc',fr',other hcz rfl hne h0⟩,h1⟩
 ·rw [hget] at hcz
  split at hcz
  ·simp at hcz
  ·split at hcz
   ·simp at hcz
   ·rename_i hne
    obtain ⟨res,clk,h0,h1,h2,h3⟩:=h.maps _ _ _ hcz
    rw [old hcz]
    exact ⟨res,clk,other hcz rfl hne h0,h1,fun i e hv=>by obtain ⟨r,hr,k1,k2⟩:=h2 i e hv;exact ⟨r,hr,k1.ext hE,k2.ext hE⟩,h3⟩
 ·rw [hget] at hcz
  split at hcz
  ·simp at hcz
  ·split at hcz
   ·simp at hcz
   ·rename_i hne
    rw [old hcz]
    exact ⟨other hcz rfl hne (h.iters _ _ _ hcz).1,(h.iters _ _ _ hcz).2⟩
 ·rw [hget] at hcz hcz'
  split at hcz
  ·subst c
   split at hcz'
   ·omega
   ·split at hcz'
    ·cases hcz';simp [alive] at ha'
    ·rename_i hcb
     rw [upd_eq,old hcz']
     exact h.apart _ _ _ _ hx hcz' hax ha' (Ne.symm hcb) (.inl hwx)
  ·split at hcz
   ·cases hcz;simp [alive] at ha
   ·rename_i hcb
    split at hcz'
    ·subst c'
     rw [upd_eq,old hcz]
     exact h.apart _ _ _ _ hcz hx ha hax hcb (.inr hwx)
    ·split at hcz'
     ·cases hcz';simp [alive] at ha'
     ·rw [old hcz,old hcz']
      exact h.apart _ _ _ _ hcz hcz' ha ha' hne hwr
 ·rw [hget] at hcz
  split at hcz
  ·subst c
   rw [upd_eq];exact hB.2
  ·split at hcz
   ·cases hcz;simp [alive] at ha
   ·rw [old hcz];exact h.out _ _ hcz ha
/-! ### The model's own runs over rows of cells -/
theorem add_plain (b o n:Nat):(⟨b,o,none⟩:Addr).add n=⟨b,o+n,none⟩:=by unfold Addr.add;split<;>simp_all
theorem run_bind {α β:Type} (P:Program) (s:Sem α) (f:α→Sem β) (w:World):(s.bind f).run P w=match s.run P w with
  | .ok a w'=>(f a).run P w'
  | .halt h w'=>.halt h w':=by
 induction s generalizing w with
 |pure a=>rfl
 |load m a k ih=>
  simp only [Sem.bind,Sem.run]
  cases w.cell? a with
  |some v=>exact ih v w
  |none=>cases w.farLoad P a (m==.atomic) with
   |ok r=>exact ih r.1 w
   |error e=>rfl
 |store m a v k ih=>
  cases v<;>simp only [Sem.bind,Sem.run]<;>(cases w.cell? a with
   |some u=>by_cases hf:w.frozen? a=true<;>simp only [hf,if_true,if_false,Bool.false_eq_true]<;>first|rfl|exact ih _
   |none=>cases w.farStore P a _ (m==.atomic) with
    |ok r=>exact ih r.1
    |error e=>rfl)
 |new o k ih=>exact ih _ _
 |shape r k ih=>exact ih _ _
 |freeze a n k ih=>exact ih _
 |frozen a k ih=>exact ih _ _
 |getObj r k ih=>
  simp only [Sem.bind,Sem.run]
  cases w.heap[r]? with
  |none=>rfl
  |some o=>cases o<;>first|rfl|exact ih _ _
 |setObj r o k ih=>
  simp only [Sem.bind,Sem.run]
  cases w.heap[r]? with
  |none=>rfl
  |some o=>cases o<;>first|rfl|exact ih _
 |choose q k ih=>
  simp only [Sem.bind,Sem.run]
  split<;>exact ih _ _
 |sys c k ih=>exact ih _ _
 |program k ih=>exact ih _ _
 |mark m k ih=>exact ih _
 |halt h=>rfl
theorem run_bind' {α β:Type} (P:Program) (s:Sem α) (f:α→Sem β) (w:World):(s >>= f).run P w=match s.run P w with
  | .ok a w'=>(f a).run P w'
  | .halt h w'=>.halt h w':=run_bind P s f w
theorem run_bind_ok {α β:Type} {P:Program} {s:Sem α} {f:α→Sem β} {w w':World} {a:α} (h:s.run P w=.ok a w'):(s >>= f).run P w=(f a).run P w':=by rw [run_bind',h]
theorem cell_at {w:World} {b o:Nat} {rc:Array Value} {re:TypeId} {fr:Nat×Nat} (h:w.heap[b]?=some (.cells rc re fr)):w.cell? ⟨b,o,none⟩=rc[o]?:=by
 simp [World.cell?,h]
theorem run_load_cell {P:Program} {w:World} {a:Addr} {v:Value} (h:w.cell? a=some v):(load a).run P w=.ok v w:=by
 simp [load,Sem.run,h]
theorem run_loadCellsFrom {P:Program} {w:World} {b o:Nat} {rc:Array Value} {re:TypeId} {fr:Nat×Nat} (h:w.heap[b]?=some (.cells rc re fr)):
  ∀(n i:Nat) (acc:Array Value),o+i+n≤rc.size→(loadCellsFrom ⟨b,o,none⟩ i n acc).run P w=.ok (acc++((rc.toList.drop (o+i)).take n).toArray) w:=by
 intro n
 induction n with
 |zero=>intro i acc hn;simp [loadCellsFrom,pure]
 |succ n ih=>
  intro i acc hn
  have hi:o+i<rc.size:=by omega
  have hc:w.cell? ((⟨b,o,none⟩:Addr).add i)=some rc[o+i]:=by rw [add_plain,cell_at h];exact Array.getElem?_eq_getElem hi
  simp only [loadCellsFrom]
  rw [run_bind_ok (run_load_cell hc),ih (i+1) _ (by omega)]
  have e:(rc.toList.drop (o+i)).take (n+1)=rc[o+i]::(rc.toList.drop (o+(i+1))).take n:=by
   rw [List.drop_eq_getElem_cons (by simpa using hi),List.take_succ_cons]
   simp [Nat.add_assoc]
  rw [e]
  simp
theorem run_loadCells {P:Program} {w:World} {b o n:Nat} {rc:Array Value} {re:TypeId} {fr:Nat×Nat} (h:w.heap[b]?=some (.cells rc re fr)) (hn:o+n≤rc.size):
  (loadCells ⟨b,o,none⟩ n).run P w=.ok ((rc.toList.drop o).take n).toArray w:=by
 unfold loadCells
 rw [run_loadCellsFrom h n 0 #[] (by omega)]
 simp
theorem overlay_length (cs:List Value) (off:Nat) (vs:List Value) (h:off+vs.length≤cs.length):(overlay cs off vs).length=cs.length:=by
 simp [overlay];omega
theorem overlay_get (cs:List Value) (off:Nat) (vs:List Value) (h:off+vs.length≤cs.length) (i:Nat):
  (overlay cs off vs)[i]?=if off≤i∧i<off+vs.length then vs[i-off]? else cs[i]?:=by
 unfold overlay
 have h0:(cs.take off).length=off:=by simp;omega
 by_cases h1:i<off
 ·rw [List.append_assoc,List.getElem?_append_left (by omega),if_neg (by omega),List.getElem?_take,if_pos h1]
 ·by_cases h2:i<off+vs.length
  ·rw [List.append_assoc,List.getElem?_append_right (by omega),h0,List.getElem?_append_left (by omega),if_pos ⟨by omega,h2⟩]
  ·rw [List.getElem?_append_right (by simp;omega),if_neg (by omega),List.getElem?_drop]
   congr 1
   simp;omega
theorem overlay_nil (cs:List Value) (off:Nat):overlay cs off []=cs:=by simp [overlay]
theorem overlay_cons (cs:List Value) (off:Nat) (v:Value) (vs:List Value) (h:off+(v::vs).length≤cs.length):overlay cs off (v::vs)=overlay (cs.set off v) (off+1) vs:=by
 simp only [List.length_cons] at h
 refine List.ext_getElem? fun i=>?_
 rw [overlay_get _ _ _ (by simpa using h),overlay_get _ _ _ (by simp;omega)]
 simp only [List.length_cons]
 by_cases h1:i<off
 ·rw [if_neg (by omega),if_neg (by omega),List.getElem?_set_ne (by omega)]
 ·by_cases h2:i=off
  ·subst h2
   rw [if_pos (by omega),if_neg (by omega)]
   simp only [Nat.sub_self,List.getElem?_cons_zero]
   rw [List.getElem?_set_self (by omega)]
  ·by_cases h3:i<off+(vs.length+1)
   ·rw [if_pos (by omega),if_pos (by omega)]
    rw [show i-off=(i-(off+1))+1 by omega,List.getElem?_cons_succ]
   ·rw [if_neg (by omega),if_neg (by omega),List.getElem?_set_ne (by omega)]
def wput (w:World) (r:Nat) (o:Obj):World:={ w with heap:=w.heap.setIfInBounds r o }
theorem wput_heap (w:World) (r:Nat) (o:Obj):(wput w r o).heap=w.heap.setIfInBounds r o:=rfl
theorem wput_wput (w:World) (r:Nat) (o o':Obj):wput (wput w r o) r o'=wput w r o':=by simp [wput]
theorem setCell_eq {w:World} {b o:Nat} {rc:Array Value} {re:TypeId} {fr:Nat×Nat} (h:w.heap[b]?=some (.cells rc re fr)) (v:Value):
  w.setCell ⟨b,o,none⟩ v=wput w b (.cells (rc.setIfInBounds o v) re fr):=by
 obtain ⟨hb,hv⟩:=Array.getElem?_eq_some_iff.1 h
 unfold World.setCell wput
 congr 1
 refine Array.ext_getElem? fun i=>?_
 rw [Array.getElem?_modify,Array.getElem?_setIfInBounds]
 by_cases e:b=i
 ·subst e;simp [hb,hv]
 ·simp [e]
theorem run_store_cell {P:Program} {w:World} {b o:Nat} {rc:Array Value} {re:TypeId} {fr:Nat×Nat} (h:w.heap[b]?=some (.cells rc re fr)) (ho:o<rc.size)
  (hf:rc.size≤fr.1∨fr.2≤fr.1) {v:Value} (hp:plain1 v=true):
  (store ⟨b,o,none⟩ v).run P w=.ok () (wput w b (.cells (rc.setIfInBounds o v) re fr)):=by
 have hc:w.cell? ⟨b,o,none⟩=some rc[o]:=by rw [cell_at h];exact Array.getElem?_eq_getElem ho
 have hz:w.frozen? ⟨b,o,none⟩=false:=by
  obtain ⟨lo,hi⟩:=fr
  simp only [World.frozen?,h,Bool.and_eq_false_iff,decide_eq_false_iff_not]
  simp only at hf
  omega
 unfold store
 cases v<;>first|(simp [plain1] at hp;done)|(simp only [Sem.run,hc,hz];rw [setCell_eq h];rfl)
theorem run_storeCells {P:Program} {b o:Nat} {re:TypeId} {fr:Nat×Nat}:∀(vs:List Value) (i:Nat) (w:World) (rc:Array Value),w.heap[b]?=some (.cells rc re fr)→
  o+i+vs.length≤rc.size→(rc.size≤fr.1∨fr.2≤fr.1)→vs.all plain1=true→
  (storeCells ⟨b,o,none⟩ vs i).run P w=.ok () (wput w b (.cells (overlay rc.toList (o+i) vs).toArray re fr)):=by
 intro vs
 induction vs with
 |nil=>
  intro i w rc h hl hf hp
  obtain ⟨hb,hv⟩:=Array.getElem?_eq_some_iff.1 h
  have e:wput w b (.cells (overlay rc.toList (o+i) []).toArray re fr)=w:=by
   rw [overlay_nil]
   unfold wput
   have:w.heap.setIfInBounds b (.cells rc.toList.toArray re fr)=w.heap:=by
    refine Array.ext_getElem? fun j=>?_
    rw [Array.getElem?_setIfInBounds]
    by_cases e:b=j
    ·subst e;simp [hb,hv]
    ·simp [e]
   rw [this]
  rw [e];rfl
 |cons v vs ih=>
  intro i w rc h hl hf hp
  simp only [List.length_cons] at hl
  simp only [List.all_cons,Bool.and_eq_true] at hp
  have hb:=heap_lt h
  simp only [storeCells]
  rw [add_plain,run_bind_ok (run_store_cell h (by omega) hf hp.1)]
  have h':(wput w b (.cells (rc.setIfInBounds (o+i) v) re fr)).heap[b]?=some (.cells (rc.setIfInBounds (o+i) v) re fr):=by
   simp [wput,hb]
  rw [ih (i+1) _ _ h' (by simp;omega) (by simpa using hf) hp.2,wput_wput,overlay_cons _ _ _ _ (by simp;omega)]
  simp [Nat.add_assoc]
end Go.Proofs.YtchlbfmjnhgpgaaGreat.Idl
namespace Go.Proofs.YtchlbfmjnhgpgaaGreat.Idl
open Go Go.RowKit
section
variable {J:Env} {B:Bd} {ι:Emb} {H:IH} {w:World}
theorem run_pure {α:Type} (a:α):(pure a:Sem α).run J.P w=.ok a w:=rfl
theorem run_program:(program).run J.P w=.ok J.P w:=rfl
theorem run_info {t:TypeId} {i:TypeInfo} (h:J.P.info? t=some i):(typeInfo t).run J.P w=.ok i w:=by
 unfold typeInfo
 rw [run_bind_ok run_program,h];rfl
theorem run_underlying {t:TypeId} {d:TypeDesc} (h:J.und t=some d):(underlying t).run J.P w=.ok d w:=by
 unfold underlying
 rw [run_bind_ok run_program,J.und_ok h];rfl
theorem run_sizeOf {t:TypeId} {n:Nat} (h:J.size t=some n):(sizeOf t).run J.P w=.ok n w:=by
 obtain ⟨i,e,rfl⟩:=J.size_ok h
 unfold sizeOf
 rw [run_bind_ok (run_info e)];rfl
theorem run_zeroValue {t:TypeId} {z:Value} (h:J.zero t=some z):(zeroValue t).run J.P w=.ok z w∧flat z=true:=by
 obtain ⟨⟨i,e,e2⟩,hf⟩:=J.zero_ok h
 refine ⟨?_,hf⟩
 unfold zeroValue
 rw [run_bind_ok (run_info e),e2];rfl
theorem run_isAgg {t:TypeId} {b:Bool} (h:isAggT J t=some b):(isAgg t).run J.P w=.ok b w:=by
 unfold isAggT at h
 unfold isAgg
 split at h
 ·rename_i e;rw [run_bind_ok (run_underlying e)];cases h;rfl
 ·rename_i e;rw [run_bind_ok (run_underlying e)];cases h;rfl
 ·rename_i d h1 h2 e
  rw [run_bind_ok (run_underlying e)]
  cases h
  cases d<;>first|rfl|exact (h1 _ rfl).elim|exact (h2 _ _ rfl).elim
 ·simp at h
theorem icells_run (hS:Sim J B ι H w) {a a':Addr} {n:Nat} {cs:List Value} (ha:ARel ι H.next a a') (h:icells H a n=some cs):
  ∃rs:Array Value,(loadCells a' n).run J.P w=.ok rs w∧LRel ι H.next cs rs.toList∧cs.length=n:=by
 obtain ⟨_,_,rfl⟩:=ha
 unfold icells at h
 split at h
 ·rename_i cs0 e pr hb
  split at h
  ·rename_i hc
   cases h
   obtain ⟨rc,re,fr,h0,h1,h2,h3,h4⟩:=hS.cells _ _ _ _ hb
   by_cases hn:n=0
   ·subst hn
    exact ⟨#[],rfl,by simpa using LRel.nil,by simp⟩
   ·have hlast:(ι a.block).ro+a.off+n≤rc.size:=by
     have hl:cs0[a.off+n-1]?=some (cs0[a.off+n-1]'(by omega)):=List.getElem?_eq_getElem _
     obtain ⟨v',hv',_⟩:=h1 _ _ hl
     have:=(Array.getElem?_eq_some_iff.1 hv').1
     omega
    refine ⟨_,run_loadCells h0 hlast,⟨?_,fun i x y hx hy=>?_⟩,?_⟩
    ·simp;omega
    ·simp only [List.getElem?_take,List.getElem?_drop] at hx hy
     by_cases hi:i<n
     ·rw [if_pos hi] at hx hy
      obtain ⟨v',hv',hr⟩:=h1 _ _ hx
      rw [←Nat.add_assoc] at hv'
      have:v'=y:=by
       rw [Array.getElem?_toList] at hy
       rw [hv'] at hy
       simpa using hy
      exact this▸hr
     ·rw [if_neg hi] at hx;simp at hx
    ·simp;omega
  ·simp at h
 ·simp at h
theorem icell_run (hS:Sim J B ι H w) {a a':Addr} {v:Value} (ha:ARel ι H.next a a') (h:icell H a=some v):
  ∃v',(load a').run J.P w=.ok v' w∧VRel ι H.next v v':=by
 obtain ⟨_,_,rfl⟩:=ha
 unfold icell at h
 split at h
 ·rename_i cs0 e pr hb
  split at h
  ·obtain ⟨rc,re,fr,h0,h1,h2,h3,h4⟩:=hS.cells _ _ _ _ hb
   obtain ⟨v',hv',hr⟩:=h1 _ _ h
   exact ⟨v',run_load_cell (by rw [cell_at h0];exact hv'),hr⟩
  ·rename_i hno;exact absurd ‹a.spot=none› hno
 ·simp at h
theorem iload_run (hS:Sim J B ι H w) {t:TypeId} {a a':Addr} {v:Value} (ha:ARel ι H.next a a') (h:iload J t a H=some v):
  ∃v',(loadVar t a').run J.P w=.ok v' w∧VRel ι H.next v v':=by
 unfold iload at h
 unfold loadVar
 split at h
 ·rename_i e
  split at h
  ·rename_i n hn
   cases e2:icells H a n with
   |none=>simp [e2] at h
   |some cs=>
    simp [e2] at h
    subst h
    obtain ⟨rs,h1,h2,h3⟩:=icells_run hS ha e2
    refine ⟨.agg rs,?_,.agg (by simpa using h2.1) fun i x y hx hy=>h2.2 i x y (by simpa using hx) (by simpa using hy)⟩
    rw [run_bind_ok (run_isAgg e)]
    show (do let x ←sizeOf t;let cs ←loadCells a' x;pure (Value.agg cs):Sem Value).run J.P w=_
    rw [run_bind_ok (run_sizeOf hn),run_bind_ok h1];rfl
  ·simp at h
 ·rename_i e
  obtain ⟨v',h1,h2⟩:=icell_run hS ha h
  refine ⟨v',?_,h2⟩
  rw [run_bind_ok (run_isAgg e)]
  exact h1
 ·simp at h
theorem below_wput {w:World} {B:Bd} {r:Nat} (o:Obj) (h:B.own r):Below B w (wput w r o):=
 ⟨rfl,rfl,rfl,by simp [wput],fun k hk=>by simp only [wput];exact Array.getElem?_setIfInBounds_ne (Bd.ne h hk)⟩
theorem below_push {w:World} {B:Bd} (o:Obj) (h:B.fits w.heap.size):Below B w { w with heap:=w.heap.push o }:=
 ⟨rfl,rfl,rfl,by simp,fun k hk=>by simp only;rw [Array.getElem?_push,if_neg (by have:=h.lt hk;omega)]⟩
theorem below_drawn {w:World} {B:Bd} (n:Nat):Below B w { w with drawn:=n }:=⟨rfl,rfl,rfl,Nat.le_refl _,fun _ _=>rfl⟩
theorem iput_run (hS:Sim J B ι H w) {a a':Addr} {vs vs':List Value} {H':IH} (ha:ARel ι H.next a a') (hv:LRel ι H.next vs vs') (h:iput H a vs=some H'):
  ∃w',(storeCells a' vs').run J.P w=.ok () w'∧Sim J B ι H' w'∧Below B w w'∧H'.next=H.next:=by
 obtain ⟨_,_,rfl⟩:=ha
 unfold iput at h
 split at h
 ·rename_i cs e hb
  split at h
  ·rename_i hc
   obtain ⟨hc1,hc2,hc3,hc4⟩:=hc
   cases h
   obtain ⟨rc,re,fr,h0,h1,h2,h3,h4⟩:=hS.cells _ _ _ _ hb
   obtain ⟨h5,h6⟩:=h4 rfl
   have hvl:0<vs.length:=by cases vs with|nil=>exact absurd rfl hc3|cons _ _=>simp
   have hlast:(ι a.block).ro+a.off+vs'.length≤rc.size:=by
    have hl:cs[a.off+vs.length-1]?=some (cs[a.off+vs.length-1]'(by omega)):=List.getElem?_eq_getElem _
    obtain ⟨v',hv',_⟩:=h1 _ _ hl
    have:=(Array.getElem?_eq_some_iff.1 hv').1
    have:=hv.1
    omega
   have hp:vs'.all plain1=true:=hv.mem_all (fun x y h hx=>h.plain hx) hc4
   refine ⟨_,run_storeCells vs' 0 w rc h0 (by omega) h6 hp,?_,below_wput _ h5,rfl⟩
   obtain ⟨⟨rc0,fr0,g0⟩,gd⟩:=hS.rows _ _ _ hb
   have ge:re=e:=by rw [h0] at g0;cases g0;rfl
   subst ge
   refine Sim.rewrite hS hb rfl _ (wput_heap _ _ _) (fun cs' e' pr' hy=>?_) (fun _ _ hy=>by cases hy) (fun _ _ hy=>by cases hy)
   cases hy
   refine ⟨_,_,rfl,gd,fun i v hi=>?_,?_,h3,fun _=>⟨h5,?_⟩⟩
   ·rw [overlay_get _ _ _ hc2] at hi
    simp only [List.getElem?_toArray]
    rw [overlay_get _ _ _ (by simp;omega)]
    split at hi
    ·rename_i hr
     obtain ⟨y,hy,hry⟩:=hv.get hi
     refine ⟨y,?_,hry⟩
     rw [if_pos (by have:=hv.1;omega)]
     rw [show (ι a.block).ro+i-((ι a.block).ro+a.off+0)=i-a.off by omega];exact hy
    ·rename_i hr
     obtain ⟨v',hv',hrv⟩:=h1 _ _ hi
     refine ⟨v',?_,hrv⟩
     rw [if_neg (by have:=hv.1;omega)];simpa using hv'
   ·rw [h2];simp only [List.size_toArray];rw [overlay_length _ _ _ (by simp;omega)];simp
   ·simp only [List.size_toArray];rw [overlay_length _ _ _ (by simp;omega)];simpa using h6
  ·simp at h
 ·simp at h
theorem istore_run (hS:Sim J B ι H w) {t:TypeId} {a a':Addr} {v v':Value} {H':IH} (ha:ARel ι H.next a a') (hv:VRel ι H.next v v') (h:istore J t a v H=some H'):
  ∃w',(storeVar t a' v').run J.P w=.ok () w'∧Sim J B ι H' w'∧Below B w w'∧H'.next=H.next:=by
 unfold istore at h
 split at h
 ·rename_i hz
  obtain ⟨w',h1,h2⟩:=iput_run hS ha hv.cells h
  refine ⟨w',?_,h2⟩
  unfold storeVar
  have hsz:v'.cells.size=v.cells.size:=by have:=hv.cells.1;simpa using this.symm
  rw [run_bind_ok (run_sizeOf hz),if_neg (by rw [hsz];simp)]
  exact h1
 ·simp at h
def Good (J:Env) (B:Bd) (ι:Emb) (n:Nat) (w:World) (r:Result Next) (v:Value) (H':IH):Prop:=
 ∃ι' w' v',(r=.ok (.value v') w'∨(r=.ok .skip w'∧v'=undef))∧Sim J B ι' H' w'∧VRel ι' H'.next v v'∧Ext ι n ι' H'.next∧Below B w w'
theorem Good.same (hS:Sim J B ι H w) {r:Result Next} {v v':Value} (hr:r=.ok (.value v') w) (hv:VRel ι H.next v v'):Good J B ι H.next w r v H:=
 ⟨ι,w,v',.inl hr,hS,hv,Ext.refl _ _,Below.refl _ _⟩
theorem new_run (hS:Sim J B ι H w) {e:TypeId} {cs:List Value} {vs:Array Value} {n:Nat} (hs:J.size e=some n) (hv:LRel ι H.next cs vs.toList):
  (newRow e vs).run J.P w=.ok ⟨w.heap.size,0,none⟩ { w with heap:=w.heap.push (.cells vs e) }∧
  Sim J B (upd ι H.next ⟨w.heap.size,0,n,vs.size⟩) (H.push (.cells cs e false)) { w with heap:=w.heap.push (.cells vs e) }∧
  Ext ι H.next (upd ι H.next ⟨w.heap.size,0,n,vs.size⟩) (H.next+1)∧Below B w { w with heap:=w.heap.push (.cells vs e) }:=by
 obtain ⟨h1,h2⟩:=hS.push (w':={ w with heap:=w.heap.push (.cells vs e) }) (.cells cs e false) (.cells vs e) n vs.size rfl
  (fun cs' e' pr' hx=>by
   cases hx
   exact ⟨vs,_,rfl,fun i v hi=>by obtain ⟨y,hy,hr⟩:=hv.get hi;exact ⟨y,by simpa using hy,hr⟩,rfl,hs,.inr (Nat.le_refl _)⟩)
  (fun _ _ hx=>by cases hx) (fun _ _ hx=>by cases hx)
 exact ⟨rfl,h1,h2,below_push _ hS.base⟩
end
section
variable {J:Env} {B:Bd} {ι:Emb} {H:IH} {w:World}
theorem ARel.add {n:Nat} {a a':Addr} (h:ARel ι n a a') (k:Nat):ARel ι n (a.add k) (a'.add k):=by
 obtain ⟨h1,h2,rfl⟩:=h
 obtain ⟨b,o,s⟩:=a
 simp only at h1
 subst h1
 refine ⟨by rw [add_plain],by rw [add_plain];exact h2,?_⟩
 rw [add_plain,add_plain]
 simp [Nat.add_assoc]
theorem fieldAddr_run {s:TypeId} {x x' v:Value} {i n:Nat} (hx:VRel ι n x x') (h:ifieldAddr J s x i=some v):
  ∃v',(Instr.fieldAt s x' i).run J.P w=.ok v' w∧VRel ι n v v':=by
 unfold ifieldAddr at h
 split at h
 ·rename_i fs a hu
  split at h
  ·rename_i f hf
   split at h
   ·rename_i k hk
    cases h
    cases hx with
    |ptr ha=>
     rename_i a'
     refine ⟨_,?_,.ptr (ha.add f.offset)⟩
     unfold Instr.fieldAt
     rw [run_bind_ok (run_underlying hu)]
     dsimp only
     rw [hf]
     dsimp only
     rw [run_bind_ok (show (Instr.sureAddr (.pointer (some a'))).run J.P w=.ok a' w from rfl)]
     unfold fieldPlace
     rw [run_bind_ok (show (do if (←sizeOf f.type)=0 then partAt a' f.offset f.byteOffset else pure (a'.add f.offset):Sem Addr).run J.P w=.ok (a'.add f.offset) w by
      rw [run_bind_ok (run_sizeOf hk),if_neg (by omega)];rfl)]
     rfl
   ·simp at h
  ·simp at h
 ·simp at h
theorem getElem_rel {n:Nat} {xs ys:Array Value} (h1:xs.size=ys.size) (h2:∀(i:Nat) (x y:Value),xs[i]?=some x→ys[i]?=some y→VRel ι n x y) {i:Nat} {x:Value} (hx:xs[i]?=some x):
  ∃y,ys[i]?=some y∧VRel ι n x y:=by
 obtain ⟨hi,_⟩:=Array.getElem?_eq_some_iff.1 hx
 exact ⟨ys[i]'(by rw [←h1];exact hi),Array.getElem?_eq_getElem _,h2 i x _ hx (Array.getElem?_eq_getElem _)⟩
theorem extract_rel {n:Nat} {xs ys:Array Value} (h1:xs.size=ys.size) (h2:∀(i:Nat) (x y:Value),xs[i]?=some x→ys[i]?=some y→VRel ι n x y) (a b:Nat):
  VRel ι n (.agg (xs.extract a b)) (.agg (ys.extract a b)):=by
 refine .agg (by simp [h1]) fun i x y hx hy=>?_
 rw [Array.getElem?_extract] at hx hy
 split at hx
 ·rename_i hi
  rw [if_pos (by rw [←h1];exact hi)] at hy
  exact h2 _ _ _ hx hy
 ·simp at hx
theorem part_run {t:TypeId} {n off:Nat} {xs ys:Array Value} {v:Value} (h1:xs.size=ys.size) (h2:∀(i:Nat) (x y:Value),xs[i]?=some x→ys[i]?=some y→VRel ι n x y)
  (h:ipart J t xs off=some v):∃v',(part t ys off).run J.P w=.ok v' w∧VRel ι n v v':=by
 unfold ipart at h
 unfold part
 split at h
 ·rename_i e
  cases e2:J.size t with
  |none=>simp [e2] at h
  |some k=>
   simp [e2] at h
   subst h
   refine ⟨_,?_,extract_rel h1 h2 _ _⟩
   rw [run_bind_ok (run_isAgg e)]
   show (do let k ←sizeOf t;pure (Value.agg (ys.extract off (off+k))):Sem Value).run J.P w=_
   rw [run_bind_ok (run_sizeOf e2)];rfl
 ·rename_i e
  obtain ⟨y,hy,hr⟩:=getElem_rel h1 h2 h
  refine ⟨y,?_,hr⟩
  rw [run_bind_ok (run_isAgg e)]
  show (match ys[off]? with|some v=>pure v|none=>stuck "part: no such cell" :Sem Value).run J.P w=_
  rw [hy];rfl
 ·simp at h
theorem field_run {s:TypeId} {x x' v:Value} {i n:Nat} (hx:VRel ι n x x') (h:ifield J s x i=some v):
  ∃v',(Instr.field s x' i).run J.P w=.ok v' w∧VRel ι n v v':=by
 unfold ifield at h
 split at h
 ·rename_i fs cs hu
  split at h
  ·rename_i f hf
   cases hx with
   |agg h1 h2=>
    obtain ⟨v',hv,hr⟩:=part_run (w:=w) h1 h2 h
    refine ⟨v',?_,hr⟩
    unfold Instr.field
    rw [run_bind_ok (run_underlying hu)]
    dsimp only
    rw [hf]
    exact hv
  ·simp at h
 ·simp at h
theorem indexAddr_run {t:TypeId} {x x' ix ix' v:Value} {n:Nat} (hx:VRel ι n x x') (hi:VRel ι n ix ix') (h:iindexAddr J t x ix=some v):
  ∃v',(Instr.indexAt t x' ix').run J.P w=.ok v' w∧VRel ι n v v':=by
 unfold iindexAddr at h
 split at h
 ·rename_i k i
  cases hi
  split at h
  ·rename_i e a len cap hu
   split at h
   ·rename_i hb
    cases e2:J.size e with
    |none=>simp [e2] at h
    |some m=>
     simp [e2] at h
     subst h
     cases hx with
     |slice ha hc hl hs=>
      refine ⟨_,?_,.ptr (ha.add _)⟩
      unfold Instr.indexAt
      rw [run_bind_ok (show (asIntOf (.int k i)).run J.P w=.ok (k,i) w from rfl)]
      dsimp only
      rw [run_bind_ok (run_underlying hu)]
      dsimp only
      rw [run_bind_ok (run_pure _)]
      dsimp only
      rw [run_bind_ok (run_underlying hu)]
      dsimp only
      rw [if_pos hb,run_bind_ok (run_sizeOf e2)];rfl
     |slice0 hc=>exact absurd hb (by omega)
   ·simp at h
  ·rename_i len e a hu
   split at h
   ·rename_i hb
    cases e2:J.size e with
    |none=>simp [e2] at h
    |some m=>
     simp [e2] at h
     subst h
     cases hx with
     |ptr ha=>
      rename_i a'
      refine ⟨_,?_,.ptr (ha.add _)⟩
      unfold Instr.indexAt
      rw [run_bind_ok (show (asIntOf (.int k i)).run J.P w=.ok (k,i) w from rfl)]
      dsimp only
      rw [run_bind_ok (run_underlying hu)]
      dsimp only
      rw [run_bind_ok (show (Instr.sureAddr (.pointer (some a'))).run J.P w=.ok a' w from rfl),run_bind_ok (run_pure _)]
      dsimp only
      rw [run_bind_ok (run_underlying hu)]
      dsimp only
      rw [if_pos hb,run_bind_ok (run_sizeOf e2)];rfl
   ·simp at h
  ·simp at h
 ·simp at h
theorem index_run {t:TypeId} {x x' ix ix' v:Value} {n:Nat} (hx:VRel ι n x x') (hi:VRel ι n ix ix') (h:iindex J t x ix=some v):
  ∃v',(Instr.index t x' ix').run J.P w=.ok v' w∧VRel ι n v v':=by
 unfold iindex at h
 split at h
 ·rename_i k i
  cases hi
  split at h
  ·rename_i len e cs hu
   split at h
   ·rename_i hb
    cases e2:J.size e with
    |none=>simp [e2] at h
    |some m=>
     simp only [e2,Option.bind_some] at h
     cases hx with
     |agg h1 h2=>
      obtain ⟨v',hv,hr⟩:=part_run (w:=w) h1 h2 h
      refine ⟨v',?_,hr⟩
      unfold Instr.index
      rw [run_bind_ok (show (asIntOf (.int k i)).run J.P w=.ok (k,i) w from rfl)]
      dsimp only
      rw [run_bind_ok (run_underlying hu)]
      dsimp only
      rw [if_pos hb,run_bind_ok (run_sizeOf e2)]
      exact hv
   ·simp at h
  ·rename_i s hu
   split at h
   ·rename_i hb
    cases hx
    cases e2:s[i.toNat]? with
    |none=>simp [e2] at h
    |some b=>
     simp [e2] at h
     subst h
     refine ⟨_,?_,.int _ _⟩
     unfold Instr.index
     rw [run_bind_ok (show (asIntOf (.int k i)).run J.P w=.ok (k,i) w from rfl)]
     dsimp only
     rw [run_bind_ok (run_underlying hu)]
     dsimp only
     rw [if_pos hb,e2];rfl
   ·simp at h
  ·simp at h
 ·simp at h
end
section
variable {J:Env} {B:Bd} {ι:Emb} {H:IH} {w:World}
def ORel (ι:Emb) (n:Nat) (x y:Option Value):Prop:=
 match x,y with
 |none,none=>True
 |some a,some b=>VRel ι n a b
 |_,_=>False
theorem bound_run {n:Nat} {x y:Option Value} {d k:Nat} (hr:ORel ι n x y) (h:ibound x d=some k):
  (x=none∧y=none∧k=d)∨(∃kk,x=some (.int kk k)∧y=some (.int kk k)):=by
 cases x with
 |none=>
  cases y with
  |none=>simp [ibound] at h;exact .inl ⟨rfl,rfl,h.symm⟩
  |some b=>exact hr.elim
 |some a=>
  cases y with
  |none=>exact hr.elim
  |some b=>
   have hr:VRel ι n a b:=hr
   cases hr with
   |int kk i=>
    simp only [ibound] at h
    split at h
    ·rename_i h0
     simp only [Option.some.injEq] at h
     refine .inr ⟨kk,?_,?_⟩<;>rw [←h,Int.toNat_of_nonneg h0]
    ·simp at h
   |_=>simp [ibound] at h
theorem ibound_some (y:Value) (a b:Nat):ibound (some y) a=ibound (some y) b:=by cases y<;>rfl
theorem sliceBound_run {kk:IntKind} {k y:Nat} {code:BoundsCode} (h:k≤y):(Instr.sliceBound (.int kk k) y code).run J.P w=.ok k w:=by
 unfold Instr.sliceBound
 rw [run_bind_ok (show (asIntOf (.int kk k)).run J.P w=.ok (kk,(k:Int)) w from rfl)]
 dsimp only
 rw [if_pos (by omega)];simp
theorem sliceBounds_run {isSlice:Bool} {len cap l h m n:Nat} {lo hi mx lo' hi' mx':Option Value}
  (h1:ORel ι n lo lo') (h2:ORel ι n hi hi') (h3:ORel ι n mx mx') (hl:ibound lo 0=some l) (hh:ibound hi len=some h) (hm:ibound mx cap=some m)
  (hlh:l≤h) (hhm:h≤m) (hmc:m≤cap) (hmh:mx=none∨hi≠none):
  (Instr.sliceBounds isSlice len cap lo' hi' mx').run J.P w=.ok (l,h,m) w:=by
 unfold Instr.sliceBounds
 rcases bound_run h3 hm with ⟨rfl,rfl,rfl⟩|⟨k3,rfl,rfl⟩<;>rcases bound_run h2 hh with ⟨rfl,rfl,rfl⟩|⟨k2,rfl,rfl⟩<;>
  rcases bound_run h1 hl with ⟨rfl,rfl,rfl⟩|⟨k1,rfl,rfl⟩<;>dsimp only<;>
  first
   |(simp only [run_bind',run_pure,sliceBound_run hmc,sliceBound_run hhm,sliceBound_run hlh];done)
   |(simp at hmh;done)
theorem slice_run (hS:Sim J B ι H w) {t:TypeId} {x x' v:Value} {lo hi mx lo' hi' mx':Option Value} (hx:VRel ι H.next x x')
  (h1:ORel ι H.next lo lo') (h2:ORel ι H.next hi hi') (h3:ORel ι H.next mx mx') (h:islice J t x lo hi mx H=some v):
  ∃v',(Instr.sliceAt t x' lo' hi' mx').run J.P w=.ok v' w∧VRel ι H.next v v':=by
 unfold islice at h
 unfold Instr.sliceAt
 split at h
 ·rename_i s hu
  cases hx
  split at h
  ·rename_i l k hl hh
   split at h
   ·rename_i hb
    cases h
    refine ⟨_,?_,.string _⟩
    rw [run_bind_ok (run_underlying hu)]
    dsimp only
    unfold Instr.slice
    rw [run_bind_ok (run_underlying hu)]
    have e3:mx'=none:=by cases mx' with|none=>rfl|some _=>exact h3.elim
    subst e3
    dsimp only
    simp only [Option.isSome_none,Bool.false_eq_true,if_false]
    rw [run_bind_ok (sliceBounds_run (isSlice:=false) (mx:=none) (mx':=none) (m:=s.size) h1 h2 h3 hl hh rfl hb.1 hb.2 (Nat.le_refl _) (.inl rfl))]
    rfl
   ·simp at h
  ·simp at h
 ·rename_i e hu
  cases hx
  split at h
  ·rename_i n hl hh hm hz
   split at h
   ·rename_i hc
    cases h
    refine ⟨_,?_,.sliceN⟩
    rw [run_bind_ok (run_underlying hu)]
    dsimp only
    unfold Instr.slice
    rw [run_bind_ok (run_underlying hu)]
    dsimp only
    rw [run_bind_ok (sliceBounds_run h1 h2 h3 hl hh hm (Nat.le_refl _) (Nat.le_refl _) (Nat.le_refl _) (by cases mx<;>cases hi<;>simp_all))]
    dsimp only
    rw [run_bind_ok (run_sizeOf hz)]
    rfl
   ·simp at h
  ·simp at h
 ·rename_i e a len cap hu
  split at h
  ·rename_i l k m n hl hh hm hn
   split at h
   ·rename_i cs e' pr hb
    split at h
    ·rename_i hc
     obtain ⟨rfl,c1,c2,c3,c4,c5,c6⟩:=hc
     cases h
     obtain ⟨rc,re,fr,k0,k1,k2,k3,k4⟩:=hS.cells _ _ _ _ hb
     have hz:n=(ι a.block).esz:=by rw [k3] at hn;exact (Option.some.inj hn).symm
     have hmh:mx=none∨hi≠none:=by cases mx<;>cases hi<;>simp_all
     rw [run_bind_ok (run_underlying hu)]
     dsimp only
     have fin:∀(a':Addr) (c':Nat),x'=.slice (some a') len c'→(cap=c'∨cap=capU)→len≤c'→
       ∃m',(Instr.slice t x' lo' hi' mx').run J.P w=.ok (.slice (if m'=l then some a' else (some a').map (·.add (l*n))) (k-l) (m'-l)) w∧
        k≤m'∧m'≤c'∧((if m=capU then capU else m-l)=m'-l∨(if m=capU then capU else m-l)=capU):=by
      intro a' c' hx' hcc hle
      subst hx'
      have key:∃m',ibound mx c'=some m'∧k≤m'∧m'≤c'∧((if m=capU then capU else m-l)=m'-l∨(if m=capU then capU else m-l)=capU):=by
       cases mx with
       |none=>
        simp only [ibound,Option.some.injEq] at hm
        refine ⟨c',rfl,?_,Nat.le_refl _,?_⟩
        ·rcases hcc with e|e
         ·omega
         ·rcases c5 with q|q
          ·omega
          ·exact absurd e q
        ·rcases hcc with e|e
         ·subst e;subst hm
          by_cases q:cap=capU
          ·right;rw [if_pos q]
          ·left;rw [if_neg q]
         ·right;rw [if_pos (by omega)]
       |some y=>
        have hm':ibound (some y) c'=some m:=by rw [ibound_some y c' cap];exact hm
        refine ⟨m,hm',c2,?_,?_⟩
        ·rcases hcc with e|e
         ·omega
         ·rcases c6 with q|q|q
          ·omega
          ·simp at q
          ·exact absurd e q
        ·by_cases q:m=capU
         ·right;rw [if_pos q]
         ·left;rw [if_neg q]
      obtain ⟨m',q1,q2,q3,q4⟩:=key
      refine ⟨m',?_,q2,q3,q4⟩
      unfold Instr.slice
      rw [run_bind_ok (run_underlying hu)]
      dsimp only
      rw [run_bind_ok (sliceBounds_run h1 h2 h3 hl hh q1 c1 q2 q3 hmh)]
      dsimp only
      rw [run_bind_ok (run_sizeOf hn)]
      rfl
     cases hx with
     |slice ha hcc hle hs=>
      rename_i a' c'
      obtain ⟨m',q0,q1,q2,q3⟩:=fin a' c' rfl hcc hle
      refine ⟨_,q0,?_⟩
      by_cases e:m'=l
      ·rw [if_pos e]
       have e0:k-l=0:=by omega
       have e1:m'-l=0:=by omega
       rw [e0,e1]
       rw [e1] at q3
       exact .slice0 q3
      ·rw [if_neg e]
       simp only [Option.map_some]
       refine .slice (ha.add _) q3 (by omega) ?_
       have eb:(a.add (l*n)).block=a.block:=by unfold Addr.add;split<;>rfl
       have eo:(a'.add (l*n)).off=a'.off+l*n:=by unfold Addr.add;split<;>simp_all
       rw [eb,eo,hz]
       have:l*(ι a.block).esz+(m'-l)*(ι a.block).esz≤c'*(ι a.block).esz:=by
        rw [←Nat.add_mul];exact Nat.mul_le_mul_right _ (by omega)
       omega
     |slice0 hcc=>
      rename_i a'
      obtain ⟨m',q0,q1,q2,q3⟩:=fin a' 0 rfl hcc (Nat.le_refl _)
      refine ⟨_,q0,?_⟩
      have e:m'=l:=by omega
      rw [if_pos e]
      have e0:k-l=0:=by omega
      have e1:m'-l=0:=by omega
      rw [e0,e1]
      rw [e1] at q3
      exact .slice0 q3
    ·simp at h
   ·simp at h
  ·simp at h
 ·simp at h
/-! ### Literals -/
theorem foldl_set_rel {n:Nat} {off:Nat}:∀(us vs:List Value) (k:Nat) (xs ys:Array Value),LRel ι n us vs→LRel ι n xs.toList ys.toList→
  LRel ι n ((us.zipIdx k).foldl (fun cs (c,j)=>cs.setIfInBounds (off+j) c) xs).toList ((vs.zipIdx k).foldl (fun cs (c,j)=>cs.setIfInBounds (off+j) c) ys).toList:=by
 intro us
 induction us with
 |nil=>
  intro vs k xs ys h hx
  have:vs= []:=by have:=h.1;simpa using this.symm
  subst this;simpa using hx
 |cons u us ih=>
  intro vs k xs ys h hx
  cases vs with
  |nil=>have:=h.1;simp at this
  |cons v vs=>
   simp only [List.zipIdx_cons,List.foldl_cons]
   have h0:VRel ι n u v:=h.2 0 u v rfl rfl
   refine ih vs (k+1) _ _ ⟨by have:=h.1;simpa using this,fun i x y a b=>h.2 (i+1) x y (by simpa using a) (by simpa using b)⟩ ⟨by simpa using hx.1,fun i x y a b=>?_⟩
   simp only [Array.toList_setIfInBounds] at a b
   by_cases e:off+k=i
   ·subst e
    rw [List.getElem?_set] at a b
    simp only [if_true] at a b
    split at a
    ·split at b
     ·cases a;cases b;exact h0
     ·simp at b
    ·simp at a
   ·rw [List.getElem?_set_ne e] at a b
    exact hx.2 i x y a b
inductive PRel (ι:Emb) (n:Nat):List (Nat×Value)→List (Nat×Value)→Prop
 |nil:PRel ι n [] []
 |cons {p q:Nat×Value} {ps qs:List (Nat×Value)} (h:p.1=q.1∧VRel ι n p.2 q.2) (hs:PRel ι n ps qs):PRel ι n (p::ps) (q::qs)
theorem fill_rel {n:Nat} {place:Nat→Option (Nat×Nat)} {ps qs:List (Nat×Value)} (h:PRel ι n ps qs):∀{xs ys zs:Array Value},LRel ι n xs.toList ys.toList→Instr.fill place xs ps=some zs→
  ∃us,Instr.fill place ys qs=some us∧LRel ι n zs.toList us.toList:=by
 induction h with
 |nil=>intro xs ys zs hx hf;simp only [Instr.fill,Option.some.injEq] at hf ⊢;subst hf;exact ⟨ys,rfl,hx⟩
 |cons hpq hs ih=>
  rename_i p q ps qs
  obtain ⟨i,v⟩:=p
  obtain ⟨j,u⟩:=q
  obtain ⟨e,hv⟩:=hpq
  simp only at e hv
  subst e
  intro xs ys zs hx hf
  simp only [Instr.fill] at hf ⊢
  cases hp:place i with
  |none=>simp [hp] at hf
  |some os=>
   obtain ⟨off,size⟩:=os
   simp only [hp] at hf ⊢
   have e1:u.cells.size=v.cells.size:=by have:=hv.cells.1;simpa using this.symm
   have e2:ys.size=xs.size:=by have:=hx.1;simpa using this.symm
   rw [e1,e2]
   split at hf
   ·simp at hf
   ·rename_i hc
    rw [if_neg hc]
    refine ih ?_ hf
    rw [←Array.foldl_toList,←Array.foldl_toList,Array.toList_zipIdx,Array.toList_zipIdx]
    exact foldl_set_rel _ _ 0 _ _ hv.cells hx
theorem LRel.self {n:Nat} {xs:List Value} (h:∀x∈xs,VRel ι n x x):LRel ι n xs xs:=
 ⟨rfl,fun i x y hx hy=>by rw [hx] at hy;cases hy;exact h x (List.mem_of_getElem? hx)⟩
theorem flat_cells {n:Nat} {z:Value} (h:flat z=true):LRel ι n z.cells.toList z.cells.toList:=(VRel.ofFlat h).cells
theorem parts_rel {n:Nat} {T:Regs} {ρ:Operand→Value} (ps:Array (Nat×Operand)) (h:∀x∈ps.toList.map (·.2),VRel ι n (iev T x) (ρ x)):
  PRel ι n (iparts T ps) (ps.map fun (i,x)=>(i,ρ x)).toList:=by
 rw [Array.toList_map]
 unfold iparts
 generalize ps.toList=l at h ⊢
 induction l with
 |nil=>exact .nil
 |cons p l ih=>exact .cons ⟨rfl,h _ (by simp)⟩ (ih fun x hx=>h x (by simp at hx ⊢;exact .inr hx))
theorem mapM_places {α β:Type} {f:α→Option β} {g:α→Sem β} (hfg:∀a b,f a=some b→(g a).run J.P w=.ok b w):
  ∀(l:List α) (bs:List β),l.mapM f=some bs→(l.mapM g).run J.P w=.ok bs w:=by
 intro l
 induction l with
 |nil=>intro bs h;simp at h;subst h;rfl
 |cons a l ih=>
  intro bs h
  rw [List.mapM_cons] at h ⊢
  cases e:f a with
  |none=>simp [e] at h
  |some b=>
   cases e2:l.mapM f with
   |none=>simp [e,e2] at h
   |some cs=>
    simp [e,e2] at h
    subst h
    rw [run_bind_ok (hfg a b e),run_bind_ok (ih cs e2)];rfl
theorem run_map {α β:Type} {s:Sem α} {f:α→β} {a:α} {w':World} (h:s.run J.P w=.ok a w'):(f <$> s).run J.P w=.ok (f a) w':=by
 rw [map_eq_pure_bind,run_bind_ok h];rfl
theorem mapM_array {α β:Type} {f:α→Option β} {g:α→Sem β} (hfg:∀a b,f a=some b→(g a).run J.P w=.ok b w) (xs:Array α) (bs:Array β) (h:xs.mapM f=some bs):
  (xs.mapM g).run J.P w=.ok bs w:=by
 rw [Array.mapM_eq_mapM_toList] at h ⊢
 cases e:xs.toList.mapM f with
 |none=>simp [e] at h
 |some cs=>
  simp [e] at h
  subst h
  exact run_map (mapM_places hfg xs.toList cs e)
theorem build_run {t:TypeId} {n:Nat} {ps:List (Nat×Value)} {qs:Array (Nat×Value)} {v:Value} (hp:PRel ι n ps qs.toList) (h:ibuild J t ps=some v):
  ∃v',(Instr.build t qs).run J.P w=.ok v' w∧VRel ι n v v':=by
 unfold ibuild at h
 unfold Instr.build
 split at h
 ·rename_i z fs hz hu
  obtain ⟨z1,z2⟩:=run_zeroValue (w:=w) hz
  split at h
  ·rename_i pl hpl
   cases e:Instr.fill (pl[·]?) z.cells ps with
   |none=>simp [e] at h
   |some cs=>
    simp [e] at h
    subst h
    obtain ⟨us,h1,h2⟩:=fill_rel hp (flat_cells (ι:=ι) (n:=n) z2) e
    refine ⟨.agg us,?_,.agg (by simpa using h2.1) fun i x y hx hy=>h2.2 i x y (by simpa using hx) (by simpa using hy)⟩
    rw [run_bind_ok z1,run_bind_ok (run_underlying hu)]
    dsimp only
    rw [run_bind_ok (mapM_array (f:=fun f=>(J.size f.type).map fun n=>(f.offset,n)) (fun f b hf=>by
     cases e2:J.size f.type with
     |none=>simp [e2] at hf
     |some k=>simp [e2] at hf;subst hf;rw [run_bind_ok (run_sizeOf e2)];rfl) fs pl hpl)]
    rw [h1];rfl
  ·simp at h
 ·rename_i z len e hz hu
  obtain ⟨z1,z2⟩:=run_zeroValue (w:=w) hz
  split at h
  ·rename_i k hk
   cases e:Instr.fill (fun i=>some (i*k,k)) z.cells ps with
   |none=>simp [e] at h
   |some cs=>
    simp [e] at h
    subst h
    obtain ⟨us,h1,h2⟩:=fill_rel hp (flat_cells (ι:=ι) (n:=n) z2) e
    refine ⟨.agg us,?_,.agg (by simpa using h2.1) fun i x y hx hy=>h2.2 i x y (by simpa using hx) (by simpa using hy)⟩
    rw [run_bind_ok z1,run_bind_ok (run_underlying hu)]
    dsimp only
    rw [run_bind_ok (run_sizeOf hk),h1];rfl
  ·simp at h
 ·simp at h
theorem flat_pattern {n k:Nat} {z:Value} (h:flat z=true):LRel ι n ((List.range k).map (z.cells[· %z.cells.size]!)) ((List.range k).map (z.cells[· %z.cells.size]!)):=by
 refine LRel.self fun x hx=>?_
 obtain ⟨i,_,rfl⟩:=List.mem_map.1 hx
 have hc:=(VRel.ofFlat (ι:=ι) (n:=n) h).cells
 by_cases hi:i%z.cells.size<z.cells.size
 ·rw [getElem!_pos z.cells _ hi]
  exact hc.2 (i%z.cells.size) _ _ (by simp [hi]) (by simp [hi])
 ·rw [getElem!_neg z.cells _ hi]
  exact .bool false
theorem PRel.length {n:Nat} {ps qs:List (Nat×Value)} (h:PRel ι n ps qs):ps.length=qs.length:=by
 induction h with
 |nil=>rfl
 |cons _ _ ih=>simp [ih]
theorem buildSlice_run (hS:Sim J B ι H w) {t:TypeId} {len:Nat} {ps:List (Nat×Value)} {qs:Array (Nat×Value)} {v:Value} {H':IH} (hp:PRel ι H.next ps qs.toList)
  (h:ibuildSlice J t len ps H=some (v,H')):
  ∃v' w' ι',(Instr.buildSlice t len qs).run J.P w=.ok v' w'∧Sim J B ι' H' w'∧VRel ι' H'.next v v'∧Ext ι H.next ι' H'.next∧Below B w w':=by
 unfold ibuildSlice at h
 split at h
 ·rename_i e hu
  split at h
  ·rename_i n z hn hz
   obtain ⟨z1,z2⟩:=run_zeroValue (w:=w) hz
   split at h
   ·rename_i hlim
    split at h
    ·rename_i cs hf
     split at h
     ·rename_i hcs
      simp only [Option.some.injEq,Prod.mk.injEq] at h
      obtain ⟨rfl,rfl⟩:=h
      have hbase:LRel ι H.next (((Array.range (len*n)).map (z.cells[· %z.cells.size]!))).toList (((Array.range (len*n)).map (z.cells[· %z.cells.size]!))).toList:=by
       simpa using flat_pattern (ι:=ι) (n:=H.next) (k:=len*n) z2
      obtain ⟨us,h1,h2⟩:=fill_rel hp hbase hf
      obtain ⟨r1,r2,r3,r4⟩:=new_run hS (e:=e) hn h2
      refine ⟨.slice (some ⟨w.heap.size,0,none⟩) len len,_,_,?_,r2,?_,r3,r4⟩
      ·unfold Instr.buildSlice
       rw [run_bind_ok (run_underlying hu)]
       dsimp only
       rw [run_bind_ok (run_sizeOf hn),if_neg (by omega)]
       by_cases e0:len*n=0
       ·rw [if_pos e0]
        rw [run_bind_ok (run_pure _)]
        have:(Array.range (len*n)).map (fun x=>(#[]:Array Value)[x%(#[]:Array Value).size]!)=(Array.range (len*n)).map (z.cells[· %z.cells.size]!):=by simp [e0]
        rw [this,h1]
        dsimp only
        rw [run_bind_ok r1];rfl
       ·rw [if_neg e0]
        rw [run_bind_ok z1,run_bind_ok (run_pure _),h1]
        dsimp only
        rw [run_bind_ok r1];rfl
      ·refine .slice ⟨rfl,by simp,?_⟩ (.inl rfl) (Nat.le_refl _) ?_
       ·simp [upd_eq]
       ·simp only [upd_eq]
        have hl:=h2.1
        simp at hl
        omega
     ·simp at h
    ·simp at h
   ·simp at h
  ·simp at h
 ·simp at h
theorem wrap_in {n:Int} (h0:0≤n) (h1:n<2^63):IntKind.i64.wrap n=n:=by
 have e:n%2^64=n:=Int.emod_eq_of_lt h0 (by omega)
 simp only [IntKind.wrap,IntKind.bits,IntKind.signed,e,Bool.true_and,decide_eq_true_eq]
 rw [if_neg (by omega)]
theorem makeSlice_run (hS:Sim J B ι H w) {t:TypeId} {l c l' c' v:Value} {H':IH} (hl:VRel ι H.next l l') (hc:VRel ι H.next c c') (h:imakeSlice J t l c H=some (v,H')):
  ∃v' w' ι',(Instr.makeSlice t l' c').run J.P w=.ok v' w'∧Sim J B ι' H' w'∧VRel ι' H'.next v v'∧Ext ι H.next ι' H'.next∧Below B w w':=by
 unfold imakeSlice at h
 split at h
 ·rename_i e k1 l k2 c hu
  cases hl
  cases hc
  split at h
  ·rename_i n z by_ hn hz hb
   obtain ⟨z1,z2⟩:=run_zeroValue (w:=w) hz
   split at h
   ·rename_i hlim
    obtain ⟨g1,g2,g3,g4⟩:=hlim
    simp only [Option.some.injEq,Prod.mk.injEq] at h
    obtain ⟨rfl,rfl⟩:=h
    have hv:LRel ι H.next ((List.range (c.toNat*n)).map (z.cells[· %z.cells.size]!)) ((Array.range (c.toNat*n)).map (z.cells[· %z.cells.size]!)).toList:=by
     simpa using flat_pattern (ι:=ι) (n:=H.next) (k:=c.toNat*n) z2
    obtain ⟨r1,r2,r3,r4⟩:=new_run hS (e:=e) hn hv
    obtain ⟨inf,hi,hb⟩:=J.bytes_ok hb
    have wl:IntKind.i64.wrap l=l:=wrap_in g1 (by omega)
    have wc:IntKind.i64.wrap c=c:=wrap_in (by omega) g3
    refine ⟨.slice (some ⟨w.heap.size,0,none⟩) l.toNat c.toNat,_,_,?_,r2,?_,r3,r4⟩
    ·unfold Instr.makeSlice
     rw [run_bind_ok (run_underlying hu)]
     dsimp only
     rw [run_bind_ok (show (asInt (.int k1 l)).run J.P w=.ok l w from rfl),run_bind_ok (show (asInt (.int k2 c)).run J.P w=.ok c w from rfl),run_bind_ok (run_info hi)]
     rw [hb,wl,wc]
     have hcond:¬((decide (c<0)||decide ((by_:Int)*c>2^48)||decide (l<0)||decide (l>c))=true):=by
      simp only [Bool.or_eq_true,decide_eq_true_eq,not_or]
      omega
     rw [if_neg hcond]
     have hroom:(askRoom (c.toNat*by_)).run J.P w=.ok () w:=by
      unfold askRoom
      by_cases q:c.toNat*by_>roomBytes
      ·rw [if_pos q];rfl
      ·rw [if_neg q];rfl
     rw [run_bind_ok hroom,run_bind_ok (run_sizeOf hn)]
     by_cases e0:c.toNat*n=0
     ·rw [if_pos e0]
      rw [run_bind_ok (run_pure _)]
      have:(Array.range (c.toNat*n)).map (fun x=>(#[]:Array Value)[x%(#[]:Array Value).size]!)=(Array.range (c.toNat*n)).map (z.cells[· %z.cells.size]!):=by simp [e0]
      rw [this,run_bind_ok r1];rfl
     ·rw [if_neg e0]
      rw [run_bind_ok z1,run_bind_ok (run_pure _),run_bind_ok r1];rfl
    ·refine .slice ⟨rfl,by simp,by simp [upd_eq]⟩ (.inl rfl) (by omega) ?_
     simp only [upd_eq,Array.size_map,Array.size_range]
     omega
   ·simp at h
  ·simp at h
 ·simp at h
end
section
variable {J:Env} {B:Bd} {ι:Emb} {H:IH} {w:World}
theorem lenOf_run {n k:Nat} {x x':Value} (hx:VRel ι n x x') (h:ilenOf x=some k):(Builtin.lenOf x').run J.P w=.ok k w:=by
 cases hx<;>simp [ilenOf] at h<;>subst h<;>rfl
theorem extract_toList (s:ByteArray) (n:Nat):(s.extract 0 n).data.toList=s.data.toList.take n:=by
 simp [ByteArray.data_extract]
theorem first_run (hS:Sim J B ι H w) {size n:Nat} {x x':Value} {cs:List Value} (hx:VRel ι H.next x x') (hn:∀m,ilenOf x=some m→n≤m) (h:ifirst H size n x=some cs):
  ∃rs:Array Value,(Builtin.firstCells size n x').run J.P w=.ok rs w∧LRel ι H.next cs rs.toList:=by
 cases hx with
 |slice ha hc hl hs=>
  obtain ⟨rs,h1,h2,_⟩:=icells_run hS ha h
  exact ⟨rs,h1,h2⟩
 |slice0 hc=>
  have:n=0:=by have:=hn 0 rfl;omega
  subst this
  simp only [ifirst,Nat.zero_mul] at h
  refine ⟨#[],by simp [Builtin.firstCells,loadCells,loadCellsFrom],?_⟩
  unfold icells at h
  split at h
  ·split at h
   ·simp at h;subst h;exact .nil
   ·simp at h
  ·simp at h
 |sliceN=>
  simp [ifirst] at h
  subst h
  exact ⟨#[],rfl,.nil⟩
 |string s=>
  simp [ifirst] at h
  subst h
  refine ⟨_,rfl,?_⟩
  rw [Array.toList_map,extract_toList,List.map_take,bytesCells]
  refine LRel.self fun x hx=>?_
  have:=List.mem_of_mem_take hx
  obtain ⟨b,_,rfl⟩:=List.mem_map.1 this
  exact .int _ _
 |_=>simp [ifirst] at h
theorem grow4 (need:Nat):∀(r c:Nat),c≤2*need+256→Builtin.growBy need r c≤2*need+256:=by
 intro r
 induction r with
 |zero=>intro c h;exact h
 |succ r ih=>
  intro c h
  simp only [Builtin.growBy]
  split
  ·exact h
  ·exact ih _ (by omega)
theorem nextcap_le {need old:Nat} (h:old<need):Builtin.nextslicecap need old≤2*need+256:=by
 unfold Builtin.nextslicecap
 split
 ·omega
 ·split
  ·omega
  ·exact grow4 _ _ _ (by omega)
theorem zeroCells_size (z:Array Value) (k:Nat):(Builtin.zeroCells z k).size=k*z.size:=by simp [Builtin.zeroCells]
theorem append_grow (hS:Sim J B ι H w) {at_:Array TypeId} {st xt e:TypeId} {d:TypeDesc} {size by_ n len cap:Nat} {z x':Value} {base:Option Addr} {ty:TypeId}
  (ha0:at_[0]?=some st) (ha1:at_[1]?=some xt) (hu:J.und st=some (.slice e)) (hxt:J.und xt=some d) (hd:∀k,d≠.int k)
  (hsz:J.size e=some size) (hby:J.bytes e=some by_) (hz:J.zero e=some z) (hzs:z.cells.size=size)
  (hlen:∀w1:World,(Builtin.lenOf x').run J.P w1=.ok n w1) (hneed:cap<len+n) (hb1:(len+n)*(3*by_)≤2^47) (hb2:0<by_) (hb3:by_≤2^30)
  {oldL new:List Value} (holdl:oldL.length=len*size) (hnewl:new.length=n*size)
  (hold:∀w1:World,w1.heap=w.heap→∃rs:Array Value,(Builtin.firstCells size len (.slice base len cap)).run J.P w1=.ok rs w1∧LRel ι H.next oldL rs.toList)
  (hnew:∀w1:World,w1.heap=w.heap→∃rs:Array Value,(Builtin.firstCells size n x').run J.P w1=.ok rs w1∧LRel ι H.next new rs.toList):
  ∃v' w' ι',(Builtin.append_ at_ ty #[.slice base len cap,x']).run J.P w=.ok v' w'∧Sim J B ι' (H.push (.cells (oldL++new) e false)) w'∧
   VRel ι' (H.next+1) (.slice (some ⟨H.next,0,none⟩) (len+n) capU) v'∧Ext ι H.next ι' (H.next+1)∧Below B w w':=by
 obtain ⟨z1,z2⟩:=run_zeroValue (w:={ w with drawn:=w.drawn+1 }) hz
 obtain ⟨olds,o1,o2⟩:=hold { w with drawn:=w.drawn+1 } rfl
 obtain ⟨news,n1,n2⟩:=hnew { w with drawn:=w.drawn+1 } rfl
 obtain ⟨inf,hi,hby⟩:=J.bytes_ok hby
 let newCap:=(Question.appendCap (len+n) cap e).cut (w.tape w.drawn (.appendCap (len+n) cap e))
 have hcap:len+n≤newCap:=by show _≤(len+n)+_;omega
 let row:Array Value:=olds++news++Builtin.zeroCells z.cells (newCap-(len+n))
 let w1:World:={ w with drawn:=w.drawn+1 }
 have hS1:Sim J B ι H w1:=hS.of_heap rfl
 have hrow:row.size=len*size+n*size+(newCap-(len+n))*size:=by
  simp only [row,Array.size_append,zeroCells_size,hzs]
  have h1:=o2.1
  have h2:=n2.1
  simp at h1 h2
  omega
 obtain ⟨q1,q2⟩:=hS1.push (w':={ w1 with heap:=w1.heap.push (.cells row e) }) (.cells (oldL++new) e false) (.cells row e) size row.size rfl
  (fun cs' e' pr' hx=>by
   cases hx
   refine ⟨row,_,rfl,fun i v hi=>?_,rfl,hsz,.inr (Nat.le_refl _)⟩
   obtain ⟨y,hy,hr⟩:=(o2.append n2).get hi
   refine ⟨y,?_,hr⟩
   have hlt:i<(olds++news).size:=by
    have:=(List.getElem?_eq_some_iff.1 hy).1
    simpa using this
   show (olds++news++_)[i]?=some y
   rw [Array.getElem?_append_left hlt]
   rw [←Array.getElem?_toList];simpa using hy)
  (fun _ _ hx=>by cases hx) (fun _ _ hx=>by cases hx)
 refine ⟨.slice (some ⟨w.heap.size,0,none⟩) (len+n) newCap,{ w1 with heap:=w1.heap.push (.cells row e) },_,?_,q1,?_,q2,?_⟩
 ·unfold Builtin.append_
  have hzero:(match d with| .int _=>true|_=>false)=false:=by cases d<;>first|rfl|exact absurd rfl (hd _)
  simp only [ha0,ha1]
  simp only [List.getElem?_toArray,List.getElem?_cons_zero,List.getElem?_cons_succ]
  rw [run_bind_ok (run_underlying hu)]
  dsimp only
  rw [run_bind_ok (run_sizeOf hsz),run_bind_ok (run_underlying hxt),run_bind_ok (run_pure _)]
  have hbig:Builtin.nextslicecap (len+n) cap*inf.bytes≤2^48:=by
   have h1:=nextcap_le hneed
   rw [hby]
   have h2:Builtin.nextslicecap (len+n) cap*by_≤(2*(len+n)+256)*by_:=Nat.mul_le_mul_right _ h1
   have h3:(2*(len+n)+256)*by_=2*((len+n)*by_)+256*by_:=by rw [Nat.add_mul,Nat.mul_assoc]
   have h4:(len+n)*(3*by_)=3*((len+n)*by_):=by rw [Nat.mul_left_comm]
   omega
  have hroom:∀k (w1:World),(askRoom k).run J.P w1=.ok () w1:=fun k w1=>by
   unfold askRoom
   by_cases q:k>roomBytes
   ·rw [if_pos q];rfl
   ·rw [if_neg q];rfl
  have hch:(choose (.appendCap (len+n) cap e)).run J.P w=.ok newCap w1:=by
   simp [choose,Sem.run,Question.forced,newCap,w1]
  cases d<;>first
   |exact absurd rfl (hd _)
   |(simp only [Bool.false_eq_true,if_false,Bool.not_false,if_true,false_or]
     rw [run_bind_ok (hlen _),if_neg (by omega),run_bind_ok (run_info hi),if_neg (by rw [hby];omega),run_bind_ok (run_info hi),if_neg (by omega),run_bind_ok hch,
      run_bind_ok (run_info hi),run_bind_ok (hroom _ _),run_bind_ok o1,run_bind_ok n1,run_bind_ok z1]
     rfl)
 ·refine .slice ⟨rfl,by simp,by simp [upd_eq,w1]⟩ (.inr rfl) hcap ?_
  simp only [upd_eq,hrow]
  have:newCap*size=len*size+n*size+(newCap-(len+n))*size:=by rw [←Nat.add_mul,←Nat.add_mul];congr 1;omega
  omega
 ·exact (below_drawn _).trans (below_push _ hS1.base)
theorem append_room {at_:Array TypeId} {st xt e:TypeId} {d:TypeDesc} {size n len cap:Nat} {x':Value} {a:Addr} {ty:TypeId} {w':World}
  (ha0:at_[0]?=some st) (ha1:at_[1]?=some xt) (hu:J.und st=some (.slice e)) (hxt:J.und xt=some d) (hd:∀k,d≠.int k)
  (hsz:J.size e=some size) (hlen:(Builtin.lenOf x').run J.P w=.ok n w) (hneed:len+n≤cap) {rs:Array Value}
  (hnew:(Builtin.firstCells size n x').run J.P w=.ok rs w) (hst:(storeCells (a.add (len*size)) rs.toList).run J.P w=.ok () w'):
  (Builtin.append_ at_ ty #[.slice (some a) len cap,x']).run J.P w=.ok (.slice (some a) (len+n) cap) w':=by
 unfold Builtin.append_
 simp only [ha0,ha1]
 simp only [List.getElem?_toArray,List.getElem?_cons_zero,List.getElem?_cons_succ]
 rw [run_bind_ok (run_underlying hu)]
 dsimp only
 rw [run_bind_ok (run_sizeOf hsz),run_bind_ok (run_underlying hxt),run_bind_ok (run_pure _)]
 cases d<;>first
  |exact absurd rfl (hd _)
  |(simp only [Bool.false_eq_true,if_false,Bool.not_false,if_true]
    rw [run_bind_ok hlen,if_pos hneed,run_bind_ok hnew,run_bind_ok hst]
    rfl)
theorem append_zero {at_:Array TypeId} {st xt e:TypeId} {d:TypeDesc} {size len cap:Nat} {x':Value} {base:Option Addr} {ty:TypeId}
  (ha0:at_[0]?=some st) (ha1:at_[1]?=some xt) (hu:J.und st=some (.slice e)) (hxt:J.und xt=some d) (hd:∀k,d≠.int k)
  (hsz:J.size e=some size) (hlen:(Builtin.lenOf x').run J.P w=.ok 0 w) (hneed:len≤cap) {rs:Array Value}
  (hnew:(Builtin.firstCells size 0 x').run J.P w=.ok rs w) (hrs:rs.toList= []):
  (Builtin.append_ at_ ty #[.slice base len cap,x']).run J.P w=.ok (.slice base len cap) w:=by
 unfold Builtin.append_
 simp only [ha0,ha1]
 simp only [List.getElem?_toArray,List.getElem?_cons_zero,List.getElem?_cons_succ]
 rw [run_bind_ok (run_underlying hu)]
 dsimp only
 rw [run_bind_ok (run_sizeOf hsz),run_bind_ok (run_underlying hxt),run_bind_ok (run_pure _)]
 cases d<;>first
  |exact absurd rfl (hd _)
  |(simp only [Bool.false_eq_true,if_false,Bool.not_false,if_true]
    rw [run_bind_ok hlen,if_pos (by omega),run_bind_ok hnew]
    cases base with
    |none=>rfl
    |some a=>dsimp only;rw [hrs];rfl)
theorem first_zero {size:Nat} {x x':Value} {k n:Nat} (hx:VRel ι n x x') (hk:ilenOf x=some k):(Builtin.firstCells size 0 x').run J.P w=.ok #[] w:=by
 cases hx with
 |slice=>simp [Builtin.firstCells,loadCells,loadCellsFrom]
 |slice0=>simp [Builtin.firstCells,loadCells,loadCellsFrom]
 |sliceN=>rfl
 |string s=>
  have:(s.extract 0 0).data.toList= []:=by rw [extract_toList];rfl
  show Result.ok _ w=_
  congr 1
  rw [←Array.toList_inj,Array.toList_map,this];rfl
 |_=>simp [ilenOf] at hk
theorem append_run (hS:Sim J B ι H w) {at_:Array TypeId} {ty:TypeId} {s s' x x' v:Value} {H':IH} (hs:VRel ι H.next s s') (hx:VRel ι H.next x x')
  (h:iappend J at_ s x H=some (v,H')):
  ∃v' w' ι',(Builtin.append_ at_ ty #[s',x']).run J.P w=.ok v' w'∧Sim J B ι' H' w'∧VRel ι' H'.next v v'∧Ext ι H.next ι' H'.next∧Below B w w':=by
 unfold iappend at h
 split at h
 case h_2=>simp at h
 rename_i st xt ha0 ha1
 split at h
 case h_1=>simp at h
 case h_3=>simp at h
 rename_i e d hnint hu hxt
 have hd:∀k,d≠.int k:=fun k hk=>by subst hk;exact hnint k rfl
 split at h
 case h_2=>simp at h
 rename_i size by_ z base len cap n hsz hby hz hlx
 have hlen:=fun w1:World=>lenOf_run (J:=J) (w:=w1) hx hlx
 split at h
 ·rename_i h0
  subst h0
  simp only [Option.some.injEq,Prod.mk.injEq] at h
  obtain ⟨rfl,rfl⟩:=h
  have fin:∀b' c',s'=.slice b' len c'→len≤c'→∃v' w' ι',(Builtin.append_ at_ ty #[s',x']).run J.P w=.ok v' w'∧Sim J B ι' H w'∧VRel ι' H.next (.slice base len cap) v'∧Ext ι H.next ι' H.next∧Below B w w':=by
   intro b' c' e1 e2
   subst e1
   exact ⟨_,w,ι,append_zero ha0 ha1 hu hxt hd hsz (hlen w) e2 (first_zero hx hlx) rfl,hS,hs,Ext.refl _ _,Below.refl _ _⟩
  cases hs with
  |sliceN=>exact fin _ _ rfl (Nat.le_refl _)
  |slice _ _ hl _=>exact fin _ _ rfl hl
  |slice0 _=>exact fin _ _ rfl (Nat.le_refl _)
 ·rename_i hn0
  split at h
  case isFalse=>simp at h
  rename_i hb
  obtain ⟨hb1,hb2,hb3,hzs⟩:=hb
  split at h
  case h_2=>simp at h
  rename_i new hnew0
  have hnew:∀w1:World,w1.heap=w.heap→∃rs:Array Value,(Builtin.firstCells size n x').run J.P w1=.ok rs w1∧LRel ι H.next new rs.toList:=fun w1 hw1=>
   first_run (hS.of_heap hw1) hx (fun m hm=>by rw [hlx] at hm;cases hm;exact Nat.le_refl _) hnew0
  split at h
  ·split at h
   ·rename_i hc
    obtain ⟨rfl,rfl,hnl⟩:=hc
    simp only [Option.some.injEq,Prod.mk.injEq] at h
    obtain ⟨rfl,rfl⟩:=h
    cases hs
    have:=append_grow hS (ty:=ty) (oldL:=[]) (base:=none) (len:=0) (cap:=0) ha0 ha1 hu hxt hd hsz hby hz hzs hlen (by omega) hb1 hb2 hb3 (by simp) hnl (fun w1 _=>⟨#[],rfl,.nil⟩) hnew
    simpa using this
   ·simp at h
  ·rename_i a
   split at h
   case h_2=>simp at h
   rename_i cs e' pr hblk
   split at h
   case isFalse=>simp at h
   rename_i hc
   obtain ⟨c1,c2,rfl,c4,c5⟩:=hc
   obtain ⟨rc,re,fr,k0,k1,k2,k3,k4⟩:=hS.cells _ _ _ _ hblk
   have hesz:size=(ι a.block).esz:=by rw [k3] at hsz;exact (Option.some.inj hsz).symm
   have holdc:icells H a (len*size)=some ((cs.drop a.off).take (len*size)):=by unfold icells;rw [hblk];simp [c1,c2]
   have hol:((cs.drop a.off).take (len*size)).length=len*size:=by simp;omega
   have grow:∀(H1:IH) (c':Nat) (a':Addr),H1.next=H.next→Sim J B ι H1 w→s'=.slice (some a') len c'→(ARel ι H.next a a'∨len=0)→c'<len+n→
     ∃v' w' ι',(Builtin.append_ at_ ty #[s',x']).run J.P w=.ok v' w'∧Sim J B ι' (H1.push (.cells ((cs.drop a.off).take (len*size)++new) e' false)) w'∧
      VRel ι' (H1.next+1) (.slice (some ⟨H1.next,0,none⟩) (len+n) capU) v'∧Ext ι H1.next ι' (H1.next+1)∧Below B w w':=by
    intro H1 c' a' hn1 hS1 hs' har hlt
    subst hs'
    refine append_grow hS1 ha0 ha1 hu hxt hd hsz hby hz hzs hlen hlt hb1 hb2 hb3 hol c5 (fun w1 hw1=>?_) (by rw [hn1];exact hnew)
    rw [hn1]
    rcases har with har|h0
    ·obtain ⟨rs,r1,r2,_⟩:=icells_run (hS.of_heap hw1) har holdc
     exact ⟨rs,r1,r2⟩
    ·subst h0
     refine ⟨#[],by simp [Builtin.firstCells,loadCells,loadCellsFrom],by simpa using LRel.nil⟩
   split at h
   ·rename_i hcu
    subst hcu
    split at h
    ·simp at h
    ·rename_i hpr
     simp only [Bool.or_eq_true,not_or,Bool.not_eq_true,bne_iff_ne,ne_eq,Decidable.not_not] at hpr
     obtain ⟨hpr,hoff⟩:=hpr
     subst hpr
     obtain ⟨⟨rc0,fr0,g0⟩,gd⟩:=hS.rows _ _ _ hblk
     have ge:e'=re:=by rw [k0] at g0;cases g0;rfl
     subst ge
     obtain ⟨k5,k6⟩:=k4 rfl
     simp only [Option.some.injEq,Prod.mk.injEq] at h
     obtain ⟨rfl,rfl⟩:=h
     cases hs with
     |slice0 hcc=>
      rename_i a'
      exact grow (H.set a.block .dead) 0 a' rfl (hS.kill hblk) rfl (.inr rfl) (by omega)
     |slice ha hcc hle hsz'=>
      rename_i a' c'
      by_cases hroom:len+n≤c'
      ·obtain ⟨rs,r1,r2⟩:=hnew w rfl
       obtain ⟨ha1',ha2',rfl⟩:=ha
       have hrl:rs.toList.length=n*size:=by rw [←r2.1];exact c5
       have hfit:(ι a.block).ro+a.off+len*size+rs.toList.length≤rc.size:=by
        rw [hrl]
        have e1:len*size+n*size≤c'*(ι a.block).esz:=by rw [←Nat.add_mul,hesz];exact Nat.mul_le_mul_right _ hroom
        simp only at hsz'
        omega
       have hplain:rs.toList.all plain1=true:=r2.mem_all (fun x y h hx=>h.plain hx) c4
       have hst:=run_storeCells (P:=J.P) (o:=(ι a.block).ro+a.off+len*size) rs.toList 0 w rc k0 (by omega) k6 hplain
       have hrun:=append_room (ty:=ty) ha0 ha1 hu hxt hd hsz (hlen w) hroom r1 (show (storeCells ((⟨(ι a.block).rb,(ι a.block).ro+a.off,none⟩:Addr).add (len*size)) rs.toList).run J.P w=_ by rw [add_plain];exact hst)
       have hov:(overlay rc.toList ((ι a.block).ro+a.off+len*size+0) rs.toList).length=rc.size:=by rw [overlay_length _ _ _ (by simp at hrl ⊢;omega)];simp
       obtain ⟨q1,q2⟩:=Sim.regrow hS hblk rfl ((cs.drop a.off).take (len*size)++new) e' ((ι a.block).ro+a.off)
        (overlay rc.toList ((ι a.block).ro+a.off+len*size+0) rs.toList).toArray fr (Nat.dvd_add gd (by rw [←hesz];exact Nat.dvd_of_mod_eq_zero hoff)) (wput_heap _ _ _) k5 k3 (by rw [List.size_toArray,hov,k2]) (by rw [List.size_toArray,hov];exact k6)
        (fun i v hv=>by
         simp only [List.getElem?_toArray]
         rw [overlay_get _ _ _ (by simp at hrl ⊢;omega)]
         by_cases hi:i<len*size
         ·rw [List.getElem?_append_left (by omega),List.getElem?_take,if_pos hi,List.getElem?_drop] at hv
          obtain ⟨v',hv',hr⟩:=k1 _ _ hv
          refine ⟨v',?_,hr⟩
          rw [if_neg (by omega)]
          rw [←Nat.add_assoc] at hv'
          simpa using hv'
         ·rw [List.getElem?_append_right (by omega),hol] at hv
          obtain ⟨y,hy,hr⟩:=r2.get hv
          refine ⟨y,?_,hr⟩
          have:=(List.getElem?_eq_some_iff.1 hy).1
          rw [if_pos (by omega),show (ι a.block).ro+a.off+i-((ι a.block).ro+a.off+len*size+0)=i-len*size by omega]
          exact hy)
       refine ⟨_,_,_,hrun,q1,.slice ⟨rfl,by simp,by simp [upd_eq]⟩ (.inr rfl) hroom ?_,q2,below_wput _ k5⟩
       simpa [upd_eq] using hsz'
      ·exact grow (H.set a.block .dead) c' a' rfl (hS.kill hblk) rfl (.inl ha) (by omega)
   ·rename_i hcu
    split at h
    ·rename_i hroom
     cases hp:iput H (a.add (len*size)) new with
     |none=>simp [hp] at h
     |some H2=>
      simp only [hp,Option.map_some,Option.some.injEq,Prod.mk.injEq] at h
      obtain ⟨rfl,rfl⟩:=h
      cases hs with
      |slice0 hcc=>exact absurd hcc (by omega)
      |slice ha hcc hle hsz'=>
       rename_i a' c'
       have hcc:cap=c':=hcc.resolve_right hcu
       subst hcc
       obtain ⟨rs,r1,r2⟩:=hnew w rfl
       obtain ⟨w',p1,p2,p3,p4⟩:=iput_run hS (ha.add (len*size)) r2 hp
       refine ⟨_,w',ι,append_room ha0 ha1 hu hxt hd hsz (hlen w) hroom r1 p1,p2,?_,?_,p3⟩
       ·rw [p4];exact .slice ha (.inl rfl) hroom hsz'
       ·rw [p4];exact Ext.refl _ _
    ·rename_i hroom
     simp only [Option.some.injEq,Prod.mk.injEq] at h
     obtain ⟨rfl,rfl⟩:=h
     cases hs with
     |slice0 hcc=>
      rename_i a'
      exact grow H 0 a' rfl hS rfl (.inr rfl) (by omega)
     |slice ha hcc hle hsz'=>
      rename_i a' c'
      have hcc:cap=c':=hcc.resolve_right hcu
      exact grow H c' a' rfl hS rfl (.inl ha) (by omega)
end
section
variable {J:Env} {B:Bd} {ι:Emb} {H:IH} {w:World}
theorem copy_run (hS:Sim J B ι H w) {at_:Array TypeId} {ty:TypeId} {d d' x x' v:Value} {H':IH} (hdst:VRel ι H.next d d') (hx:VRel ι H.next x x')
  (h:icopy J at_ d x H=some (v,H')):
  ∃v' w' ι',(Builtin.copy_ at_ ty #[d',x']).run J.P w=.ok v' w'∧Sim J B ι' H' w'∧VRel ι' H'.next v v'∧Ext ι H.next ι' H'.next∧Below B w w':=by
 unfold icopy at h
 split at h
 case h_2=>simp at h
 rename_i dt hat
 split at h
 case h_2=>simp at h
 rename_i e hu
 split at h
 case h_2=>simp at h
 rename_i size base len cap m hsz hlx
 have hlen:=lenOf_run (J:=J) (w:=w) hx hlx
 split at h
 case h_2=>simp at h
 rename_i cs hcs
 obtain ⟨rs,r1,r2⟩:=first_run hS hx (fun k hk=>by rw [hlx] at hk;cases hk;exact Nat.min_le_left _ _) hcs
 have start:∀(b':Option Addr) (c':Nat) (w':World),d'=.slice b' len c'→(match b' with|some a=>storeCells a rs.toList|none=>pure ():Sem Unit).run J.P w=.ok () w'→
   (Builtin.copy_ at_ ty #[d',x']).run J.P w=.ok (.int .i64 (Nat.min m len)) w':=by
  intro b' c' w' hd' hst
  subst hd'
  unfold Builtin.copy_
  simp only [hat,List.getElem?_toArray,List.getElem?_cons_zero,List.getElem?_cons_succ]
  rw [run_bind_ok (run_underlying hu)]
  dsimp only
  rw [run_bind_ok hlen,run_bind_ok (run_sizeOf hsz),run_bind_ok r1]
  cases b' with
  |none=>
   simp only [run_pure,Result.ok.injEq] at hst
   rw [←hst.2];rfl
  |some a=>
   dsimp only at hst ⊢
   rw [run_bind_ok hst];rfl
 split at h
 ·simp only [Option.some.injEq,Prod.mk.injEq] at h
  obtain ⟨rfl,rfl⟩:=h
  cases hdst
  exact ⟨_,w,ι,start none 0 w rfl rfl,hS,.int _ _,Ext.refl _ _,Below.refl _ _⟩
 ·rename_i a
  split at h
  ·rename_i h0
   simp only [Option.some.injEq,Prod.mk.injEq] at h
   obtain ⟨rfl,rfl⟩:=h
   have hr0:rs.toList= []:=by
    rw [h0] at hcs r1
    have:=r1.symm.trans (first_zero (J:=J) (w:=w) (size:=size) (n:=H.next) hx hlx)
    simp only [Result.ok.injEq] at this
    rw [this.1]
   have e0:((Nat.min m len:Nat):Int)=0:=by rw [h0];rfl
   cases hdst with
   |slice ha hcc hle hs=>exact ⟨_,w,ι,start (some _) _ w rfl (by dsimp only;rw [hr0];rfl),hS,by rw [e0];exact .int _ _,Ext.refl _ _,Below.refl _ _⟩
   |slice0 hcc=>exact ⟨_,w,ι,start (some _) _ w rfl (by dsimp only;rw [hr0];rfl),hS,by rw [e0];exact .int _ _,Ext.refl _ _,Below.refl _ _⟩
  ·rename_i hn0
   cases hp:iput H a cs with
   |none=>simp [hp] at h
   |some H2=>
    simp only [hp,Option.map_some,Option.some.injEq,Prod.mk.injEq] at h
    obtain ⟨rfl,rfl⟩:=h
    cases hdst with
    |slice0 hcc=>exact absurd (show Nat.min m 0=0 from Nat.min_zero _) hn0
    |slice ha hcc hle hs=>
     obtain ⟨w',p1,p2,p3,p4⟩:=iput_run hS ha r2 hp
     exact ⟨_,w',ι,start (some _) _ w' rfl p1,p2,.int _ _,by rw [p4];exact Ext.refl _ _,p3⟩
theorem clear_run (hS:Sim J B ι H w) {at_:Array TypeId} {ty:TypeId} {x x' v:Value} {H':IH} {args:Array Value} (ha0:args[0]?=some x') (hx:VRel ι H.next x x') (h:iclear J at_ x H=some (v,H')):
  ∃v' w' ι',(Builtin.clear_ at_ ty args).run J.P w=.ok v' w'∧Sim J B ι' H' w'∧VRel ι' H'.next v v'∧Ext ι H.next ι' H'.next∧Below B w w':=by
 unfold iclear at h
 split at h
 case h_2=>simp at h
 rename_i st hat
 have hvt:VRel ι H.next (.tuple #[]) (.tuple #[]):=.tuple rfl (by simp)
 split at h
 ·rename_i e n c hu
  simp only [Option.some.injEq,Prod.mk.injEq] at h
  obtain ⟨rfl,rfl⟩:=h
  cases hx
  refine ⟨_,w,ι,?_,hS,hvt,Ext.refl _ _,Below.refl _ _⟩
  unfold Builtin.clear_
  simp only [hat,ha0]
  rw [run_bind_ok (run_underlying hu)]
  rfl
 ·rename_i e a n c hu
  split at h
  ·rename_i h0
   subst h0
   simp only [Option.some.injEq,Prod.mk.injEq] at h
   obtain ⟨rfl,rfl⟩:=h
   refine ⟨.tuple #[],w,ι,?_,hS,hvt,Ext.refl _ _,Below.refl _ _⟩
   cases hx<;>
   ·unfold Builtin.clear_
    simp only [hat,ha0]
    rw [run_bind_ok (run_underlying hu)]
    rfl
  ·rename_i h0
   split at h
   case h_2=>simp at h
   rename_i z hz
   split at h
   case isFalse=>simp at h
   rename_i hsz
   cases hp:iput H a (List.replicate n (z.cells.getD 0 undef)) with
   |none=>rw [hp] at h;cases h
   |some H2=>
    simp only [hp,Option.map_some,Option.some.injEq,Prod.mk.injEq] at h
    obtain ⟨rfl,rfl⟩:=h
    obtain ⟨z1,z2⟩:=run_zeroValue (w:=w) hz
    have hrow:(Builtin.zeroCells z.cells n).toList=List.replicate n (z.cells.getD 0 undef):=by
     apply List.ext_getElem?
     intro i
     simp only [Builtin.zeroCells,hsz,Nat.mul_one,Array.toList_map,Array.toList_range,List.getElem?_map,List.getElem?_replicate,Nat.mod_one]
     by_cases hi:i<n
     ·rw [List.getElem?_range hi,if_pos hi]
      simp only [Option.map_some,Option.some.injEq]
      have h1:0<z.cells.size:=by omega
      simp [Array.getD,h1]
     ·rw [if_neg hi,List.getElem?_eq_none (by simpa using hi)]
      rfl
    have hzr:VRel ι H.next (z.cells.getD 0 undef) (z.cells.getD 0 undef):=by
     have h1:0<z.cells.size:=by omega
     have:=(VRel.ofFlat (ι:=ι) (n:=H.next) z2).cells.2 0 z.cells[0] z.cells[0] (by simp [h1]) (by simp [h1])
     simpa [Array.getD,h1] using this
    have hrel:LRel ι H.next (List.replicate n (z.cells.getD 0 undef)) (List.replicate n (z.cells.getD 0 undef)):=⟨rfl,fun i x y hx hy=>by
     rw [List.getElem?_replicate] at hx hy
     split at hx
     ·rename_i hi;rw [if_pos hi] at hy;cases hx;cases hy;exact hzr
     ·cases hx⟩
    cases hx with
    |slice0 hcc=>exact absurd rfl h0
    |slice ha hcc hle hs=>
     obtain ⟨w',p1,p2,p3,p4⟩:=iput_run hS ha hrel hp
     refine ⟨_,w',ι,?_,p2,by rw [p4];exact hvt,by rw [p4];exact Ext.refl _ _,p3⟩
     unfold Builtin.clear_
     simp only [hat,ha0]
     rw [run_bind_ok (run_underlying hu)]
     obtain ⟨m,rfl⟩:∃m,n=m+1:=⟨n-1,by omega⟩
     rename_i a' _
     show (do let z ←zeroValue e;storeCells a' (Builtin.zeroCells z.cells (m+1)).toList;pure (Value.tuple #[]):Sem Value).run J.P w=_
     rw [run_bind_ok z1,hrow,run_bind_ok p1]
     rfl
 ·simp at h
/-! ### Maps -/
theorem ba_eq {a b:ByteArray} (h:(a==b)=true):a=b:=by
 cases a;cases b
 simp [BEq.beq] at h
 simpa [ByteArray.beq] using h
theorem ba_self (a:ByteArray):(a==a)=true:=by
 cases a
 simp [BEq.beq]
 simp [ByteArray.beq]
theorem sameNow_rel {n:Nat} {d:TypeDesc} {k k' x x':Value} {b:Bool} (hk:VRel ι n k k') (hx:VRel ι n x x') (h:Instr.sameNow d k x=some b):Instr.sameNow d k' x'=some b:=by
 cases hk<;>cases hx<;>cases d<;>first|exact h|(simp [Instr.sameNow] at h)
theorem sameNow_same {n:Nat} {d:TypeDesc} {k k' x x':Value} (hk:VRel ι n k k') (hx:VRel ι n x x') (h:Instr.sameNow d k x=some true):VRel ι n x k'∧Instr.sameBits 10000 x' k'=true∧flat k=true:=by
 cases hk<;>cases hx<;>cases d<;>first
  |(simp [Instr.sameNow] at h;done)
  |(simp only [Instr.sameNow,Option.some.injEq,beq_iff_eq] at h;subst h;refine ⟨by constructor,by simp [Instr.sameBits],rfl⟩)
  |(simp only [Instr.sameNow,Option.some.injEq] at h;have h:=ba_eq h;subst h;exact ⟨by constructor,ba_self _,rfl⟩)
  |(simp only [Instr.sameNow] at h
    split at h
    ·rename_i e;subst e
     simp only [Option.some.injEq,beq_iff_eq] at h;subst h
     exact ⟨by constructor,by simp [Instr.sameBits],rfl⟩
    ·simp at h)
theorem find_run {n:Nat} {d:TypeDesc} {k k':Value} (hk:VRel ι n k k'):∀(es:List (Value×Value)) (rs:List MapEntry) (i:Nat) {r:Option (Nat×Value)},
  es.length=rs.length→(∀(j:Nat) (e:Value×Value),es[j]?=some e→∃r,rs[j]?=some r∧VRel ι n e.1 r.key∧VRel ι n e.2 r.val)→ifind d k es i=some r→
  (r=none∧Instr.findNow d k' rs i=some none)∨
  (∃j v v' e,r=some (i+j,v)∧es[j]?=some e∧e.2=v∧Instr.sameNow d k e.1=some true∧Instr.findNow d k' rs i=some (some (i+j,v'))∧VRel ι n v v'):=by
 intro es
 induction es with
 |nil=>
  intro rs i r hl _ h
  have:rs= []:=by cases rs with|nil=>rfl|cons=>simp at hl
  subst this
  simp only [ifind,Option.some.injEq] at h
  exact .inl ⟨h.symm,rfl⟩
 |cons e es ih=>
  intro rs i r hl hr h
  cases rs with
  |nil=>simp at hl
  |cons re rs=>
   obtain ⟨r0,hr0,h1,h2⟩:=hr 0 e rfl
   simp only [List.getElem?_cons_zero,Option.some.injEq] at hr0
   subst hr0
   simp only [ifind] at h
   cases hs:Instr.sameNow d k e.1 with
   |none=>simp [hs] at h
   |some b=>
    have hs':=sameNow_rel hk h1 hs
    cases b with
    |true=>
     simp only [hs,Option.some.injEq] at h
     exact .inr ⟨0,e.2,re.val,e,by simpa using h.symm,rfl,rfl,hs,by simp [Instr.findNow,hs'],h2⟩
    |false=>
     simp only [hs] at h
     rcases ih rs (i+1) (by simpa using hl) (fun j x hj=>by
      have:=hr (j+1) x (by simpa using hj)
      simpa using this) h with ⟨a,b⟩|⟨j,v,v',x,a,b,c,d',e',f⟩
     ·exact .inl ⟨a,by simp [Instr.findNow,hs',b]⟩
     ·refine .inr ⟨j+1,v,v',x,?_,by simpa using b,c,d',?_,f⟩
      ·rw [a];congr 2;omega
      ·simp only [Instr.findNow,hs'];rw [e'];congr 3;omega
theorem keyT_run {kt:TypeId} {d:TypeDesc} (h:keyT J kt=some d):J.und kt=some d∧∀b k,(Instr.checkKey b 10000 kt k).run J.P w=.ok () w:=by
 unfold keyT at h
 split at h<;>first|(simp at h;done)|skip
 all_goals
  rename_i hu
  cases h
  refine ⟨hu,fun b k=>?_⟩
  show (Instr.checkKey b (9999+1) kt k).run J.P w=_
  unfold Instr.checkKey
  rw [run_bind_ok (run_underlying hu)]
  rfl
theorem mapEs_run (hS:Sim J B ι H w) {x x':Value} {es:List (Value×Value)} (hx:VRel ι H.next x x') (h:imapEs x H=some es):
  ∃rs:Array MapEntry,es.length=rs.size∧(∀(j:Nat) (e:Value×Value),es[j]?=some e→∃r,rs[j]?=some r∧VRel ι H.next e.1 r.key∧VRel ι H.next e.2 r.val)∧
   ((x'=.map none∧rs=#[])∨∃r clk,x'=.map (some r)∧w.heap[r]?=some (.map rs clk)):=by
 unfold imapEs at h
 split at h
 ·cases hx
  simp only [Option.some.injEq] at h
  subst h
  exact ⟨#[],rfl,by simp,.inl ⟨rfl,rfl⟩⟩
 ·rename_i r
  cases hx
  split at h
  ·rename_i es' pr hb
   cases h
   obtain ⟨res,clk,h0,h1,h2,h3⟩:=hS.maps _ _ _ hb
   exact ⟨res,h1,h2,.inr ⟨_,clk,rfl,h0⟩⟩
  ·simp at h
 ·simp at h
theorem getObj_run {r:Nat} {o:Obj} (h:w.heap[r]?=some o) (hn:∀c e f,o≠.cells c e f):(getObj r).run J.P w=.ok o w:=by
 unfold getObj
 cases o<;>first|(simp [Sem.run,h];done)|exact absurd rfl (hn _ _ _)
theorem setObj_run {r:Nat} {o o':Obj} (h:w.heap[r]?=some o) (hn:∀c e f,o≠.cells c e f):(setObj r o').run J.P w=.ok () (wput w r o'):=by
 unfold setObj
 cases o<;>first|(simp [Sem.run,h,wput];done)|exact absurd rfl (hn _ _ _)
theorem lookup_run (hS:Sim J B ι H w) {t:TypeId} {x x' k k' v:Value} {ok:Bool} (hx:VRel ι H.next x x') (hk:VRel ι H.next k k') (h:ilookup J t x k ok H=some v):
  ∃v',(Instr.lookup t x' k' ok).run J.P w=.ok v' w∧VRel ι H.next v v':=by
 unfold ilookup at h
 split at h
 case h_2=>simp at h
 rename_i kt et hu
 split at h
 case h_2=>simp at h
 rename_i d es hd hes
 obtain ⟨hdu,hck⟩:=keyT_run (w:=w) hd
 obtain ⟨rs,h1,h2,h3⟩:=mapEs_run hS hx hes
 have start:∀(f:Option (Nat×Value)) (out:Value×Bool),Instr.findNow d k' rs.toList 0=some f→
   (match f with|some (_,v)=>out=(v,true)|none=>out.2=false∧(zeroValue et).run J.P w=.ok out.1 w)→
   (Instr.lookup t x' k' ok).run J.P w=.ok (if ok then .tuple #[out.1,.bool out.2] else out.1) w:=by
  intro f out hf ho
  unfold Instr.lookup
  rw [run_bind_ok (run_underlying hu)]
  dsimp only
  have hfind:(Instr.findKey kt k' rs.toList).run J.P w=.ok f w:=by
   unfold Instr.findKey
   rw [run_bind_ok (run_underlying hdu),hf];rfl
  rcases h3 with ⟨rfl,rfl⟩|⟨r,clk,rfl,hr⟩
  ·dsimp only
   rw [run_bind_ok (run_pure _),run_bind_ok (hck _ _),run_bind_ok hfind]
   cases f with
   |none=>
    obtain ⟨o1,o2⟩:=out
    obtain ⟨rfl,h5⟩:=ho
    dsimp only at h5 ⊢
    rw [run_bind_ok h5,run_bind_ok (run_pure _)];rfl
   |some p=>
    subst ho
    dsimp only
    rw [run_bind_ok (run_pure _)];rfl
  ·dsimp only
   rw [run_bind_ok (getObj_run hr (by simp))]
   dsimp only
   rw [run_bind_ok (run_pure _),run_bind_ok (hck _ _),run_bind_ok hfind]
   cases f with
   |none=>
    obtain ⟨o1,o2⟩:=out
    obtain ⟨rfl,h5⟩:=ho
    dsimp only at h5 ⊢
    rw [run_bind_ok h5,run_bind_ok (run_pure _)];rfl
   |some p=>
    subst ho
    dsimp only
    rw [run_bind_ok (run_pure _)];rfl
 have pair:∀{a b:Value},VRel ι H.next a b→∀c:Bool,VRel ι H.next (.tuple #[a,.bool c]) (.tuple #[b,.bool c]):=fun {a b} hab c=>by
  have:=LRel.cons hab (LRel.cons (VRel.bool (ι:=ι) (n:=H.next) c) LRel.nil)
  exact .tuple rfl fun i x y hx hy=>this.2 i x y (by simpa using hx) (by simpa using hy)
 split at h
 ·rename_i j v0 hf
  cases h
  rcases find_run hk es rs.toList 0 (by simpa using h1) (fun j e hj=>by simpa using h2 j e hj) hf with ⟨e,_⟩|⟨j',v1,v',e,a,_,b,_,c,hv⟩
  ·cases e
  ·cases a
   refine ⟨_,start _ (v',true) c rfl,?_⟩
   cases ok
   ·exact hv
   ·exact pair hv true
 ·rename_i hf
  rcases find_run hk es rs.toList 0 (by simpa using h1) (fun j e hj=>by simpa using h2 j e hj) hf with ⟨_,c⟩|⟨j',v1,v',e,a,_⟩
  ·cases hz:J.zero et with
   |none=>simp [hz] at h
   |some z=>
    simp only [hz,Option.map_some,Option.some.injEq] at h
    subst h
    obtain ⟨z1,z2⟩:=run_zeroValue (w:=w) hz
    refine ⟨_,start _ (z,false) c ⟨rfl,z1⟩,?_⟩
    cases ok
    ·exact VRel.ofFlat z2
    ·exact pair (VRel.ofFlat z2) false
  ·cases a
 ·simp at h
theorem mapUpdate_run (hS:Sim J B ι H w) {t:TypeId} {m m' k k' v v':Value} {H':IH} (hm:VRel ι H.next m m') (hk:VRel ι H.next k k') (hv:VRel ι H.next v v') (h:imapUpdate J t m k v H=some H'):
  ∃w',(Instr.mapUpdate t m' k' v').run J.P w=.ok () w'∧Sim J B ι H' w'∧Below B w w'∧H'.next=H.next:=by
 unfold imapUpdate at h
 split at h
 case h_2=>simp at h
 rename_i kt et r hu
 cases hm
 split at h
 case h_2=>simp at h
 rename_i d es hd hb
 obtain ⟨hdu,hck⟩:=keyT_run (w:=w) hd
 obtain ⟨res,clk,h0,h1,h2,h3⟩:=hS.maps _ _ _ hb
 have hB:=h3 rfl
 have start:∀(f:Option (Nat×Value)) (o:Obj),Instr.findNow d k' res.toList 0=some f→
   (match f with
    |none=>o=.map (res.push { key:=k',val:=v',born:=clk }) (clk+1)
    |some (i,_)=>Instr.sameBits 10000 (((res[i]?).map (·.key)).getD k') k'=true∧o=.map (res.modify i fun e=>{ e with key:=k',val:=v' }) clk)→
   (Instr.mapUpdate t (.map (some (ι r).rb)) k' v').run J.P w=.ok () (wput w (ι r).rb o):=by
  intro f o hf ho
  unfold Instr.mapUpdate
  rw [run_bind_ok (run_underlying hu)]
  dsimp only
  rw [run_bind_ok (getObj_run h0 (by simp))]
  dsimp only
  have hfind:(Instr.findKey kt k' res.toList).run J.P w=.ok f w:=by
   unfold Instr.findKey
   rw [run_bind_ok (run_underlying hdu),hf];rfl
  rw [run_bind_ok (hck _ _),run_bind_ok hfind]
  cases f with
  |none=>
   subst ho
   exact setObj_run h0 (by simp)
  |some p=>
   obtain ⟨i,u⟩:=p
   obtain ⟨hsb,rfl⟩:=ho
   dsimp only
   have hkt:(Instr.keyThatStays (((res[i]?).map (·.key)).getD k') k').run J.P w=.ok k' w:=by
    unfold Instr.keyThatStays
    rw [if_pos hsb];rfl
   rw [run_bind_ok hkt]
   exact setObj_run h0 (by simp)
 split at h
 ·rename_i j v0 hf
  cases h
  rcases find_run hk es res.toList 0 (by simpa using h1) (fun j e hj=>by simpa using h2 j e hj) hf with ⟨e,_⟩|⟨j',v1,v2,e,a,b,c,d',f',hv2⟩
  ·cases e
  ·simp only [Option.some.injEq,Prod.mk.injEq,Nat.zero_add] at a
   obtain ⟨rfl,rfl⟩:=a
   rw [Nat.zero_add] at f'
   obtain ⟨re,hre,q1,q2⟩:=h2 _ _ b
   obtain ⟨s1,s2,s3⟩:=sameNow_same hk q1 d'
   refine ⟨_,start _ _ f' ⟨by simp only [hre,Option.map_some,Option.getD_some];exact s2,rfl⟩,?_,below_wput _ hB,rfl⟩
   refine Sim.rewrite hS hb rfl _ (wput_heap _ _ _) (fun _ _ _ hy=>by cases hy) (fun es' pr' hy=>?_) (fun _ _ hy=>by cases hy)
   cases hy
   refine ⟨hB,_,clk,rfl,by simpa using h1,fun i e hi=>?_⟩
   rw [List.getElem?_modify] at hi
   rw [Array.getElem?_modify]
   by_cases hij:j=i
   ·subst hij
    simp only [if_true,b,hre,Option.map_some,Option.some.injEq] at hi ⊢
    have hi:(k,v)=e:=by simpa using hi
    subst hi
    exact ⟨_,rfl,hk,hv⟩
   ·simp only [hij,if_false] at hi ⊢
    obtain ⟨r',a1,a2⟩:=h2 i e (by simpa using hi)
    exact ⟨r',by simpa using a1,a2⟩
 ·rename_i hf
  split at h
  case isFalse=>simp at h
  rename_i hfl
  cases h
  rcases find_run hk es res.toList 0 (by simpa using h1) (fun j e hj=>by simpa using h2 j e hj) hf with ⟨_,c⟩|⟨j',v1,v',e,a,_⟩
  ·refine ⟨_,start _ _ c rfl,?_,below_wput _ hB,rfl⟩
   refine Sim.rewrite hS hb rfl _ (wput_heap _ _ _) (fun _ _ _ hy=>by cases hy) (fun es' pr' hy=>?_) (fun _ _ hy=>by cases hy)
   cases hy
   refine ⟨hB,_,_,rfl,by simp [h1],fun i e hi=>?_⟩
   by_cases hlt:i<es.length
   ·rw [List.getElem?_append_left hlt] at hi
    obtain ⟨r',a1,a2⟩:=h2 i e hi
    exact ⟨r',by rw [Array.getElem?_push,if_neg (by omega)];exact a1,a2⟩
   ·rw [List.getElem?_append_right (by omega)] at hi
    have:i-es.length=0:=by
     have:=(List.getElem?_eq_some_iff.1 hi).1
     simp at this;omega
    rw [this] at hi
    simp only [List.getElem?_cons_zero,Option.some.injEq] at hi
    subst hi
    exact ⟨_,by rw [Array.getElem?_push,if_pos (by omega)],hk,hv⟩
  ·cases a
 ·simp at h
/-! ### Conversions, assertions -/
theorem bytesOf_rel {n:Nat}:∀{cs rs:List Value} {bs:List UInt8},LRel ι n cs rs→bytesOfCells cs=some bs→∃ns:List Int,rs=ns.map (Value.int .u8)∧bs=ns.map fun n=>UInt8.ofNat n.toNat:=by
 intro cs
 induction cs with
 |nil=>
  intro rs bs h hb
  have:rs= []:=by have:=h.1;cases rs with|nil=>rfl|cons=>simp at this
  subst this
  simp only [bytesOfCells,Option.some.injEq] at hb
  exact ⟨[],rfl,by simpa using hb.symm⟩
 |cons c cs ih=>
  intro rs bs h hb
  cases rs with
  |nil=>have:=h.1;simp at this
  |cons r rs=>
   have h0:VRel ι n c r:=h.2 0 c r rfl rfl
   unfold bytesOfCells at hb
   split at hb
   ·rename_i e;simp at e
   ·rename_i x rest e
    simp only [List.cons.injEq] at e
    obtain ⟨rfl,rfl⟩:=e
    cases h0
    cases hb2:bytesOfCells cs with
    |none=>simp [hb2] at hb
    |some b2=>
     simp only [hb2,Option.map_some,Option.some.injEq] at hb
     obtain ⟨ns,h1,h2⟩:=ih (rs:=rs) (bs:=b2) ⟨by have:=h.1;simpa using this,fun i x y a b=>h.2 (i+1) x y (by simpa using a) (by simpa using b)⟩ hb2
     exact ⟨x::ns,by simp [h1],by rw [←hb,h2];rfl⟩
   ·simp at hb
theorem foldl_push (ns:List Int):∀s:ByteArray,ns.foldl (fun r n=>r.push (UInt8.ofNat n.toNat)) s=⟨(s.data.toList++ns.map fun n=>UInt8.ofNat n.toNat).toArray⟩:=by
 induction ns with
 |nil=>intro s;simp
 |cons n ns ih=>
  intro s
  rw [List.foldl_cons,ih]
  simp [ByteArray.push]
theorem cells_fit (hS:Sim J B ι H w) {b:Nat} {cs:List Value} {e:TypeId} {pr:Bool} (hb:H.get b=some (.cells cs e pr)) {rc:Array Value} {re:TypeId} {fr:Nat×Nat}
  (g0:w.heap[(ι b).rb]?=some (.cells rc re fr)) {i:Nat} (hi:i<cs.length):(ι b).ro+i<rc.size:=by
 obtain ⟨rc',re',fr',h0,h1,_⟩:=hS.cells _ _ _ _ hb
 rw [g0] at h0
 cases h0
 obtain ⟨v',hv',_⟩:=h1 i _ (List.getElem?_eq_getElem hi)
 exact (Array.getElem?_eq_some_iff.1 hv').1
theorem shape_run {r:Nat} {rc:Array Value} {re:TypeId} {fr:Nat×Nat} (g0:w.heap[r]?=some (.cells rc re fr)):(shape r).run J.P w=.ok (some (re,rc.size)) w:=by
 show Result.ok (w.shape? r) _=_
 simp only [World.shape?,g0]
theorem seenAt_run {r o:Nat} {rc:Array Value} {re:TypeId} {fr:Nat×Nat} (g0:w.heap[r]?=some (.cells rc re fr)):(Conv.seenAt ⟨r,o,none⟩).run J.P w=.ok ⟨r,o,none⟩ w:=by
 unfold Conv.seenAt
 have hv:(viewAt r).run J.P w=.ok none w:=by
  unfold viewAt
  rw [run_bind_ok (shape_run g0)]
  rfl
 rw [run_bind_ok hv]
 rfl
theorem variablesAt_run {r o s:Nat} {rc:Array Value} {e:TypeId} {fr:Nat×Nat} (g0:w.heap[r]?=some (.cells rc e fr)) (hs:J.size e=some (s+1)) (hd:s+1 ∣ o) (n:Nat) (hn:o+n*(s+1)≤rc.size):
  (variablesAt ⟨r,o,none⟩ e n).run J.P w=.ok true w:=by
 unfold variablesAt
 rw [run_bind_ok run_program,run_bind_ok (shape_run g0)]
 show Result.ok _ _=_
 congr 1
 obtain ⟨i,hi,hi2⟩:=J.size_ok hs
 have hc:J.P.cellsOf e=s+1:=by simp [Program.cellsOf,hi,hi2]
 obtain ⟨q,rfl⟩:=hd
 have hdep:∃d,J.P.depth=d+1:=⟨2*(J.P.types.size+Made.depth)+1,rfl⟩
 obtain ⟨d,hd⟩:=hdep
 rw [hd]
 unfold liesAt
 rw [Bool.or_eq_true]
 left
 rw [hd]
 unfold rowAt
 have e0:sameLayout J.P (d+1) e e=true:=by unfold sameLayout;simp
 simp only [hc,Nat.add_eq_zero_iff,Nat.succ_ne_self,and_false,if_false]
 have e1:(s+1)*q / (s+1)=q:=Nat.mul_div_cancel_left _ (by omega)
 have e2:(s+1)*q%(s+1)=0:=Nat.mul_mod_right _ _
 have e3:q+n≤rc.size / (s+1):=by
  rw [Nat.le_div_iff_mul_le (by omega),Nat.add_mul,Nat.mul_comm q]
  exact hn
 rw [e1,e2,e0]
 simp [e3]
theorem loadBytes_run {r:Nat} {rc:Array Value} {re:TypeId} {fr:Nat×Nat} (g0:w.heap[r]?=some (.cells rc re fr)):
  ∀(ns:List Int) (o:Nat) (acc:ByteArray),ns.map (Value.int .u8)=(rc.toList.drop o).take ns.length→
   (loadBytes ⟨r,o,none⟩ acc ns.length).run J.P w=.ok (ns.foldl (fun r n=>r.push (UInt8.ofNat n.toNat)) acc) w:=by
 intro ns
 induction ns with
 |nil=>intro o acc _;rfl
 |cons n ns ih=>
  intro o acc h
  have ho:o<rc.toList.length:=by
   have:=congrArg List.length h
   simp at this;simp;omega
  rw [List.drop_eq_getElem_cons ho,List.length_cons,List.take_succ_cons,List.map_cons,List.cons.injEq] at h
  have hc:w.cell? ⟨r,o,none⟩=some (.int .u8 n):=by
   rw [cell_at g0,h.1]
   simp
  show (loadBytes _ acc (ns.length+1)).run J.P w=_
  unfold loadBytes
  rw [run_bind_ok (run_load_cell hc)]
  simp only
  rw [add_plain,List.foldl_cons]
  exact ih (o+1) _ h.2
theorem freeze_wput {r o n:Nat} {rc:Array Value} {e:TypeId} {fr:Nat×Nat} (g0:w.heap[r]?=some (.cells rc e fr)) (hn:n≠0):
  w.freeze ⟨r,o,none⟩ n=wput w r (.cells rc e (if fr.1==fr.2 then (o,o+n) else (min fr.1 o,max fr.2 (o+n)))):=by
 unfold World.freeze wput
 rw [if_neg hn]
 congr 1
 refine Array.ext_getElem? fun j=>?_
 rw [Array.getElem?_modify]
 by_cases hj:r=j
 ·subst hj
  have:=(Array.getElem?_eq_some_iff.1 g0).1
  have hw:w.heap[r]=.cells rc e fr:=(Array.getElem?_eq_some_iff.1 g0).2
  simp only [if_true,g0,Option.map_some]
  rw [Array.getElem?_setIfInBounds_self_of_lt this]
 ·simp [hj]
theorem convert_run (hS:Sim J B ι H w) {src dst:TypeId} {x x' v:Value} {H':IH} (hx:VRel ι H.next x x') (h:iconvert J src dst x H=some (v,H')):
  ∃v' w' ι',(convert src dst x').run J.P w=.ok v' w'∧Sim J B ι' H' w'∧VRel ι' H'.next v v'∧Ext ι H.next ι' H'.next∧Below B w w':=by
 unfold iconvert at h
 split at h
 ·rename_i e s hu1 hu2
  cases hx
  split at h
  ·rename_i hu3 hes
   simp only [Option.some.injEq,Prod.mk.injEq] at h
   obtain ⟨rfl,rfl⟩:=h
   let cap:=(Question.appendCap s.size 0 e).cut (w.tape w.drawn (.appendCap s.size 0 e))
   have hcap:s.size≤cap:=by show _≤s.size+_;omega
   let row:Array Value:=(s.data.map fun b=>Value.int .u8 b.toNat)++Array.replicate (cap-s.size) (.int .u8 0)
   have hrow:row.size=cap:=by simp [row];omega
   let w1:World:={ w with drawn:=w.drawn+1 }
   let w2:World:={ w1 with heap:=w1.heap.push (.cells row e (row.size,row.size+1)) }
   obtain ⟨q1,q2⟩:=hS.push (w':=w2) (.cells (bytesCells s) e false) (.cells row e (row.size,row.size+1)) 1 row.size rfl
    (fun cs' e' pr' hx=>by
     cases hx
     refine ⟨row,_,rfl,fun i v hi=>?_,rfl,hes,.inl (Nat.le_refl _)⟩
     have hlt:i<s.data.size:=by have:=(List.getElem?_eq_some_iff.1 hi).1;simpa [bytesCells] using this
     refine ⟨v,?_,?_⟩
     ·show (_++_)[i]?=some v
      rw [Array.getElem?_append_left (by simpa using hlt)]
      rw [←Array.getElem?_toList];simpa [bytesCells] using hi
     ·obtain ⟨b,_,rfl⟩:=List.mem_map.1 (List.mem_of_getElem? hi)
      exact .int _ _)
    (fun _ _ hx=>by cases hx) (fun _ _ hx=>by cases hx)
   have hch:(choose (.appendCap s.size 0 e)).run J.P w=.ok cap w1:=by
    simp [choose,Sem.run,Question.forced,cap,w1]
   have hmk:(markStringish ⟨w1.heap.size,0,none⟩).run J.P { w1 with heap:=w1.heap.push (.cells row e) }=.ok () w2:=by
    unfold markStringish
    have hsh:(shape w1.heap.size).run J.P { w1 with heap:=w1.heap.push (.cells row e) }=.ok (some (e,row.size)) { w1 with heap:=w1.heap.push (.cells row e) }:=by
     show Result.ok (({ w1 with heap:=w1.heap.push (.cells row e) }:World).shape? w1.heap.size) _=_
     have h0:(w1.heap.push (.cells row e))[w1.heap.size]?=some (.cells row e):=by simp
     simp only [World.shape?,h0]
    rw [run_bind_ok hsh]
    simp only [freeze,Sem.run,World.freeze]
    rw [if_neg (by decide)]
    show Result.ok _ _=_
    congr 1
    simp only [w2]
    congr 1
    refine Array.ext_getElem? fun j=>?_
    rw [Array.getElem?_modify,Array.getElem?_push,Array.getElem?_push]
    by_cases hj:j=w1.heap.size
    ·subst hj;simp
    ·rw [if_neg (Ne.symm hj),if_neg hj,if_neg hj]
   refine ⟨.slice (some ⟨w.heap.size,0,none⟩) s.size cap,w2,_,?_,q1,?_,q2,(below_drawn _).trans (below_push _ hS.base)⟩
   ·unfold convert
    rw [run_bind_ok (run_underlying hu1),run_bind_ok (run_underlying hu2)]
    dsimp only
    rw [run_bind_ok (run_underlying hu3)]
    dsimp only
    unfold Conv.stringToBytes
    rw [run_bind_ok hch]
    rw [run_bind_ok (show (newRow e row).run J.P w1=.ok ⟨w1.heap.size,0,none⟩ { w1 with heap:=w1.heap.push (.cells row e) } from rfl),run_bind_ok hmk]
    rfl
   ·refine .slice ⟨rfl,by simp,by simp [upd_eq]⟩ (.inr rfl) hcap ?_
    simp only [upd_eq,hrow]
    omega
  ·simp at h
 ·rename_i e a n c hu1 hu2
  split at h
  ·rename_i hu3
   split at h
   ·rename_i cs hcs
    cases hb:bytesOfCells cs with
    |none=>simp [hb] at h
    |some bs=>
     simp only [hb,Option.map_some,Option.some.injEq,Prod.mk.injEq] at h
     obtain ⟨rfl,rfl⟩:=h
     cases hx with
     |slice ha hcc hle hs=>
      rename_i a' c'
      obtain ⟨rs,r1,r2,_⟩:=icells_run hS ha hcs
      obtain ⟨ns,n1,n2⟩:=bytesOf_rel r2 hb
      have hr:=(run_convert_bytes_string (P:=J.P) w src dst e (some a') n c' (J.und_ok hu1) (J.und_ok hu3) (J.und_ok hu2)).trans (run_bytesToString w a' n c' ns (by rw [r1,←n1]))
      refine ⟨_,w,ι,hr,hS,?_,Ext.refl _ _,Below.refl _ _⟩
      rw [foldl_push,n2];exact .string _
     |slice0 hcc=>
      rename_i a'
      have hcs0:cs= []:=by
       unfold icells at hcs
       split at hcs
       ·split at hcs
        ·simp at hcs;exact hcs
        ·simp at hcs
       ·simp at hcs
      subst hcs0
      simp only [bytesOfCells,Option.some.injEq] at hb
      subst hb
      have hr:=(run_convert_bytes_string (P:=J.P) w src dst e (some a') 0 0 (J.und_ok hu1) (J.und_ok hu3) (J.und_ok hu2)).trans (run_bytesToString w a' 0 0 [] (by simp [loadCells,loadCellsFrom]))
      exact ⟨_,w,ι,hr,hS,.string _,Ext.refl _ _,Below.refl _ _⟩
   ·simp at h
  ·simp at h
 ·rename_i e l c hu1 hu2
  split at h
  ·rename_i hu3
   simp only [Option.some.injEq,Prod.mk.injEq] at h
   obtain ⟨rfl,rfl⟩:=h
   cases hx
   refine ⟨.string .empty,w,ι,?_,hS,.string _,Ext.refl _ _,Below.refl _ _⟩
   rw [run_convert_bytes_string w src dst e _ _ _ (J.und_ok hu1) (J.und_ok hu3) (J.und_ok hu2)]
   rfl
  ·simp at h
 ·rename_i t a hu1 hu2
  split at h
  ·rename_i cs e s hb hsz
   split at h
   ·rename_i hc
    obtain ⟨hc1,hc2⟩:=hc
    simp only [Option.some.injEq,Prod.mk.injEq] at h
    obtain ⟨rfl,rfl⟩:=h
    cases hx with
    |ptr ha=>
     obtain ⟨⟨rc,fr,g0⟩,gd⟩:=hS.rows _ _ _ hb
     have hlast:=cells_fit hS hb g0 hc2
     have ha':=ha
     obtain ⟨_,_,rfl⟩:=ha
     refine ⟨_,w,ι,?_,hS,.ptr ha',Ext.refl _ _,Below.refl _ _⟩
     unfold convert
     rw [run_bind_ok (run_underlying hu1),run_bind_ok (run_underlying hu2)]
     show (Conv.unsafePointer src dst _).run J.P w=_
     unfold Conv.unsafePointer
     rw [run_bind_ok (run_underlying hu1),run_bind_ok (run_underlying hu2)]
     dsimp only
     rw [run_bind_ok (seenAt_run g0)]
     have hci:(cellsIn (ι a.block).rb).run J.P w=.ok (some rc.size) w:=by
      unfold cellsIn
      rw [run_bind_ok (shape_run g0)]
      rfl
     rw [run_bind_ok hci]
     dsimp only
     rw [run_bind_ok (run_sizeOf hsz),if_neg (by simp;omega)]
     rfl
   ·simp at h
  ·simp at h
 ·rename_i u a hu1 hu2
  split at h
  ·rename_i cs e s hb hsz
   split at h
   ·rename_i hc
    obtain ⟨rfl,hc1,hc2,hc3⟩:=hc
    simp only [Option.some.injEq,Prod.mk.injEq] at h
    obtain ⟨rfl,rfl⟩:=h
    cases hx with
    |ptr ha=>
     obtain ⟨⟨rc,fr,g0⟩,gd⟩:=hS.rows _ _ _ hb
     obtain ⟨_,_,_,_,_,_,k3,_⟩:=hS.cells _ _ _ _ hb
     have hesz:(ι a.block).esz=s+1:=by rw [k3] at hsz;exact Option.some.inj hsz
     have hlast:=cells_fit hS hb g0 (i:=a.off+s) (by omega)
     have ha':=ha
     obtain ⟨_,_,rfl⟩:=ha
     refine ⟨_,w,ι,?_,hS,.ptr ha',Ext.refl _ _,Below.refl _ _⟩
     unfold convert
     rw [run_bind_ok (run_underlying hu1),run_bind_ok (run_underlying hu2)]
     show (Conv.unsafePointer src dst _).run J.P w=_
     unfold Conv.unsafePointer
     rw [run_bind_ok (run_underlying hu1),run_bind_ok (run_underlying hu2)]
     dsimp only
     rw [run_bind_ok (seenAt_run g0),run_bind_ok (run_sizeOf hsz)]
     rw [run_bind_ok (variablesAt_run g0 (s:=s) hsz (by rw [hesz] at gd;exact (Nat.dvd_add gd (Nat.dvd_of_mod_eq_zero hc2))) 1 (by omega))]
     simp
   ·simp at h
  ·simp at h
 ·simp at h
theorem unsafeString_run (hS:Sim J B ι H w) {at_:Array TypeId} {ty pt:TypeId} {p p' k k' v:Value} {H':IH} (hp:VRel ι H.next p p') (hk:VRel ι H.next k k') (ht:at_[0]?=some pt)
  (h:iunsafeString J pt p k H=some (v,H')):
  ∃v' w' ι',(Builtin.unsafeString_ at_ ty #[p',k']).run J.P w=.ok v' w'∧Sim J B ι' H' w'∧VRel ι' H'.next v v'∧Ext ι H.next ι' H'.next∧Below B w w':=by
 unfold iunsafeString at h
 split at h
 ·rename_i e a kk i hu
  split at h
  ·rename_i cs e' hb
   split at h
   ·rename_i hc
    obtain ⟨c1,c2,rfl,c4,c5,c6⟩:=hc
    cases hbs:bytesOfCells ((cs.drop a.off).take i.toNat) with
    |none=>simp [hbs] at h
    |some bs=>
     simp only [hbs,Option.map_some,Option.some.injEq,Prod.mk.injEq] at h
     obtain ⟨rfl,rfl⟩:=h
     cases hp with
     |ptr ha=>
      cases hk
      obtain ⟨⟨rc,fr,g0⟩,gd⟩:=hS.rows _ _ _ hb
      obtain ⟨rc',re',fr',h0,h1,h2,h3,h4⟩:=hS.cells _ _ _ _ hb
      obtain ⟨h5,h6⟩:=h4 rfl
      have hrr:rc'=rc∧fr'=fr:=by rw [g0] at h0;cases h0;exact ⟨rfl,rfl⟩
      obtain ⟨rfl,rfl⟩:=hrr
      have hlast:=cells_fit hS hb g0 (i:=a.off+i.toNat-1) (by omega)
      obtain ⟨rs,r1,r2,r3⟩:=icells_run hS ha (show icells H a i.toNat=some _ by unfold icells;rw [hb];simp only;rw [if_pos ⟨c5,c6⟩])
      obtain ⟨ns,n1,n2⟩:=bytesOf_rel r2 hbs
      have ha':=ha
      obtain ⟨_,_,rfl⟩:=ha
      have r1':=run_loadCells (P:=J.P) (w:=w) (o:=(ι a.block).ro+a.off) (n:=i.toNat) g0 (by omega)
      have hrs:rs.toList=(rc'.toList.drop ((ι a.block).ro+a.off)).take i.toNat:=by
       have r1'':=r1
       rw [r1'] at r1''
       cases r1'';simp
      have hlb:(loadBytes ⟨(ι a.block).rb,(ι a.block).ro+a.off,none⟩ .empty i.toNat).run J.P w=.ok (ns.foldl (fun r n=>r.push (UInt8.ofNat n.toNat)) ByteArray.empty) w:=by
       have hnl:ns.length=i.toNat:=by
        have h7:=congrArg List.length n1
        have h8:=r2.1
        rw [r3] at h8
        simp only [List.length_map] at h7
        omega
       have h9:=loadBytes_run (J:=J) (w:=w) g0 ns ((ι a.block).ro+a.off) .empty (by rw [hnl,←n1,hrs])
       rw [hnl] at h9
       exact h9
      refine ⟨.string (ns.foldl (fun r n=>r.push (UInt8.ofNat n.toNat)) ByteArray.empty),w.freeze ⟨(ι a.block).rb,(ι a.block).ro+a.off,none⟩ i.toNat,ι,?_,?_,?_,Ext.refl _ _,?_⟩
      ·unfold Builtin.unsafeString_
       refine (run_bind_ok (s:=asInt (.int kk i)) (a:=i) (w':=w) rfl).trans ?_
       simp only [ht]
       rw [if_neg (by omega),if_neg (by simp [IntKind.max,IntKind.bits,IntKind.signed];omega),if_neg (by omega)]
       rw [run_bind_ok (show (elemOf pt).run J.P w=.ok e' w by unfold elemOf;rw [run_bind_ok (run_underlying hu)];rfl)]
       rw [run_bind_ok (variablesAt_run g0 (s:=0) c4 (by simp) i.toNat (by omega))]
       simp only [if_true]
       rw [run_bind_ok hlb]
       rfl
      ·rw [freeze_wput g0 (by omega)]
       refine Sim.rewrite hS hb rfl _ (wput_heap _ _ _) (fun cs' e'' pr' hy=>?_) (fun _ _ hy=>by cases hy) (fun _ _ hy=>by cases hy)
       cases hy
       exact ⟨_,_,rfl,gd,h1,h2,h3,fun hf=>by cases hf⟩
      ·rw [foldl_push,n2];exact .string _
      ·rw [freeze_wput g0 (by omega)];exact below_wput _ h5
   ·simp at h
  ·simp at h
 ·rename_i e kk i hu
  split at h
  ·rename_i hi
   subst hi
   simp only [Option.some.injEq,Prod.mk.injEq] at h
   obtain ⟨rfl,rfl⟩:=h
   cases hp
   cases hk
   refine ⟨.string .empty,w,ι,?_,hS,.string _,Ext.refl _ _,Below.refl _ _⟩
   unfold Builtin.unsafeString_
   refine (run_bind_ok (s:=asInt (.int kk 0)) (a:=0) (w':=w) rfl).trans ?_
   simp only [ht]
   rfl
  ·simp at h
 ·simp at h
theorem sliceData_run (_hS:Sim J B ι H w) {at_:Array TypeId} {ty:TypeId} {p p' v:Value} (hp:VRel ι H.next p p') (h:isliceData p=some v):
  ∃v',(Builtin.unsafeSliceData_ at_ ty #[p']).run J.P w=.ok v' w∧VRel ι H.next v v':=by
 unfold isliceData at h
 split at h
 ·cases h
  cases hp
  exact ⟨_,rfl,.ptrN⟩
 ·rename_i a l c
  cases h
  cases hp with
  |slice ha hcc hle hs=>
   rename_i a' c'
   refine ⟨.pointer (some a'),?_,.ptr ha⟩
   unfold Builtin.unsafeSliceData_
   show (if c'≠0 then (pure (.pointer (some a')):Sem Value) else _).run J.P w=_
   rw [if_pos (by omega)]
   rfl
 ·simp at h
theorem typeAssert_run {n:Nat} {x x' v:Value} {xt t:TypeId} {ok:Bool} (hx:VRel ι n x x') (h:itypeAssert J x t ok=some v):
  ∃v',(Instr.typeAssert x' xt t ok).run J.P w=.ok v' w∧VRel ι n v v':=by
 have pair:∀{a b:Value},VRel ι n a b→∀c:Bool,VRel ι n (.tuple #[a,.bool c]) (.tuple #[b,.bool c]):=fun {a b} hab c=>by
  have:=LRel.cons hab (LRel.cons (VRel.bool (ι:=ι) (n:=n) c) LRel.nil)
  exact .tuple rfl fun i x y hx hy=>this.2 i x y (by simpa using hx) (by simpa using hy)
 have fails:∀{d:TypeDesc} {z:Value},J.und t=some d→J.zero t=some z→ok=true→∀(s dy:Option TypeId) (m:String) (rest:Sem Value),
   True:=fun _ _ _ _ _ _ _=>trivial
 unfold itypeAssert at h
 split at h
 ·simp at h
 ·rename_i d u v0 hni hu
  cases hx with
  |iface _ hv=>
   rename_i v0'
   split at h
   ·rename_i hut
    subst hut
    cases h
    refine ⟨if ok then .tuple #[v0',.bool true] else v0',?_,?_⟩
    ·unfold Instr.typeAssert
     rw [run_bind_ok (run_underlying hu)]
     cases d<;>first|exact absurd rfl (hni _)|(dsimp only;rw [if_pos rfl];rfl)
    ·cases ok
     ·exact hv
     ·exact pair hv true
   ·rename_i hut
    split at h
    ·rename_i hok
     subst hok
     cases hz:J.zero t with
     |none=>simp [hz] at h
     |some z=>
      simp only [hz,Option.map_some,Option.some.injEq] at h
      subst h
      obtain ⟨z1,z2⟩:=run_zeroValue (w:=w) hz
      refine ⟨.tuple #[z,.bool false],?_,pair (VRel.ofFlat z2) false⟩
      unfold Instr.typeAssert
      rw [run_bind_ok (run_underlying hu)]
      cases d<;>first|exact absurd rfl (hni _)|(dsimp only;rw [if_neg hut];simp only [if_true];rw [run_bind_ok z1];rfl)
    ·simp at h
 ·rename_i d hni hu
  cases hx
  split at h
  ·rename_i hok
   subst hok
   cases hz:J.zero t with
   |none=>simp [hz] at h
   |some z=>
    simp only [hz,Option.map_some,Option.some.injEq] at h
    subst h
    obtain ⟨z1,z2⟩:=run_zeroValue (w:=w) hz
    refine ⟨.tuple #[z,.bool false],?_,pair (VRel.ofFlat z2) false⟩
    unfold Instr.typeAssert
    rw [run_bind_ok (run_underlying hu)]
    cases d<;>first|exact absurd rfl (hni _)|(dsimp only;simp only [if_true];rw [run_bind_ok z1];rfl)
  ·simp at h
 ·simp at h
end
section
variable {J:Env} {B:Bd} {ι:Emb} {H:IH} {w:World}
def Does (J:Env) (B:Bd) (ι:Emb) (H:IH) (w:World) (r:Result Next):OR→Prop
 | .val v H'=>Good J B ι H.next w r v H'
 | .pan v H'=>H'=H∧∃v',r=.halt (.panic v') w∧VRel ι H.next v v'
 | .enter f args H'=>H'=H∧∃args':Array Value,r=.ok (.enter f args') w∧LRel ι H.next args.toList args'.toList
theorem does_val {v v':Value} {w':World} {ι':Emb} {H':IH} {s:Sem Value} (hr:s.run J.P w=.ok v' w') (hS:Sim J B ι' H' w') (hv:VRel ι' H'.next v v')
  (he:Ext ι H.next ι' H'.next) (hb:Below B w w'):Does J B ι H w ((do pure (.value (←s)):Sem Next).run J.P w) (.val v H'):=
 ⟨ι',w',v',.inl (by rw [run_bind_ok hr];rfl),hS,hv,he,hb⟩
theorem does_same {s:Sem Value} {v v':Value} (hS:Sim J B ι H w) (hr:s.run J.P w=.ok v' w) (hv:VRel ι H.next v v'):
  Does J B ι H w ((do pure (.value (←s)):Sem Next).run J.P w) (.val v H):=⟨ι,w,v',.inl (by rw [run_bind_ok hr];rfl),hS,hv,Ext.refl _ _,Below.refl _ _⟩
theorem does_skip {s:Sem Unit} {w':World} {ι':Emb} {H':IH} (hr:s.run J.P w=.ok () w') (hS:Sim J B ι' H' w') (he:Ext ι H.next ι' H'.next) (hb:Below B w w'):
  Does J B ι H w ((do s;pure .skip:Sem Next).run J.P w) (.val undef H'):=⟨ι',w',undef,.inr ⟨by rw [run_bind_ok hr];rfl,rfl⟩,hS,VRel.undef,he,hb⟩
theorem ipure_sound {o:Oper} {T:Regs} {ρ:Operand→Value} {r:OR} (hsel:∀cs b,o.op≠.select cs b) (hρ:∀x∈o.op.operands,VRel ι H.next (iev T x) (ρ x)) (hS:Sim J B ι H w)
  (h:ipure J o T H=some r):Does J B ι H w ((execOp ρ o).run J.P w) r:=by
 unfold ipure at h
 split at h
 case isFalse=>simp at h
 rename_i hf
 have he:execOp ρ o=execOp (iev T) o:=execOp_congr o hsel fun x hx=>by
  have:=Array.all_eq_true'.1 hf x hx
  exact (flat_eq (hρ x hx) this).symm
 split at h
 ·rename_i v hv
  split at h
  ·rename_i hfv
   cases h
   exact ⟨ι,w,v,.inl (by rw [he];exact pureRun_run hv w),hS,VRel.ofFlat hfv,Ext.refl _ _,Below.refl _ _⟩
  ·simp at h
 ·simp at h
theorem nilEq_run {n:Nat} {t:TypeId} {x x' y y':Value} {b:Bool} (hx:VRel ι n x x') (hy:VRel ι n y y') (h:nilEq x y=some b) (hf:(fitsNil J t x&&fitsNil J t y)=true):
  (Op.equal t x' y').run J.P w=.ok b w:=by
 simp only [Bool.and_eq_true] at hf
 unfold Op.equal Op.maxDepth
 show (Op.equalIn (9999+1) t x' y').run J.P w=_
 unfold Op.equalIn
 cases hu:J.und t with
 |none=>simp [fitsNil,hu] at hf
 |some d=>
  rw [run_bind_ok (run_underlying hu)]
  cases hx<;>cases hy<;>first|(simp [nilEq] at h;done)|skip
  case ptr.ptr a a' ha b b' hb=>
   simp only [nilEq] at h
   split at h
   ·rename_i hc
    obtain ⟨c1,c2,c3⟩:=hc
    simp only [Option.some.injEq] at h
    subst h
    obtain ⟨_,_,rfl⟩:=ha
    obtain ⟨_,_,rfl⟩:=hb
    rw [←c1]
    have key:(sameAddr ⟨(ι a.block).rb,(ι a.block).ro+a.off,none⟩ ⟨(ι a.block).rb,(ι a.block).ro+b.off,none⟩).run J.P w=.ok (decide (a.off=b.off)) w:=by
     unfold sameAddr
     rw [if_pos (by simp)]
     show Result.ok _ _=_
     congr 1
     by_cases e:a.off=b.off
     ·simp [e]
     ·simp [e]
    cases d
    case pointer elem=>
     simp only [fitsNil,hu,Option.any_eq_true,bne_iff_ne] at hf
     obtain ⟨⟨n,hn,hn0⟩,_⟩:=hf
     refine (run_bind_ok (run_sizeOf hn)).trans ?_
     rw [if_pos hn0]
     exact key
    all_goals (simp [fitsNil,hu] at hf;done)
   ·simp at h
  all_goals (simp only [nilEq,Option.some.injEq] at h;subst h)
  all_goals (cases d<;>first|(simp [fitsNil,hu] at hf;done)|rfl)
theorem call_func {ρ:Operand→Value} {o:Oper} {c:Call} {f:Operand} {g:FuncId} {first captured:Array Value} {fn:Func} (ho:o.op=.call c) (hc:c.callee=.value f) (hf:ρ f=.func (.func g) first captured)
  (hfn:J.P.funcs[g]?=some fn) (hb:fn.body.isSome=true) (hn:(fn.name== "runtime.NumGoroutine")=false):
  (execOp ρ o).run J.P w=.ok (.enter g (first++c.args.map ρ++captured)) w:=by
 unfold execOp
 rw [ho]
 dsimp only
 unfold resolve
 rw [hc]
 dsimp only
 rw [hf]
 unfold Deferred.ofValue
 rw [run_bind_ok (run_pure _)]
 unfold invoke
 dsimp only
 unfold callFunc
 rw [run_bind_ok run_program,hfn]
 dsimp only
 rw [hn]
 have hb':fn.body.isNone=false:=by cases h:fn.body<;>simp_all
 rw [hb']
 rfl
theorem call_ident {ρ:Operand→Value} {o:Oper} {c:Call} {f:Operand} {g:FuncId} {first captured:Array Value} {u:Value} (ho:o.op=.call c) (hc:c.callee=.value f) (hf:ρ f=.func (.func g) first captured)
  (hid:J.ident g=true) (hu:first++c.args.map ρ++captured=#[u]):
  (execOp ρ o).run J.P w=.ok (.value u) w:=by
 obtain ⟨fn,hfn,hn,hb,hx,he⟩:=J.ident_ok g hid
 unfold execOp
 rw [ho]
 dsimp only
 unfold resolve
 rw [hc]
 dsimp only
 rw [hf]
 unfold Deferred.ofValue
 rw [run_bind_ok (run_pure _)]
 unfold invoke
 dsimp only
 unfold callFunc
 rw [run_bind_ok run_program,hfn]
 dsimp only
 rw [hn,hb]
 simp only [Bool.false_eq_true,if_false,if_true]
 rw [run_bind_ok (show (mark (.extern g)).run J.P w=.ok () w from rfl),hx,he]
 dsimp only
 rw [hu]
 rfl
theorem ORel.map {n:Nat} {T:Regs} {ρ:Operand→Value} {x:Option Operand} (h:∀y∈x.toArray,VRel ι n (iev T y) (ρ y)):ORel ι n (x.map (iev T)) (x.map ρ):=by
 cases x with
 |none=>trivial
 |some y=>exact h y (by simp)
theorem args_rel {n:Nat} {T:Regs} {ρ:Operand→Value} {xs:Array Operand} (h:∀y∈xs,VRel ι n (iev T y) (ρ y)):LRel ι n (xs.map (iev T)).toList (xs.map ρ).toList:=by
 refine ⟨by simp,fun i x y hx hy=>?_⟩
 simp only [Array.toList_map,List.getElem?_map] at hx hy
 cases e:xs.toList[i]? with
 |none=>simp [e] at hx
 |some z=>
  simp only [e,Option.map_some,Option.some.injEq] at hx hy
  subst hx;subst hy
  exact h z (by have:=List.mem_of_getElem? e;simpa using this)
theorem getElem_mem {xs:Array Operand} {i:Nat} {x:Operand} (h:xs[i]?=some x):x∈xs:=Array.mem_of_getElem? h
theorem sizeT_of_zero {e:TypeId} {z:Value} (h:J.zero e=some z):∃n,J.size e=some n:=by
 exact J.size_some h
theorem nilEq_guard {n:Nat} {op:BinOp} {t:TypeId} {p q:Operand} {x x' y y':Value} {b:Bool} (hx:VRel ι n x x') (hy:VRel ι n y y') (h:nilEq x y=some b):
  (eqGuard op t p q x' y').run J.P w=.ok () w:=by
 unfold eqGuard
 cases hx<;>cases hy<;>first|(simp [nilEq] at h;done)|(cases op<;>rfl)
theorem nilEq_eql {n:Nat} {t:TypeId} {x x' y y':Value} {b:Bool} (hx:VRel ι n x x') (hy:VRel ι n y y') (h:nilEq x y=some b) (hr:(Op.equal t x' y').run J.P w=.ok b w):
  (binOp .eql t x' y').run J.P w=.ok (.bool b) w:=by
 cases hx<;>cases hy<;>first|(simp [nilEq] at h;done)|(unfold binOp;dsimp only;rw [run_bind_ok hr];rfl)
theorem nilEq_neq {n:Nat} {t:TypeId} {x x' y y':Value} {b:Bool} (hx:VRel ι n x x') (hy:VRel ι n y y') (h:nilEq x y=some b) (hr:(Op.equal t x' y').run J.P w=.ok b w):
  (binOp .neq t x' y').run J.P w=.ok (.bool (!b)) w:=by
 cases hx<;>cases hy<;>first|(simp [nilEq] at h;done)|(unfold binOp;dsimp only;rw [run_bind_ok hr];rfl)
theorem append_args {at_:Array TypeId} {ty:TypeId} {args:Array Value} {s x:Value} (h0:args[0]?=some s) (h1:args[1]?=some x):
  Builtin.append_ at_ ty args=Builtin.append_ at_ ty #[s,x]:=by
 unfold Builtin.append_
 simp only [h0,h1,List.getElem?_toArray,List.getElem?_cons_zero,List.getElem?_cons_succ]
theorem copy_args {at_:Array TypeId} {ty:TypeId} {args:Array Value} {s x:Value} (h0:args[0]?=some s) (h1:args[1]?=some x):
  Builtin.copy_ at_ ty args=Builtin.copy_ at_ ty #[s,x]:=by
 unfold Builtin.copy_
 simp only [h0,h1,List.getElem?_toArray,List.getElem?_cons_zero,List.getElem?_cons_succ]
theorem call_builtin {ρ:Operand→Value} {o:Oper} {c:Call} {b:Builtin} (ho:o.op=.call c) (hc:c.callee=.builtin b):
  ∃cs,(execOp ρ o).run J.P w=(builtin b c.argTypes o.type cs (c.args.map ρ)).run J.P w:=by
 unfold execOp
 rw [ho]
 dsimp only
 unfold resolve
 rw [hc]
 dsimp only
 rw [run_bind_ok (run_pure _)]
 exact ⟨_,rfl⟩
theorem iop_sound (hS:Sim J B ι H w) (o:Oper) {T:Regs} {ρ:Operand→Value} {r:OR} (hρ:∀x∈o.op.operands,VRel ι H.next (iev T x) (ρ x)) (h:iop J o T H=some r):
  Does J B ι H w ((execOp ρ o).run J.P w) r:=by
 have hpure:(∀cs b,o.op≠.select cs b)→ipure J o T H=some r→Does J B ι H w ((execOp ρ o).run J.P w) r:=fun hsel hp=>ipure_sound hsel hρ hS hp
 obtain ⟨dst,op,type,pos,after,guard⟩:=o
 cases op
 case move x=>
  cases h
  exact ⟨ι,w,_,.inl rfl,hS,hρ x (by simp [Op.operands]),Ext.refl _ _,Below.refl _ _⟩
 case assign x=>
  cases h
  exact ⟨ι,w,_,.inl rfl,hS,hρ x (by simp [Op.operands]),Ext.refl _ _,Below.refl _ _⟩
 case pick c a b=>
  have hc:=hρ c (by simp [Op.operands])
  simp only [iop] at h
  split at h
  ·rename_i e
   rw [e] at hc
   cases h
   refine ⟨ι,w,_,.inl ?_,hS,hρ a (by simp [Op.operands]),Ext.refl _ _,Below.refl _ _⟩
   have:ρ c=.bool true:=by cases hc':ρ c<;>rw [hc'] at hc<;>cases hc;rfl
   simp only [execOp,this];rfl
  ·rename_i e
   rw [e] at hc
   cases h
   refine ⟨ι,w,_,.inl ?_,hS,hρ b (by simp [Op.operands]),Ext.refl _ _,Below.refl _ _⟩
   have:ρ c=.bool false:=by cases hc':ρ c<;>rw [hc'] at hc<;>cases hc;rfl
   simp only [execOp,this];rfl
  ·simp at h
 case alloc e=>
  simp only [iop] at h
  cases hz:J.zero e with
  |none=>simp [hz] at h
  |some z=>
   simp only [hz,Option.map_some,Option.some.injEq] at h
   subst h
   obtain ⟨z1,z2⟩:=run_zeroValue (w:=w) hz
   obtain ⟨n,hn⟩:=sizeT_of_zero hz
   obtain ⟨r1,r2,r3,r4⟩:=new_run hS (e:=e) hn (flat_cells z2)
   refine does_val (s:=Instr.alloc e true (.tuple #[])) (v':=.pointer (some ⟨w.heap.size,0,none⟩)) ?_ r2 (.ptr ⟨rfl,by simp [inew],by simp [upd_eq]⟩) r3 r4
   unfold Instr.alloc
   rw [run_bind_ok z1]
   dsimp only
   unfold newVar
   rw [run_bind_ok r1];rfl
 case box e x=>
  simp only [iop] at h
  cases hn:J.size e with
  |none=>simp [hn] at h
  |some n=>
   simp only [hn,Option.map_some,Option.some.injEq] at h
   subst h
   obtain ⟨r1,r2,r3,r4⟩:=new_run hS (e:=e) hn (hρ x (by simp [Op.operands])).cells
   refine does_val (s:=Instr.box e (ρ x)) (v':=.pointer (some ⟨w.heap.size,0,none⟩)) ?_ r2 (.ptr ⟨rfl,by simp [inew],by simp [upd_eq]⟩) r3 r4
   unfold Instr.box newVar
   rw [run_bind_ok r1];rfl
 case build t ps=>
  simp only [iop,OR.ofVal] at h
  cases hb:ibuild J t (iparts T ps) with
  |none=>simp [hb] at h
  |some v=>
   simp only [hb,Option.map_some,Option.some.injEq] at h
   subst h
   obtain ⟨v',h1,h2⟩:=build_run (w:=w) (parts_rel ps fun x hx=>hρ x (by simpa [Op.operands] using hx)) hb
   exact does_same hS h1 h2
 case buildSlice t n ps=>
  simp only [iop,OR.ofPair] at h
  cases hb:ibuildSlice J t n (iparts T ps) H with
  |none=>simp [hb] at h
  |some p=>
   obtain ⟨v,H'⟩:=p
   simp only [hb,Option.map_some,Option.some.injEq] at h
   subst h
   obtain ⟨v',w',ι',h1,h2,h3,h4,h5⟩:=buildSlice_run hS (parts_rel ps fun x hx=>hρ x (by simpa [Op.operands] using hx)) hb
   exact does_val h1 h2 h3 h4 h5
 case load t a=>
  have ha:=hρ a (by simp [Op.operands])
  simp only [iop] at h
  split at h
  ·rename_i ad e
   rw [e] at ha
   cases hl:iload J t ad H with
   |none=>simp [hl,OR.ofVal] at h
   |some v=>
    simp only [hl,OR.ofVal,Option.map_some,Option.some.injEq] at h
    subst h
    cases hra:ρ a<;>rw [hra] at ha<;>cases ha
    rename_i hA
    obtain ⟨v',h1,h2⟩:=iload_run hS hA hl
    refine does_same (s:=Instr.loadAt t (ρ a)) hS ?_ h2
    rw [hra]
    unfold Instr.loadAt
    rw [run_bind_ok (show (Instr.sureAddr (.pointer (some _))).run J.P w=.ok _ w from rfl)]
    exact h1
  ·simp at h
 case store t a x=>
  have ha:=hρ a (by simp [Op.operands])
  have hx:=hρ x (by simp [Op.operands])
  simp only [iop] at h
  split at h
  ·rename_i ad e
   rw [e] at ha
   cases hl:istore J t ad (iev T x) H with
   |none=>simp [hl,OR.ofHeap] at h
   |some H'=>
    simp only [hl,OR.ofHeap,Option.map_some,Option.some.injEq] at h
    subst h
    cases hra:ρ a<;>rw [hra] at ha<;>cases ha
    rename_i hA
    obtain ⟨w',h1,h2,h3,h4⟩:=istore_run hS hA hx hl
    refine does_skip (s:=Instr.storeAt t (ρ a) (ρ x)) (ι':=ι) ?_ h2 (by rw [h4];exact Ext.refl _ _) h3
    rw [hra]
    unfold Instr.storeAt
    rw [run_bind_ok (show (Instr.sureAddr (.pointer (some _))).run J.P w=.ok _ w from rfl)]
    exact h1
  ·simp at h
 case nilCheck x=>
  have hx:=hρ x (by simp [Op.operands])
  simp only [iop] at h
  split at h
  ·rename_i a e
   rw [e] at hx
   cases h
   cases hra:ρ x<;>rw [hra] at hx<;>cases hx
   rename_i hA
   refine ⟨ι,w,_,.inl ?_,hS,.ptr hA,Ext.refl _ _,Below.refl _ _⟩
   simp only [execOp,hra];rfl
  ·rename_i g first captured e
   rw [e] at hx
   cases h
   have hx0:=hx
   cases hra:ρ x<;>rw [hra] at hx<;>cases hx
   refine ⟨ι,w,_,.inl ?_,hS,by rw [hra] at hx0;exact hx0,Ext.refl _ _,Below.refl _ _⟩
   simp only [execOp,hra];rfl
  ·simp at h
 case binOp op t x y yt=>
  have hx:=hρ x (by simp [Op.operands])
  have hy:=hρ y (by simp [Op.operands])
  simp only [iop] at h
  split at h
  ·rename_i b e
   split at h
   ·rename_i hf
    cases h
    have:=nilEq_run (w:=w) hx hy e hf
    refine does_same (s:=do eqGuard .eql t x y (ρ x) (ρ y);binOp .eql t (ρ x) (ρ y)) hS ?_ (.bool b)
    rw [run_bind_ok (nilEq_guard hx hy e)]
    exact nilEq_eql hx hy e this
   ·simp at h
  ·rename_i b e
   split at h
   ·rename_i hf
    cases h
    have:=nilEq_run (w:=w) hx hy e hf
    refine does_same (s:=do eqGuard .neq t x y (ρ x) (ρ y);binOp .neq t (ρ x) (ρ y)) hS ?_ (.bool (!b))
    rw [run_bind_ok (nilEq_guard hx hy e)]
    exact nilEq_neq hx hy e this
   ·simp at h
  ·exact hpure (by simp) h
 case convert src dst x=>
  have hx:=hρ x (by simp [Op.operands])
  simp only [iop] at h
  split at h
  ·rename_i v H' e
   cases h
   obtain ⟨v',w',ι',h1,h2,h3,h4,h5⟩:=convert_run hS hx e
   exact does_val h1 h2 h3 h4 h5
  ·exact hpure (by simp) h
 case makeInterface t x=>
  have hx:=hρ x (by simp [Op.operands])
  simp only [iop] at h
  split at h
  ·simp at h
  ·simp at h
  ·rename_i d hni hu
   cases h
   refine does_same (s:=Instr.makeInterface t (ρ x)) hS ?_ (.iface t hx)
   unfold Instr.makeInterface
   rw [run_bind_ok (run_underlying hu)]
   cases d<;>first|exact absurd rfl (hni _)|rfl
 case makeFunc fn first captured=>
  cases fn<;>simp only [iop] at h<;>first|exact hpure (by simp) h|skip
  cases h
  have h1:=args_rel (xs:=first) fun y hy=>hρ y (by simp [Op.operands,hy])
  have h2:=args_rel (xs:=captured) fun y hy=>hρ y (by simp [Op.operands,hy])
  exact ⟨ι,w,_,.inl rfl,hS,.func _ (by simp) (fun i x y a b=>h1.2 i x y (by simpa using a) (by simpa using b)) (by simp) (fun i x y a b=>h2.2 i x y (by simpa using a) (by simpa using b)),
   Ext.refl _ _,Below.refl _ _⟩
 case makeMap t r=>
  cases r with
  |some r=>exact hpure (by simp) h
  |none=>
   cases h
   obtain ⟨h1,h2⟩:=hS.push (w':={ w with heap:=w.heap.push (.map #[] 0) }) (.map [] false) (.map #[] 0) 0 0 rfl (fun _ _ _ hx=>by cases hx) (fun _ _ hx=>by cases hx;exact ⟨rfl,_,rfl⟩) (fun _ _ hx=>by cases hx)
   refine does_val (s:=Instr.makeMap t none) (v':=.map (some w.heap.size)) rfl h1 ?_ h2 (below_push _ hS.base)
   have:=VRel.map (ι:=upd ι H.next ⟨w.heap.size,0,0,0⟩) (n:=H.next+1) (r:=H.next) (by omega)
   rw [upd_eq] at this
   exact this
 case makeSlice t l c=>
  simp only [iop,OR.ofPair] at h
  cases hb:imakeSlice J t (iev T l) (iev T c) H with
  |none=>simp [hb] at h
  |some p=>
   obtain ⟨v,H'⟩:=p
   simp only [hb,Option.map_some,Option.some.injEq] at h
   subst h
   obtain ⟨v',w',ι',h1,h2,h3,h4,h5⟩:=makeSlice_run hS (hρ l (by simp [Op.operands])) (hρ c (by simp [Op.operands])) hb
   exact does_val h1 h2 h3 h4 h5
 case slice t x lo hi mx=>
  simp only [iop,OR.ofVal] at h
  cases hb:islice J t (iev T x) (lo.map (iev T)) (hi.map (iev T)) (mx.map (iev T)) H with
  |none=>simp [hb] at h
  |some v=>
   simp only [hb,Option.map_some,Option.some.injEq] at h
   subst h
   obtain ⟨v',h1,h2⟩:=slice_run hS (hρ x (by simp [Op.operands])) (ORel.map fun y hy=>hρ y (by simp [Op.operands] at hy ⊢;simp [hy])) (ORel.map fun y hy=>hρ y (by simp [Op.operands] at hy ⊢;simp [hy]))
    (ORel.map fun y hy=>hρ y (by simp [Op.operands] at hy ⊢;simp [hy])) hb
   exact does_same hS h1 h2
 case fieldAddr s x f=>
  simp only [iop,OR.ofVal] at h
  cases hb:ifieldAddr J s (iev T x) f with
  |none=>simp [hb] at h
  |some v=>
   simp only [hb,Option.map_some,Option.some.injEq] at h
   subst h
   obtain ⟨v',h1,h2⟩:=fieldAddr_run (w:=w) (hρ x (by simp [Op.operands])) hb
   exact does_same hS h1 h2
 case field s x f=>
  simp only [iop,OR.ofVal] at h
  cases hb:ifield J s (iev T x) f with
  |none=>simp [hb] at h
  |some v=>
   simp only [hb,Option.map_some,Option.some.injEq] at h
   subst h
   obtain ⟨v',h1,h2⟩:=field_run (w:=w) (hρ x (by simp [Op.operands])) hb
   exact does_same hS h1 h2
 case indexAddr t x ix=>
  simp only [iop,OR.ofVal] at h
  cases hb:iindexAddr J t (iev T x) (iev T ix) with
  |none=>simp [hb] at h
  |some v=>
   simp only [hb,Option.map_some,Option.some.injEq] at h
   subst h
   obtain ⟨v',h1,h2⟩:=indexAddr_run (w:=w) (hρ x (by simp [Op.operands])) (hρ ix (by simp [Op.operands])) hb
   exact does_same hS h1 h2
 case index t x ix=>
  simp only [iop,OR.ofVal] at h
  cases hb:iindex J t (iev T x) (iev T ix) with
  |none=>simp [hb] at h
  |some v=>
   simp only [hb,Option.map_some,Option.some.injEq] at h
   subst h
   obtain ⟨v',h1,h2⟩:=index_run (w:=w) (hρ x (by simp [Op.operands])) (hρ ix (by simp [Op.operands])) hb
   exact does_same hS h1 h2
 case lookup t x k ok=>
  simp only [iop,OR.ofVal] at h
  cases hb:ilookup J t (iev T x) (iev T k) ok H with
  |none=>simp [hb] at h
  |some v=>
   simp only [hb,Option.map_some,Option.some.injEq] at h
   subst h
   obtain ⟨v',h1,h2⟩:=lookup_run hS (hρ x (by simp [Op.operands])) (hρ k (by simp [Op.operands])) hb
   exact does_same hS h1 h2
 case mapUpdate t m k x=>
  simp only [iop,OR.ofHeap] at h
  cases hb:imapUpdate J t (iev T m) (iev T k) (iev T x) H with
  |none=>simp [hb] at h
  |some H'=>
   simp only [hb,Option.map_some,Option.some.injEq] at h
   subst h
   obtain ⟨w',h1,h2,h3,h4⟩:=mapUpdate_run hS (hρ m (by simp [Op.operands])) (hρ k (by simp [Op.operands])) (hρ x (by simp [Op.operands])) hb
   exact does_skip (ι':=ι) h1 h2 (by rw [h4];exact Ext.refl _ _) h3
 case insert t m k x=>
  simp only [iop,OR.ofHeap] at h
  cases hb:imapUpdate J t (iev T m) (iev T k) (iev T x) H with
  |none=>simp [hb] at h
  |some H'=>
   simp only [hb,Option.map_some,Option.some.injEq] at h
   subst h
   obtain ⟨w',h1,h2,h3,h4⟩:=mapUpdate_run hS (hρ m (by simp [Op.operands])) (hρ k (by simp [Op.operands])) (hρ x (by simp [Op.operands])) hb
   exact does_skip (ι':=ι) h1 h2 (by rw [h4];exact Ext.refl _ _) h3
 case typeAssert x xt t ok=>
  simp only [iop,OR.ofVal] at h
  cases hb:itypeAssert J (iev T x) t ok with
  |none=>simp [hb] at h
  |some v=>
   simp only [hb,Option.map_some,Option.some.injEq] at h
   subst h
   obtain ⟨v',h1,h2⟩:=typeAssert_run (w:=w) (xt:=xt) (hρ x (by simp [Op.operands])) hb
   exact does_same hS h1 h2
 case extract x i=>
  have hx:=hρ x (by simp [Op.operands])
  simp only [iop] at h
  split at h
  ·rename_i vs e
   rw [e] at hx
   cases hv:vs[i]? with
   |none=>simp [hv,OR.ofVal] at h
   |some v=>
    simp only [hv,OR.ofVal,Option.map_some,Option.some.injEq] at h
    subst h
    cases hra:ρ x<;>rw [hra] at hx<;>cases hx
    rename_i ys h1 h2
    obtain ⟨y,hy,hr⟩:=getElem_rel h1 h2 hv
    refine does_same (s:=Instr.extract (ρ x) i) hS ?_ hr
    rw [hra]
    simp only [Instr.extract,hy];rfl
  ·simp at h
 case call c=>
  have hargs:∀x∈c.args,VRel ι H.next (iev T x) (ρ x):=fun x hx=>hρ x (by simp [Op.operands,Call.operands,hx])
  have hmap:∀(i:Nat) (x:Operand),c.args[i]?=some x→(c.args.map ρ)[i]?=some (ρ x):=fun i x hx=>by simp [hx]
  simp only [iop] at h
  unfold icall0 at h
  split at h
  ·rename_i f hc
   have hf:=hρ f (by simp [Op.operands,Call.operands,hc])
   split at h
   ·rename_i g first captured e
    split at h
    ·rename_i hb
     cases h
     rw [e] at hf
     cases hra:ρ f<;>rw [hra] at hf<;>cases hf
     rename_i xs us h1 h2 h3 h4
     unfold hasBody at hb
     split at hb
     ·rename_i fn hfn
      obtain ⟨hfn1,hfn2⟩:=J.fn_ok g fn hfn
      refine ⟨rfl,_,call_func rfl hc hra hfn1 hb hfn2,?_⟩
      simp only [Array.toList_append]
      exact (LRel.append ⟨by simpa using h1,fun i x y a b=>h2 i x y (by simpa using a) (by simpa using b)⟩ (args_rel hargs)).append ⟨by simpa using h3,fun i x y a b=>h4 i x y (by simpa using a) (by simpa using b)⟩
     ·simp at hb
    ·split at h
     ·rename_i hid
      rw [e] at hf
      cases hra:ρ f<;>rw [hra] at hf<;>cases hf
      rename_i xs us h1 h2 h3 h4
      have hl:LRel ι H.next (first++c.args.map (iev T)++captured).toList (xs++c.args.map ρ++us).toList:=by
       simp only [Array.toList_append]
       exact (LRel.append ⟨by simpa using h1,fun i x y a b=>h2 i x y (by simpa using a) (by simpa using b)⟩ (args_rel hargs)).append ⟨by simpa using h3,fun i x y a b=>h4 i x y (by simpa using a) (by simpa using b)⟩
      unfold identR at h
      split at h
      ·rename_i v hv
       cases h
       rw [hv] at hl
       obtain ⟨u,hu,hvu⟩:=hl.get (i:=0) rfl
       have hul:(xs++c.args.map ρ++us)=#[u]:=by
        rw [←Array.toList_inj]
        have hlen:=hl.1
        cases hq:(xs++c.args.map ρ++us).toList with
        |nil=>rw [hq] at hlen;simp at hlen
        |cons a r=>
         rw [hq] at hlen hu
         cases r with
         |nil=>simp at hu;simp [hu]
         |cons=>simp at hlen
       exact ⟨ι,w,u,.inl (call_ident rfl hc hra hid hul),hS,hvu,Ext.refl _ _,Below.refl _ _⟩
      ·simp at h
     ·exact hpure (by simp) h
   ·simp at h
  ·simp at h
  ·rename_i hc
   split at h
   ·rename_i x t hx ht
    have hxr:=hargs x (getElem_mem hx)
    split at h
    ·rename_i e a n c' hu he
     cases h
     rw [he] at hxr
     obtain ⟨cs,hrun⟩:=call_builtin (J:=J) (w:=w) (ρ:=ρ) (o:=⟨dst,.call c,type,pos,after,guard⟩) rfl hc
     have hl:(Builtin.len_ c.argTypes type (c.args.map ρ)).run J.P w=.ok (.int .i64 n) w:=by
      unfold Builtin.len_
      rw [ht,hmap 0 x hx]
      dsimp only
      rw [run_bind_ok (run_underlying hu)]
      cases hra:ρ x<;>rw [hra] at hxr<;>cases hxr<;>rfl
     exact ⟨ι,w,_,.inl (by rw [hrun];show (do pure (.value (←Builtin.len_ c.argTypes type (c.args.map ρ))):Sem Next).run J.P w=_;rw [run_bind_ok hl];rfl),hS,.int _ _,Ext.refl _ _,Below.refl _ _⟩
    ·rename_i k e r hu he
     split at h
     ·rename_i es pr hb
      cases h
      rw [he] at hxr
      obtain ⟨cs,hrun⟩:=call_builtin (J:=J) (w:=w) (ρ:=ρ) (o:=⟨dst,.call c,type,pos,after,guard⟩) rfl hc
      obtain ⟨res,clk,g0,g1,g2,g3⟩:=hS.maps _ _ _ hb
      have hl:(Builtin.len_ c.argTypes type (c.args.map ρ)).run J.P w=.ok (.int .i64 es.length) w:=by
       unfold Builtin.len_
       rw [ht,hmap 0 x hx]
       dsimp only
       rw [run_bind_ok (run_underlying hu)]
       cases hra:ρ x<;>rw [hra] at hxr<;>cases hxr
       dsimp only
       rw [run_bind_ok (getObj_run g0 (by simp))]
       dsimp only
       rw [g1];rfl
      exact ⟨ι,w,_,.inl (by rw [hrun];show (do pure (.value (←Builtin.len_ c.argTypes type (c.args.map ρ))):Sem Next).run J.P w=_;rw [run_bind_ok hl];rfl),hS,.int _ _,Ext.refl _ _,Below.refl _ _⟩
     ·simp at h
    ·exact hpure (by simp) h
   ·simp at h
  ·rename_i hc
   split at h
   ·rename_i s x hs hx
    cases hb:iappend J c.argTypes (iev T s) (iev T x) H with
    |none=>simp [hb,OR.ofPair] at h
    |some p=>
     obtain ⟨v,H'⟩:=p
     simp only [hb,OR.ofPair,Option.map_some,Option.some.injEq] at h
     subst h
     obtain ⟨cs,hrun⟩:=call_builtin (J:=J) (w:=w) (ρ:=ρ) (o:=⟨dst,.call c,type,pos,after,guard⟩) rfl hc
     obtain ⟨v',w',ι',h1,h2,h3,h4,h5⟩:=append_run hS (ty:=type) (hargs s (getElem_mem hs)) (hargs x (getElem_mem hx)) hb
     rw [hrun]
     refine does_val (s:=Builtin.append_ c.argTypes type (c.args.map ρ)) ?_ h2 h3 h4 h5
     rw [append_args (hmap 0 s hs) (hmap 1 x hx)];exact h1
   ·simp at h
  ·rename_i hc
   split at h
   ·rename_i s x hs hx
    cases hb:icopy J c.argTypes (iev T s) (iev T x) H with
    |none=>simp [hb,OR.ofPair] at h
    |some p=>
     obtain ⟨v,H'⟩:=p
     simp only [hb,OR.ofPair,Option.map_some,Option.some.injEq] at h
     subst h
     obtain ⟨cs,hrun⟩:=call_builtin (J:=J) (w:=w) (ρ:=ρ) (o:=⟨dst,.call c,type,pos,after,guard⟩) rfl hc
     obtain ⟨v',w',ι',h1,h2,h3,h4,h5⟩:=copy_run hS (ty:=type) (hargs s (getElem_mem hs)) (hargs x (getElem_mem hx)) hb
     rw [hrun]
     refine does_val (s:=Builtin.copy_ c.argTypes type (c.args.map ρ)) ?_ h2 h3 h4 h5
     rw [copy_args (hmap 0 s hs) (hmap 1 x hx)];exact h1
   ·simp at h
  ·rename_i hc
   split at h
   ·rename_i s hs
    cases hb:iclear J c.argTypes (iev T s) H with
    |none=>simp [hb,OR.ofPair] at h
    |some p=>
     obtain ⟨v,H'⟩:=p
     simp only [hb,OR.ofPair,Option.map_some,Option.some.injEq] at h
     subst h
     obtain ⟨cs,hrun⟩:=call_builtin (J:=J) (w:=w) (ρ:=ρ) (o:=⟨dst,.call c,type,pos,after,guard⟩) rfl hc
     obtain ⟨v',w',ι',h1,h2,h3,h4,h5⟩:=clear_run hS (ty:=type) (hmap 0 s hs) (hargs s (getElem_mem hs)) hb
     rw [hrun]
     exact does_val (s:=Builtin.clear_ c.argTypes type (c.args.map ρ)) h1 h2 h3 h4 h5
   ·simp at h
  ·rename_i hc
   split at h
   ·rename_i s x pt hsx hpt
    have hce:c.args=#[s,x]:=by rw [←Array.toList_inj];exact hsx
    cases hb:iunsafeString J pt (iev T s) (iev T x) H with
    |none=>simp [hb,OR.ofPair] at h
    |some p=>
     obtain ⟨v,H'⟩:=p
     simp only [hb,OR.ofPair,Option.map_some,Option.some.injEq] at h
     subst h
     obtain ⟨cs,hrun⟩:=call_builtin (J:=J) (w:=w) (ρ:=ρ) (o:=⟨dst,.call c,type,pos,after,guard⟩) rfl hc
     obtain ⟨v',w',ι',h1,h2,h3,h4,h5⟩:=unsafeString_run hS (ty:=type) (hargs s (by rw [hce];simp)) (hargs x (by rw [hce];simp)) hpt hb
     rw [hrun]
     refine does_val (s:=Builtin.unsafeString_ c.argTypes type (c.args.map ρ)) ?_ h2 h3 h4 h5
     rw [hce];simpa using h1
   ·simp at h
  ·rename_i hc
   split at h
   ·rename_i x hsx
    have hce:c.args=#[x]:=by rw [←Array.toList_inj];exact hsx
    cases hb:isliceData (iev T x) with
    |none=>simp [hb,OR.ofVal] at h
    |some v=>
     simp only [hb,OR.ofVal,Option.map_some,Option.some.injEq] at h
     subst h
     obtain ⟨cs,hrun⟩:=call_builtin (J:=J) (w:=w) (ρ:=ρ) (o:=⟨dst,.call c,type,pos,after,guard⟩) rfl hc
     obtain ⟨v',h1,h2⟩:=sliceData_run hS (at_:=c.argTypes) (ty:=type) (hargs x (by rw [hce];simp)) hb
     rw [hrun]
     refine does_val (s:=Builtin.unsafeSliceData_ c.argTypes type (c.args.map ρ)) ?_ hS h2 (Ext.refl _ _) (Below.refl _ _)
     rw [hce];simpa using h1
   ·simp at h
  ·exact hpure (by simp) h
 case select=>simp [iop] at h
 case panic x=>
  have hx:=hρ x (by simp [Op.operands])
  simp only [iop] at h
  split at h
  ·rename_i t v e
   rw [e] at hx
   cases h
   have hx0:=hx
   cases hra:ρ x<;>rw [hra] at hx<;>cases hx
   refine ⟨rfl,_,?_,by rw [hra] at hx0;exact hx0⟩
   simp only [execOp,hra]
   rfl
  ·simp at h
 all_goals exact hpure (by simp) h
end
def RegsRel (ι:Emb) (n:Nat) (T:Regs) (tmps:Array Value):Prop:=∀t,VRel ι n (T.at t) (tmps.getD t undef)
theorem RegsRel.ext {ι ι':Emb} {n n':Nat} {T:Regs} {tmps:Array Value} (h:RegsRel ι n T tmps) (he:Ext ι n ι' n'):RegsRel ι' n' T tmps:=fun t=>(h t).ext he
theorem at_set (T:Regs) (d t:Nat) (v:Value):Regs.at (T.set d v) t=if t=d then v else T.at t:=by
 unfold Regs.at
 rw [Tr.get_set]
 split<;>rfl
theorem RegsRel.put {ι:Emb} {n:Nat} {T:Regs} {a:Act} {d:Option Tmp} {v v':Value} (h:RegsRel ι n T a.tmps) (hv:VRel ι n v v') (hd:∀t,d=some t→t<a.tmps.size):
  RegsRel ι n (putR T d v) (a.put d v').tmps:=by
 cases d with
 |none=>exact h
 |some d=>
  have hlt:=hd d rfl
  intro t
  simp only [putR,Act.put,at_set]
  by_cases e:t=d
  ·subst e
   simp only [if_true]
   simpa [hlt] using hv
  ·rw [if_neg e]
   have:=h t
   simpa [Array.getElem?_setIfInBounds_ne (Ne.symm e)] using this
theorem put_size (a:Act) (d:Option Tmp) (v:Value):(a.put d v).tmps.size=a.tmps.size:=by cases d<;>simp [Act.put]
theorem put_defers (a:Act) (d:Option Tmp) (v:Value):(a.put d v).defers=a.defers:=by cases d<;>rfl
def operandOk (J:Env):Operand→Bool
 | .const v=>flat v
 | .global g=>decide (g<J.P.globals.size)
 |_=>true
def opOk (J:Env) (N:Nat) (o:Oper):Bool:=o.op.operands.all (operandOk J)&&(match o.dst with|some d=>decide (d<N)|none=>true)
section
variable {J:Env} {B:Bd} {ι:Emb} {H:IH} {w:World}
theorem operand_rel (hS:Sim J B ι H w) {T:Regs} {a:Act} (hR:RegsRel ι H.next T a.tmps) {x:Operand} (hx:operandOk J x=true):VRel ι H.next (iev T x) (a.eval x):=by
 cases x with
 |tmp t=>exact hR t
 |const v=>exact VRel.ofFlat hx
 |global g=>
  obtain ⟨h1,h2,h3⟩:=hS.glob g (by simpa [operandOk] using hx)
  exact .ptr ⟨rfl,h1,by simp [h2,h3]⟩
 |func f=>exact .func _ rfl (by simp) rfl (by simp)
theorem operands_rel (hS:Sim J B ι H w) {T:Regs} {a:Act} (hR:RegsRel ι H.next T a.tmps) {N:Nat} {o:Oper} (ho:opOk J N o=true):∀x∈o.op.operands,VRel ι H.next (iev T x) (a.eval x):=fun x hx=>by
 simp only [opOk,Bool.and_eq_true] at ho
 exact operand_rel hS hR (Array.all_eq_true'.1 ho.1 x hx)
theorem dst_lt {N:Nat} {o:Oper} (ho:opOk J N o=true):∀t,o.dst=some t→t<N:=fun t ht=>by
 simp only [opOk,Bool.and_eq_true,ht] at ho
 simpa using ho.2
def CallPost (J:Env) (B:Bd) (ι:Emb) (n:Nat) (w:World) (r:IE) (H':IH) (e:Ending) (w':World):Prop:=
 ∃ι',Sim J B ι' H' w'∧Ext ι n ι' H'.next∧Below B w w'∧match r with
  | .ret v=>∃v',e=.returned v'∧VRel ι' H'.next v v'
  | .pan v=>∃v',e=.panicked [{ v:=v',recovered:=false }]∧VRel ι' H'.next v v'
def CallSound (J:Env) (B:Bd) (call:CallR):Prop:=
 ∀(f:FuncId) (args args':Array Value) (H:IH) (ι:Emb) (w:World) (r:IE) (H':IH),Sim J B ι H w→LRel ι H.next args.toList args'.toList→call f args H=some (r,H')→
  Calls J.P f args' w (CallPost J B ι H.next w r H')
theorem exec_wp {call:CallR} (hcall:CallSound J B call) (hS:Sim J B ι H w) {T:Regs} {a:Act} {o:Oper} {r:IE} {H':IH} (hρ:∀x∈o.op.operands,VRel ι H.next (iev T x) (a.eval x))
  (h:iexec J call o T H=some (r,H')) {next:Act→World→Prop} {Q:Exit→Act→World→Prop}
  (hn:∀v v' ι' w',r=.ret v→Sim J B ι' H' w'→VRel ι' H'.next v v'→Ext ι H.next ι' H'.next→Below B w w'→next (a.put o.dst v') w')
  (hp:∀v v' ι' w',r=.pan v→Sim J B ι' H' w'→VRel ι' H'.next v v'→Ext ι H.next ι' H'.next→Below B w w'→Q (.panic [{ v:=v',recovered:=false }]) a w'):
  o.wp J.P a w next Q:=by
 unfold iexec at h
 unfold Oper.wp
 split at h
 ·rename_i v H1 hi
  cases h
  obtain ⟨ι',w',v',hr,h1,h2,h3,h4⟩:=iop_sound hS o hρ hi
  rcases hr with hr|⟨hr,rfl⟩
  ·rw [hr];exact hn v v' ι' w' rfl h1 h2 h3 h4
  ·rw [hr];exact hn v _ ι' w' rfl h1 h2 h3 h4
 ·rename_i v H1 hi
  cases h
  obtain ⟨rfl,v',hr,h1⟩:=iop_sound hS o hρ hi
  rw [hr]
  exact hp v v' ι w rfl hS h1 (Ext.refl _ _) (Below.refl _ _)
 ·rename_i f args H1 hi
  obtain ⟨rfl,args',hr,h1⟩:=iop_sound hS o hρ hi
  rw [hr]
  refine (hcall f args args' H1 ι w r H' hS h1 h).mono fun e w' he=>?_
  obtain ⟨ι',q1,q2,q3,q4⟩:=he
  cases r with
  |ret v=>
   obtain ⟨v',rfl,q5⟩:=q4
   exact hn v v' ι' w' rfl q1 q5 q2 q3
  |pan v=>
   obtain ⟨v',rfl,q5⟩:=q4
   exact hp v v' ι' w' rfl q1 q5 q2 q3
 ·simp at h
theorem wanted_eq {n:Nat} {T:Regs} {a:Act} (hR:RegsRel ι n T a.tmps) (ops:Array Oper) (o:Oper):Region.wanted o (yielded ops a.tmps)=wantedR ops T o:=by
 unfold Region.wanted wantedR
 cases hg:o.guard with
 |none=>rfl
 |some p=>
  obtain ⟨j,want⟩:=p
  dsimp only
  unfold yielded
  cases hd:(ops[j]?).bind (·.dst) with
  |none=>simp
  |some d=>
   have hr:=hR d
   simp only [Option.bind_some]
   cases ht:a.tmps[d]? with
   |none=>
    have:a.tmps.getD d undef=undef:=by simp [Array.getD_eq_getD_getElem?,ht]
    rw [this] at hr
    cases hT:T.at d<;>rw [hT] at hr<;>cases hr<;>simp
   |some u=>
    have:a.tmps.getD d undef=u:=by simp [Array.getD_eq_getD_getElem?,ht]
    rw [this] at hr
    cases hT:T.at d<;>rw [hT] at hr<;>cases hr<;>simp
def toExit:IX→Value→Exit
 | .normal,_=>.normal
 | .exit id,_=>.exit id
 | .ret,_=>.ret
 | .pan _,v'=>.panic [{ v:=v',recovered:=false }]
def CodePost (J:Env) (B:Bd) (K:Nat→Prop) (ι:Emb) (n:Nat) (w:World) (a:Act) (x:IX) (T':Regs) (H':IH) (e:Exit) (a':Act) (w':World):Prop:=
 ∃ι' v',e=toExit x v'∧Sim J B ι' H' w'∧Ext ι n ι' H'.next∧Below B w w'∧a'.defers=a.defers∧a'.tmps.size=a.tmps.size∧match x with
  | .pan v=>VRel ι' H'.next v v'∧∀t,K t→VRel ι' H'.next (T'.at t) (a'.tmps.getD t undef)
  |_=>RegsRel ι' H'.next T' a'.tmps
theorem oper_mono {J:Env} {o:Oper} {a:Act} {w:World} {K K':Act→World→Prop} {Q Q':Exit→Act→World→Prop} (h:∀a w,K a w→K' a w) (hq:∀e a w,Q e a w→Q' e a w)
  (hh:o.wp J.P a w K Q):o.wp J.P a w K' Q':=by
 unfold Oper.wp at*
 generalize (execOp a.eval o).run J.P w=r at*
 cases r with
 |ok n w'=>
  cases n<;>simp only [Oper.upon] at hh ⊢ <;>
   first
    |exact h _ _ hh
    |exact Calls.mono hh (fun e w'' he=>by cases e<;>first|exact h _ _ he|exact hq _ _ _ he|exact (let ⟨a0,w0,q⟩:=he;⟨a0,w0,hq _ _ _ q⟩))
    |exact Rows.mono hh (fun _ _ he=>h _ _ he)
 |halt x w'=>cases x<;>simp only [Oper.upon] at hh ⊢ <;>first|exact hq _ _ _ hh|exact hh
theorem letsOut_mono {Q Q':Exit→Act→World→Prop} (hq:∀e a w,Q e a w→Q' e a w) (h:LetsOut Q):LetsOut Q':=let ⟨a,w,q⟩:=h;⟨a,w,hq _ _ _ q⟩
theorem wpList_mono {J:Env} {ops:Array Oper} {Q Q':Exit→Act→World→Prop} (hq:∀e a w,Q e a w→Q' e a w):∀(l:List Oper) (a:Act) (w:World),wpList J.P ops Q l a w→wpList J.P ops Q' l a w:=by
 intro l
 induction l with
 |nil=>intro a w h;exact hq _ _ _ h
 |cons o l ih=>
  intro a w h
  unfold wpList at h ⊢
  split
  ·rename_i hw
   rw [if_pos hw] at h
   exact h.imp (oper_mono (fun a w=>ih a w) hq) fun ⟨h1,h2⟩=>⟨h1,letsOut_mono hq h2⟩
  ·rename_i hw
   rw [if_neg hw] at h
   exact ih _ _ h
theorem iops_wp {K:Nat→Prop} {call:CallR} (hcall:CallSound J B call) (ops:Array Oper):∀(l:List Oper) (ι:Emb) (H:IH) (w:World) (T:Regs) (a:Act) (x:IX) (T':Regs) (H':IH),
  Sim J B ι H w→RegsRel ι H.next T a.tmps→(∀o∈l,opOk J a.tmps.size o=true)→iops J call ops l T H=some (x,T',H')→
  wpList J.P ops (CodePost J B K ι H.next w a x T' H') l a w:=by
 intro l
 induction l with
 |nil=>
  intro ι H w T a x T' H' hS hR _ h
  simp only [iops,Option.some.injEq,Prod.mk.injEq] at h
  obtain ⟨rfl,rfl,rfl⟩:=h
  exact ⟨ι,undef,rfl,hS,Ext.refl _ _,Below.refl _ _,rfl,rfl,hR⟩
 |cons o l ih=>
  intro ι H w T a x T' H' hS hR hok h
  have ho:=hok o (by simp)
  simp only [iops] at h
  simp only [wpList,wanted_eq hR ops o]
  have step:∀(v v':Value) (ι1:Emb) (H1:IH) (w1:World),Sim J B ι1 H1 w1→VRel ι1 H1.next v v'→Ext ι H.next ι1 H1.next→Below B w w1→iops J call ops l (putR T o.dst v) H1=some (x,T',H')→
    wpList J.P ops (CodePost J B K ι H.next w a x T' H') l (a.put o.dst v') w1:=by
   intro v v' ι1 H1 w1 s1 s2 s3 s4 s5
   have hd:=dst_lt ho
   have:=ih ι1 H1 w1 (putR T o.dst v) (a.put o.dst v') x T' H' s1 ((hR.ext s3).put s2 hd) (fun o' ho'=>by rw [put_size];exact hok o' (by simp [ho'])) s5
   refine wpList_mono ?_ l _ _ this
   rintro e a' w' ⟨ι2,u,q1,q2,q3,q4,q5,q6,q7⟩
   exact ⟨ι2,u,q1,q2,s3.trans q3,s4.trans q4,by rw [q5,put_defers],by rw [q6,put_size],q7⟩
  split at h
  ·rename_i hw
   rw [if_pos hw]
   left
   split at h
   ·rename_i v H1 he
    refine exec_wp hcall hS (operands_rel hS hR ho) he (fun v0 v' ι1 w1 e s1 s2 s3 s4=>?_) (fun v0 v' ι1 w1 e s1 s2 s3 s4=>by cases e)
    cases e
    exact step v v' ι1 H1 w1 s1 s2 s3 s4 h
   ·rename_i v H1 he
    simp only [Option.some.injEq,Prod.mk.injEq] at h
    obtain ⟨rfl,rfl,rfl⟩:=h
    refine exec_wp hcall hS (operands_rel hS hR ho) he (fun v0 v' ι1 w1 e s1 s2 s3 s4=>by cases e) (fun v0 v' ι1 w1 e s1 s2 s3 s4=>?_)
    cases e
    exact ⟨ι1,v',rfl,s1,s3,s4,rfl,rfl,s2,fun t _=>(hR t).ext s3⟩
   ·simp at h
  ·rename_i hw
   rw [if_neg hw]
   exact step undef undef ι H w hS VRel.undef (Ext.refl _ _) (Below.refl _ _) h
end
def veq:Nat→Value→Value→Bool
 |_,.bool a,.bool b=>a==b
 |_,.int j a,.int k b=>decide (j=k)&&decide (a=b)
 |_,.float j a,.float k b=>decide (j=k)&&decide (a=b)
 |_,.string a,.string b=>decide (a=b)
 |_,.pointer a,.pointer b=>decide (a=b)
 |_,.slice a l c,.slice b m d=>decide (a=b)&&decide (l=m)&&decide (c=d)
 |_,.map a,.map b=>decide (a=b)
 |_,.nilFunc,.nilFunc=>true
 |_,.nilIface,.nilIface=>true
 |n+1,.iface t v,.iface u w=>decide (t=u)&&veq n v w
 |n+1,.agg xs,.agg ys=>decide (xs.size=ys.size)&&(xs.toList.zip ys.toList).all fun p=>veq n p.1 p.2
 |n+1,.tuple xs,.tuple ys=>decide (xs.size=ys.size)&&(xs.toList.zip ys.toList).all fun p=>veq n p.1 p.2
 |n+1,.func f xs us,.func g ys vs=>decide (f=g)&&decide (xs.size=ys.size)&&decide (us.size=vs.size)&&((xs.toList.zip ys.toList).all fun p=>veq n p.1 p.2)&&(us.toList.zip vs.toList).all fun p=>veq n p.1 p.2
 |_,_,_=>false
theorem zip_eq {f:Value→Value→Bool} (hf:∀a b,f a b=true→a=b):∀(xs ys:List Value),xs.length=ys.length→((xs.zip ys).all fun p=>f p.1 p.2)=true→xs=ys:=by
 intro xs
 induction xs with
 |nil=>intro ys h _;cases ys with|nil=>rfl|cons=>simp at h
 |cons x xs ih=>
  intro ys h hz
  cases ys with
  |nil=>simp at h
  |cons y ys=>
   simp only [List.zip_cons_cons,List.all_cons,Bool.and_eq_true] at hz
   rw [hf x y hz.1,ih ys (by simpa using h) hz.2]
theorem veq_eq:∀(n:Nat) (a b:Value),veq n a b=true→a=b:=by
 intro n
 induction n with
 |zero=>
  intro a b h
  unfold veq at h
  split at h<;>simp_all
 |succ n ih=>
  intro a b h
  have arr:∀{xs ys:Array Value},xs.size=ys.size→((xs.toList.zip ys.toList).all fun p=>veq n p.1 p.2)=true→xs=ys:=fun {xs ys} h1 h2=>by
   rw [←Array.toList_inj];exact zip_eq ih _ _ (by simpa using h1) h2
  unfold veq at h
  split at h
  case h_10=>rename_i e;cases e;simp only [Bool.and_eq_true,decide_eq_true_eq] at h;rw [h.1,ih _ _ h.2]
  case h_11=>rename_i e;cases e;simp only [Bool.and_eq_true,decide_eq_true_eq] at h;rw [arr h.1 h.2]
  case h_12=>rename_i e;cases e;simp only [Bool.and_eq_true,decide_eq_true_eq] at h;rw [arr h.1 h.2]
  case h_13=>
   rename_i e;cases e
   simp only [Bool.and_eq_true,decide_eq_true_eq] at h
   obtain ⟨⟨⟨⟨rfl,h1⟩,h2⟩,h3⟩,h4⟩:=h
   rw [arr h1 h3,arr h2 h4]
  all_goals simp_all
def isEff (J:Env) (o:Oper):Bool:=
 match o.op with
 | .alloc _| .box _ _| .buildSlice _ _ _| .store _ _ _| .makeMap _ _| .makeSlice _ _ _| .mapUpdate _ _ _ _| .insert _ _ _ _| .panic _=>true
 | .convert src dst _=>match J.und src,J.und dst with
  |some .string,some (.slice _)=>true
  |_,_=>false
 | .call c=>match c.callee with
  | .builtin .append| .builtin .copy| .builtin .clear| .builtin .unsafeString=>true
  | .builtin _=>false
  |_=>true
 |_=>false
def readsH (o:Oper):Bool:=
 match o.op with
 | .load _ _| .slice _ _ _ _ _| .lookup _ _ _ _| .convert _ _ _| .call _=>true
 |_=>false
section
variable {J:Env}
theorem ipure_same {o:Oper} {T:Regs} {H:IH} {r:OR} (h:ipure J o T H=some r):∃v,r=.val v H∧∀H2,ipure J o T H2=some (.val v H2):=by
 unfold ipure at h
 split at h
 ·rename_i hf
  split at h
  ·rename_i v hv
   split at h
   ·rename_i hfv
    cases h
    exact ⟨v,rfl,fun H2=>by unfold ipure;rw [if_pos hf,hv];simp [hfv]⟩
   ·simp at h
  ·simp at h
 ·simp at h
theorem ofVal_same {H:IH} {x:Option Value} {r:OR} (h:OR.ofVal H x=some r):∃v,r=.val v H∧x=some v:=by
 cases x with
 |none=>simp [OR.ofVal] at h
 |some v=>simp [OR.ofVal] at h;exact ⟨v,h.symm,rfl⟩
theorem light_same {o:Oper} {T:Regs} {H:IH} {r:OR} (hl:isEff J o=false) (h:iop J o T H=some r):∃v,r=.val v H:=by
 obtain ⟨dst,op,type,pos,after,guard⟩:=o
 cases op<;>simp only [isEff] at hl<;>simp only [iop] at h
 case move=>exact ⟨_,(Option.some.inj h).symm⟩
 case assign=>exact ⟨_,(Option.some.inj h).symm⟩
 case pick=>split at h<;>first|exact ⟨_,(Option.some.inj h).symm⟩|simp at h
 case alloc=>cases hl
 case box=>cases hl
 case build=>obtain ⟨v,h1,_⟩:=ofVal_same h;exact ⟨v,h1⟩
 case buildSlice=>cases hl
 case load=>split at h<;>first|(simp at h;done)|(obtain ⟨v,h1,_⟩:=ofVal_same h;exact ⟨v,h1⟩)
 case store=>cases hl
 case nilCheck=>split at h<;>first|exact ⟨_,(Option.some.inj h).symm⟩|simp at h
 case binOp=>
  split at h
  ·split at h<;>first|exact ⟨_,(Option.some.inj h).symm⟩|simp at h
  ·split at h<;>first|exact ⟨_,(Option.some.inj h).symm⟩|simp at h
  ·obtain ⟨v,h1,_⟩:=ipure_same h;exact ⟨v,h1⟩
 case convert src dst x=>
  split at h
  ·rename_i v H' e
   cases h
   refine ⟨v,?_⟩
   unfold iconvert at e
   split at e
   ·rename_i h1 h2 h3;simp [h1,h2] at hl
   ·split at e
    ·split at e
     ·rename_i cs hcs
      cases hb:bytesOfCells cs with
      |none=>simp [hb] at e
      |some bs=>simp [hb] at e;rw [e.2]
     ·simp at e
    ·simp at e
   ·split at e
    ·simp at e;rw [e.2]
    ·simp at e
   ·split at e
    ·split at e
     ·simp at e;rw [e.2]
     ·simp at e
    ·simp at e
   ·split at e
    ·split at e
     ·simp at e;rw [e.2]
     ·simp at e
    ·simp at e
   ·simp at e
  ·obtain ⟨v,h1,_⟩:=ipure_same h;exact ⟨v,h1⟩
 case makeInterface=>split at h<;>first|exact ⟨_,(Option.some.inj h).symm⟩|simp at h
 case makeFunc fn first captured=>cases fn<;>simp only at h<;>first|exact ⟨_,(Option.some.inj h).symm⟩|(obtain ⟨v,h1,_⟩:=ipure_same h;exact ⟨v,h1⟩)
 case makeMap=>cases hl
 case makeSlice=>cases hl
 case slice=>obtain ⟨v,h1,_⟩:=ofVal_same h;exact ⟨v,h1⟩
 case fieldAddr=>obtain ⟨v,h1,_⟩:=ofVal_same h;exact ⟨v,h1⟩
 case field=>obtain ⟨v,h1,_⟩:=ofVal_same h;exact ⟨v,h1⟩
 case indexAddr=>obtain ⟨v,h1,_⟩:=ofVal_same h;exact ⟨v,h1⟩
 case index=>obtain ⟨v,h1,_⟩:=ofVal_same h;exact ⟨v,h1⟩
 case lookup=>obtain ⟨v,h1,_⟩:=ofVal_same h;exact ⟨v,h1⟩
 case mapUpdate=>cases hl
 case insert=>cases hl
 case typeAssert=>obtain ⟨v,h1,_⟩:=ofVal_same h;exact ⟨v,h1⟩
 case extract=>split at h<;>first|(simp at h;done)|(obtain ⟨v,h1,_⟩:=ofVal_same h;exact ⟨v,h1⟩)
 case call c=>
  unfold icall0 at h
  split at h
  ·rename_i hc;simp [hc] at hl
  ·rename_i hc;simp [hc] at hl
  ·split at h
   ·split at h
    ·exact ⟨_,(Option.some.inj h).symm⟩
    ·split at h<;>first|exact ⟨_,(Option.some.inj h).symm⟩|simp at h
    ·obtain ⟨v,h1,_⟩:=ipure_same h;exact ⟨v,h1⟩
   ·simp at h
  ·rename_i hc;simp [hc] at hl
  ·rename_i hc;simp [hc] at hl
  ·rename_i hc;simp [hc] at hl
  ·rename_i hc;simp [hc] at hl
  ·split at h
   ·obtain ⟨v,h1,_⟩:=ofVal_same h;exact ⟨v,h1⟩
   ·simp at h
  ·obtain ⟨v,h1,_⟩:=ipure_same h;exact ⟨v,h1⟩
 case select=>simp at h
 case panic=>cases hl
 all_goals (obtain ⟨v,h1,_⟩:=ipure_same h;exact ⟨v,h1⟩)
theorem pure_any {o:Oper} {T:Regs} {H:IH} {v:Value} (hl:isEff J o=false) (hr:readsH o=false) (h:iop J o T H=some (.val v H)) (H2:IH):iop J o T H2=some (.val v H2):=by
 have val:∀{x:Value},some (OR.val x H)=some (OR.val v H)→some (OR.val x H2)=some (OR.val v H2):=fun e=>by cases e;rfl
 have ofv:∀{x:Option Value},OR.ofVal H x=some (.val v H)→OR.ofVal H2 x=some (.val v H2):=fun {x} e=>by
  obtain ⟨u,h1,h2⟩:=ofVal_same e;cases h1;subst h2;rfl
 have pur:ipure J o T H=some (.val v H)→ipure J o T H2=some (.val v H2):=fun e=>by
  obtain ⟨u,h1,h2⟩:=ipure_same e;cases h1;exact h2 H2
 obtain ⟨dst,op,type,pos,after,guard⟩:=o
 cases op<;>simp only [isEff] at hl<;>simp only [readsH] at hr<;>simp only [iop] at h ⊢ <;>first
  |(cases hl;done)
  |(cases hr;done)
  |exact val h
  |exact ofv h
  |exact pur h
  |(simp at h;done)
  |skip
 case pick=>split at h<;>first|exact val h|simp at h
 case nilCheck=>split at h<;>first|exact val h|simp at h
 case binOp=>
  split at h
  ·split at h
   ·rename_i hf;rw [if_pos hf];exact val h
   ·simp at h
  ·split at h
   ·rename_i hf;rw [if_pos hf];exact val h
   ·simp at h
  ·exact pur h
 case makeInterface=>split at h<;>first|exact val h|simp at h
 case makeFunc fn first captured=>cases fn<;>simp only at h ⊢ <;>first|exact val h|exact pur h
 case extract=>split at h<;>first|exact ofv h|simp at h
end
def waitMask (acc:List Nat) (o:Oper):Nat:=o.after.toList.foldl (fun s e=>if Region.binds .any e then s ||| 2^e.on ||| acc.getD e.on 0 else s) 0
def waitsL:List Oper→List Nat→List Nat
 | [],acc=>acc
 |o::r,acc=>waitsL r (acc++[waitMask acc o])
def waits (ops:Array Oper):List Nat:=waitsL ops.toList []
def waitsFor (W:List Nat) (i j:Nat):Bool:=(W.getD i 0).testBit j
def dstAt (ops:Array Oper) (j:Nat):Option Tmp:=(ops[j]?).bind (·.dst)
def effAt (J:Env) (ops:Array Oper) (j:Nat):Bool:=((ops[j]?).map (isEff J)).getD false
def lateO (o:Oper):Bool:=
 match o.op with
 | .alloc _| .makeSlice _ _ _=>true
 | .buildSlice _ _ ps=>ps.size==0
 |_=>false
def lateAt (J:Env) (ops:Array Oper) (j:Nat):Bool:=
 (match ops[j]? with|some o=>lateO o|none=>false)&&(List.range ops.size).all fun i=> !waitsFor (waits ops) i j||(List.range j).all fun e=> !effAt J ops e||waitsFor (waits ops) i e
def regionOk (J:Env) (ops:Array Oper):Bool:=
 let n:=ops.size
 let W:=waits ops
 (List.range n).all fun i=>
  (match ops[i]? with|some o=>o.after.toList.all fun e=> !Region.binds .any e||decide (e.on<i)|none=>true)&&
  (List.range n).all fun j=>i==j||
   ((match dstAt ops i with|some t=>decide (dstAt ops j≠some t)|none=>true)&&
    (match ops[i]?,dstAt ops j with|some o,some t=> !(Oper.looksAt ops o).contains t||waitsFor W i j||waitsFor W j i|_,_=>true)&&
    (!(effAt J ops i&&effAt J ops j&&decide (j<i))||waitsFor W i j||lateAt J ops i))
structure DSt where
 T:Regs
 H:IH
 vs:List (Regs×Value)
 hs:List IH
def drun (J:Env) (call:CallR) (ops:Array Oper):List Oper→DSt→Option (DSt×Option Value)
 | [],s=>some (s,none)
 |o::r,s=>
  if wantedR ops s.T o then
   match iexec J call o s.T s.H with
   |some (.ret v,H')=>drun J call ops r ⟨putR s.T o.dst v,H',s.vs++[(s.T,v)],if isEff J o then s.hs++[H'] else s.hs⟩
   |some (.pan v,H')=>some (⟨s.T,H',s.vs,s.hs⟩,some v)
   |none=>none
  else drun J call ops r ⟨putR s.T o.dst undef,s.H,s.vs++[(s.T,undef)],if isEff J o then s.hs++[s.H] else s.hs⟩
def allowed (W:List Nat) (effs:List Nat) (i k:Nat):Bool:=(effs.take k).all (fun j=> !waitsFor W j i)&&(effs.drop k).all (fun j=> !waitsFor W i j)
def effs (J:Env) (ops:Array Oper):List Nat:=(List.range ops.size).filter (effAt J ops)
def pairs (J:Env) (ops:Array Oper):List (Nat×Nat):=
 let W:=waits ops
 let es:=effs J ops
 (List.range ops.size).flatMap fun i=>
  match ops[i]? with
  |some o=>if isEff J o|| !readsH o then []
   else ((List.range (es.length+1)).filter fun k=> !decide (k=((List.range i).filter (effAt J ops)).length)&&allowed W es i k).map fun k=>(i,k)
  |none=>[]
def oblig (J:Env) (ops:Array Oper) (vs:List (Regs×Value)) (hs:List IH) (p:Nat×Nat):Bool:=
 match ops[p.1]?,vs[p.1]?,hs[p.2]? with
 |some o,some q,some H=> !wantedR ops q.1 o||(match iop J o q.1 H with
  |some (.val v _)=>veq 8 q.2 v
  |_=>false)
 |_,_,_=>true
def dcheck (J:Env) (ops:Array Oper) (vs:List (Regs×Value)) (hs:List IH):Bool:=match hs with
 | [_]=>true
 |_=>(pairs J ops).all (oblig J ops vs hs)
def idraw (J:Env) (call:CallR) (ops:Array Oper) (T:Regs) (H:IH):Option (IX×Regs×IH):=
  match drun J call ops ops.toList ⟨T,H,[],[H]⟩ with
  |some (s,none)=>if dcheck J ops s.vs s.hs then some (.normal,s.T,s.H) else none
  |some (s,some v)=>
   if dcheck J ops s.vs s.hs&&effAt J ops s.vs.length&&(List.range ops.size).all (fun j=>decide (j≤s.vs.length)||waitsFor (waits ops) j s.vs.length) then some (.pan v,s.T,s.H) else none
  |none=>none
/-! ### What the waiting masks say -/
theorem foldl_or_bit {f:Edge→Option Nat} (j:Nat):∀(l:List Edge) (s:Nat),(l.foldl (fun s e=>match f e with|some m=>s ||| m|none=>s) s).testBit j=true→s.testBit j=true∨∃e∈l,∃m,f e=some m∧m.testBit j=true:=by
 intro l
 induction l with
 |nil=>intro s h;exact .inl h
 |cons e l ih=>
  intro s h
  simp only [List.foldl_cons] at h
  rcases ih _ h with h1|⟨e',he',m,h2⟩
  ·cases hf:f e with
   |none=>rw [hf] at h1;exact .inl h1
   |some m=>
    rw [hf] at h1
    simp only [Nat.testBit_or,Bool.or_eq_true] at h1
    rcases h1 with h1|h1
    ·exact .inl h1
    ·exact .inr ⟨e,by simp,m,hf,h1⟩
  ·exact .inr ⟨e',by simp [he'],m,h2⟩
theorem waitMask_bit {acc:List Nat} {o:Oper} {j:Nat} (h:(waitMask acc o).testBit j=true):∃e∈o.after,Region.binds .any e=true∧(e.on=j∨(acc.getD e.on 0).testBit j=true):=by
 unfold waitMask at h
 have h':(o.after.toList.foldl (fun s e=>match (if Region.binds .any e then some (2^e.on ||| acc.getD e.on 0) else none:Option Nat) with|some m=>s ||| m|none=>s) 0).testBit j=true:=by
  have:(fun (s:Nat) (e:Edge)=>if Region.binds .any e=true then s ||| 2^e.on ||| acc.getD e.on 0 else s)=
    (fun s e=>match (if Region.binds .any e then some (2^e.on ||| acc.getD e.on 0) else none:Option Nat) with|some m=>s ||| m|none=>s):=by
   funext s e
   by_cases hb:Region.binds .any e=true
   ·simp [hb,Nat.or_assoc]
   ·simp [hb]
  rw [←this];exact h
 rcases foldl_or_bit j _ _ h' with h0|⟨e,he,m,hm,hj⟩
 ·simp at h0
 ·split at hm
  ·rename_i hb
   simp only [Option.some.injEq] at hm
   subst hm
   simp only [Nat.testBit_or,Bool.or_eq_true,Nat.testBit_two_pow,decide_eq_true_eq] at hj
   exact ⟨e,by simpa using he,hb,hj⟩
  ·simp at hm
theorem waitsL_spec:∀(l:List Oper) (acc:List Nat) (full:List Oper),full.drop acc.length=l→acc.length≤full.length→
  (∀i o,i<acc.length→full[i]?=some o→∀j,(acc.getD i 0).testBit j=true→∃e∈o.after,Region.binds .any e=true∧(e.on=j∨(acc.getD e.on 0).testBit j=true))→
  (∀i o,i<acc.length→full[i]?=some o→∀e∈o.after,Region.binds .any e=true→e.on<i)→
  (∀i o,full[i]?=some o→∀e∈o.after,Region.binds .any e=true→e.on<i)→
  (waitsL l acc).length=full.length∧
  ∀i o,full[i]?=some o→∀j,((waitsL l acc).getD i 0).testBit j=true→∃e∈o.after,Region.binds .any e=true∧(e.on=j∨((waitsL l acc).getD e.on 0).testBit j=true):=by
 intro l
 induction l with
 |nil=>
  intro acc full hl hle h _ _
  have:acc.length=full.length:=by
   have:=congrArg List.length hl
   simp at this;omega
  refine ⟨this,fun i o ho j hj=>h i o ?_ ho j hj⟩
  rw [this];exact (List.getElem?_eq_some_iff.1 ho).1
 |cons o l ih=>
  intro acc full hl hle h h2 hall
  have hlt:acc.length<full.length:=by
   have:=congrArg List.length hl
   simp at this;omega
  have ho:full[acc.length]?=some o:=by
   have:=congrArg (fun l=>l[0]?) hl
   simpa using this
  simp only [waitsL]
  refine ih (acc++[waitMask acc o]) full ?_ (by simp;omega) (fun i o' hi ho' j hj=>?_) (fun i o' hi ho'=>hall i o' ho') hall
  ·simp only [List.length_append,List.length_singleton]
   rw [←List.drop_drop,hl];rfl
  ·simp only [List.length_append,List.length_singleton] at hi
   have key:∀k,k<acc.length→(acc++[waitMask acc o]).getD k 0=acc.getD k 0:=fun k hk=>by
    simp [List.getD_eq_getElem?_getD,List.getElem?_append_left hk]
   by_cases hi':i<acc.length
   ·rw [key i hi'] at hj
    obtain ⟨e,he,hb,hc⟩:=h i o' hi' ho' j hj
    have:=hall i o' ho' e he hb
    exact ⟨e,he,hb,by rw [key e.on (by omega)];exact hc⟩
   ·have:i=acc.length:=by omega
    subst this
    rw [ho] at ho'
    cases ho'
    have:(acc++[waitMask acc o]).getD acc.length 0=waitMask acc o:=by simp [List.getD_eq_getElem?_getD]
    rw [this] at hj
    obtain ⟨e,he,hb,hc⟩:=waitMask_bit hj
    have:=hall acc.length o ho e he hb
    exact ⟨e,he,hb,by rw [key e.on this];exact hc⟩
structure ROk (J:Env) (ops:Array Oper):Prop where
 back:∀i o,ops[i]?=some o→∀e∈o.after,Region.binds .any e=true→e.on<i
 dst:∀i j t,i≠j→dstAt ops i=some t→dstAt ops j≠some t
 reads:∀i j o t,i≠j→ops[i]?=some o→dstAt ops j=some t→t∈Oper.looksAt ops o→waitsFor (waits ops) i j=true∨waitsFor (waits ops) j i=true
 total:∀i j,j<i→effAt J ops i=true→effAt J ops j=true→waitsFor (waits ops) i j=true∨lateAt J ops i=true
 bit:∀i j,waitsFor (waits ops) i j=true→∃o,ops[i]?=some o∧∃e∈o.after,Region.binds .any e=true∧(e.on=j∨waitsFor (waits ops) e.on j=true)
theorem regionOk_ok {J:Env} {ops:Array Oper} (h:regionOk J ops=true):ROk J ops:=by
 unfold regionOk at h
 simp only [List.all_eq_true,List.mem_range,Bool.and_eq_true,Bool.or_eq_true,beq_iff_eq] at h
 have lt:∀{i:Nat} {o:Oper},ops[i]?=some o→i<ops.size:=fun ho=>(Array.getElem?_eq_some_iff.1 ho).1
 have dlt:∀{i:Nat} {t:Tmp},dstAt ops i=some t→i<ops.size:=fun {i t} hd=>by
  unfold dstAt at hd
  cases e:ops[i]? with
  |none=>simp [e] at hd
  |some o=>exact lt e
 have elt:∀{i:Nat},effAt J ops i=true→i<ops.size:=fun {i} hd=>by
  unfold effAt at hd
  cases e:ops[i]? with
  |none=>simp [e] at hd
  |some o=>exact lt e
 have back:∀i o,ops[i]?=some o→∀e∈o.after,Region.binds .any e=true→e.on<i:=fun i o ho e he hb=>by
  have:=(h i (lt ho)).1
  rw [ho] at this
  simp only [List.all_eq_true,Bool.or_eq_true,Bool.not_eq_true',decide_eq_true_eq] at this
  rcases this e (by simpa using he) with h1|h1
  ·rw [hb] at h1;cases h1
  ·exact h1
 refine ⟨back,fun i j t hne hi hj=>?_,fun i j o t hne ho hj ht=>?_,fun i j hlt hi hj=>?_,fun i j hij=>?_⟩
 ·have:=(h i (dlt hi)).2 j (dlt hj)
  rcases this with h1|h1
  ·exact hne h1
  ·have:=h1.1.1
   rw [hi] at this
   simp only [decide_eq_true_eq] at this
   exact this hj
 ·have:=(h i (lt ho)).2 j (dlt hj)
  rcases this with h1|h1
  ·exact absurd h1 hne
  ·have:=h1.1.2
   rw [ho,hj] at this
   simp only [Bool.or_eq_true,Bool.not_eq_true'] at this
   rcases this with (h2|h2)|h2
   ·have:(Oper.looksAt ops o).contains t=true:=by simpa using ht
    rw [this] at h2;cases h2
   ·exact .inl h2
   ·exact .inr h2
 ·have:=(h i (elt hi)).2 j (elt hj)
  rcases this with h1|h1
  ·omega
  ·have:=h1.2
   rw [hi,hj] at this
   simp only [Bool.true_and,Bool.not_eq_true',decide_eq_false_iff_not] at this
   rcases this with (h2|h2)|h2
   ·exact absurd hlt h2
   ·exact .inl h2
   ·exact .inr h2
 ·have hs:=waitsL_spec ops.toList [] ops.toList (by simp) (by simp) (by simp) (by simp) (fun i o ho e he hb=>back i o (by simpa using ho) e he hb)
  unfold waitsFor waits at hij
  have hi:i<ops.size:=by
   rcases Nat.lt_or_ge i ops.size with h1|h1
   ·exact h1
   ·rw [List.getD_eq_getElem?_getD,List.getElem?_eq_none (by rw [hs.1];simpa using h1)] at hij
    simp at hij
  refine ⟨ops[i],Array.getElem?_eq_getElem hi,?_⟩
  exact hs.2 i ops[i] (by simp [hi]) j hij
theorem lateAt_spec {J:Env} {ops:Array Oper} {j:Nat} (h:lateAt J ops j=true):(∃o,ops[j]?=some o∧lateO o=true)∧∀i,i<ops.size→waitsFor (waits ops) i j=true→∀e,e<j→effAt J ops e=true→waitsFor (waits ops) i e=true:=by
 unfold lateAt at h
 simp only [Bool.and_eq_true,List.all_eq_true,List.mem_range,Bool.or_eq_true,Bool.not_eq_true'] at h
 obtain ⟨h1,h2⟩:=h
 refine ⟨?_,fun i hi hw e he hef=>?_⟩
 ·cases ho:ops[j]? with
  |none=>rw [ho] at h1;cases h1
  |some o=>rw [ho] at h1;exact ⟨o,rfl,h1⟩
 ·rcases h2 i hi with h3|h3
  ·rw [hw] at h3;cases h3
  ·rcases h3 e he with h4|h4
   ·rw [hef] at h4;cases h4
   ·exact h4
section
variable {J:Env} {ops:Array Oper}
def E (J:Env) (ops:Array Oper) (i:Nat):Nat:=((List.range i).filter (effAt J ops)).length
theorem E_succ (i:Nat):E J ops (i+1)=E J ops i+if effAt J ops i then 1 else 0:=by
 unfold E
 rw [List.range_succ,List.filter_append,List.length_append]
 congr 1
 by_cases h:effAt J ops i=true<;>simp [h]
theorem E_mono {i j:Nat} (h:i≤j):E J ops i≤E J ops j:=by
 induction h with
 |refl=>exact Nat.le_refl _
 |step _ ih=>rw [E_succ];omega
theorem E_lt {i j:Nat} (h:i<j) (he:effAt J ops i=true):E J ops i<E J ops j:=by
 have h1:=E_mono (J:=J) (ops:=ops) (i:=i+1) (j:=j) h
 rw [E_succ,he] at h1
 simp at h1;omega
theorem E_inj {i j:Nat} (hi:effAt J ops i=true) (hj:effAt J ops j=true) (h:E J ops i=E J ops j):i=j:=by
 rcases Nat.lt_trichotomy i j with h1|h1|h1
 ·have:=E_lt h1 hi;omega
 ·exact h1
 ·have:=E_lt h1 hj;omega
theorem E_onto (n:Nat):∀m,m<E J ops n→∃j,j<n∧effAt J ops j=true∧E J ops j=m:=by
 induction n with
 |zero=>intro m h;simp [E] at h
 |succ n ih=>
  intro m h
  rw [E_succ] at h
  by_cases he:effAt J ops n=true
  ·rw [if_pos he] at h
   by_cases hm:m<E J ops n
   ·obtain ⟨j,h1,h2,h3⟩:=ih m hm;exact ⟨j,by omega,h2,h3⟩
   ·exact ⟨n,by omega,he,by omega⟩
  ·rw [if_neg he] at h
   obtain ⟨j,h1,h2,h3⟩:=ih m (by omega);exact ⟨j,by omega,h2,h3⟩
theorem effs_at (n:Nat):∀m j,((List.range n).filter (effAt J ops))[m]?=some j→effAt J ops j=true∧E J ops j=m∧j<n:=by
 induction n with
 |zero=>intro m j h;simp at h
 |succ n ih=>
  intro m j h
  rw [List.range_succ,List.filter_append] at h
  by_cases hm:m<E J ops n
  ·rw [List.getElem?_append_left hm] at h
   obtain ⟨h1,h2,h3⟩:=ih m j h;exact ⟨h1,h2,by omega⟩
  ·rw [List.getElem?_append_right (by unfold E at hm;omega)] at h
   by_cases he:effAt J ops n=true
   ·simp only [List.filter_cons,he,if_true,List.filter_nil] at h
    have hlt:=(List.getElem?_eq_some_iff.1 h).1
    have h0:m-(List.filter (effAt J ops) (List.range n)).length=0:=by simpa using hlt
    rw [h0] at h
    simp only [List.getElem?_cons_zero,Option.some.injEq] at h
    subst h
    exact ⟨he,by unfold E at hm ⊢;omega,by omega⟩
   ·simp [he] at h
theorem mem_take {l:List Nat} {k j:Nat} (h:j∈l.take k):∃m,m<k∧l[m]?=some j:=by
 obtain ⟨m,hm,rfl⟩:=List.getElem_of_mem h
 rw [List.length_take] at hm
 exact ⟨m,by omega,by rw [List.getElem_take];exact List.getElem?_eq_getElem _⟩
theorem mem_drop {l:List Nat} {k j:Nat} (h:j∈l.drop k):∃m,k≤m∧l[m]?=some j:=by
 obtain ⟨m,hm,rfl⟩:=List.getElem_of_mem h
 rw [List.length_drop] at hm
 exact ⟨k+m,by omega,by rw [List.getElem_drop];exact List.getElem?_eq_getElem _⟩
structure DInv (J:Env) (call:CallR) (ops:Array Oper) (T:Regs) (s:DSt):Prop where
 len:s.vs.length≤ops.size
 hl:s.hs.length=E J ops s.vs.length+1
 hh:s.hs[E J ops s.vs.length]?=some s.H
 fact:∀j o,j<s.vs.length→ops[j]?=some o→∃Tj vj Hj Hj',s.vs[j]?=some (Tj,vj)∧s.hs[E J ops j]?=some Hj∧s.hs[E J ops (j+1)]?=some Hj'∧
  (wantedR ops Tj o=true→iexec J call o Tj Hj=some (.ret vj,Hj'))∧(wantedR ops Tj o=false→vj=undef∧Hj'=Hj)
 r1:∀q t p,q<s.vs.length→dstAt ops q=some t→s.vs[q]?=some p→s.T.at t=p.2
 r2:∀t,(∀q,q<s.vs.length→dstAt ops q≠some t)→s.T.at t=T.at t
 r1':∀(j:Nat) (pj:Regs×Value),s.vs[j]?=some pj→∀q t p,q<j→dstAt ops q=some t→s.vs[q]?=some p→pj.1.at t=p.2
 r2':∀(j:Nat) (pj:Regs×Value),s.vs[j]?=some pj→∀t,(∀q,q<j→dstAt ops q≠some t)→pj.1.at t=T.at t
theorem putR_at (T:Regs) (d:Option Tmp) (v:Value) (t:Nat):(putR T d v).at t=if d=some t then v else T.at t:=by
 cases d with
 |none=>simp [putR]
 |some d=>
  simp only [putR,at_set,Option.some.injEq]
  by_cases h:t=d
  ·subst h;simp
  ·rw [if_neg h,if_neg (Ne.symm h)]
theorem DInv.step {call:CallR} {T:Regs} {s:DSt} (hR:ROk J ops) (h:DInv J call ops T s) {o:Oper} (ho:ops[s.vs.length]?=some o) {v:Value} {H':IH}
  (hw:wantedR ops s.T o=true→iexec J call o s.T s.H=some (.ret v,H')) (hu:wantedR ops s.T o=false→v=undef∧H'=s.H) (hl:isEff J o=false→H'=s.H):
  DInv J call ops T ⟨putR s.T o.dst v,H',s.vs++[(s.T,v)],if isEff J o then s.hs++[H'] else s.hs⟩:=by
 have hlt:=(Array.getElem?_eq_some_iff.1 ho).1
 have heff:effAt J ops s.vs.length=isEff J o:=by simp [effAt,ho]
 have hd:dstAt ops s.vs.length=o.dst:=by simp [dstAt,ho]
 have hvs:∀{j:Nat},j<s.vs.length→(s.vs++[(s.T,v)])[j]?=s.vs[j]?:=fun hj=>List.getElem?_append_left hj
 have hlast:(s.vs++[(s.T,v)])[s.vs.length]?=some (s.T,v):=by simp
 have hhs:∀{k:Nat} {X:IH},s.hs[k]?=some X→(if isEff J o then s.hs++[H'] else s.hs)[k]?=some X:=fun {k X} hk=>by
  split
  ·rw [List.getElem?_append_left (List.getElem?_eq_some_iff.1 hk).1];exact hk
  ·exact hk
 have hnew:(if isEff J o then s.hs++[H'] else s.hs)[E J ops (s.vs.length+1)]?=some H':=by
  rw [E_succ,heff]
  by_cases he:isEff J o=true
  ·simp only [he,if_true]
   rw [List.getElem?_append_right (by have:=h.hl;omega),h.hl]
   simp
  ·simp only [he,if_false,Bool.false_eq_true]
   rw [hl (by simpa using he)]
   exact h.hh
 have cases_idx:∀{j:Nat} {p:Regs×Value},(s.vs++[(s.T,v)])[j]?=some p→(j<s.vs.length∧s.vs[j]?=some p)∨(j=s.vs.length∧p=(s.T,v)):=fun {j p} hj=>by
  by_cases hjl:j<s.vs.length
  ·rw [hvs hjl] at hj;exact .inl ⟨hjl,hj⟩
  ·have:=(List.getElem?_eq_some_iff.1 hj).1
   simp at this
   have e:j=s.vs.length:=by omega
   subst e
   rw [hlast] at hj
   exact .inr ⟨rfl,(Option.some.inj hj).symm⟩
 refine ⟨by simp;omega,?_,?_,?_,?_,?_,?_,?_⟩
 ·simp only [List.length_append,List.length_singleton]
  rw [E_succ,heff]
  by_cases he:isEff J o=true
  ·simp [he,h.hl]
  ·simp [he,h.hl]
 ·simp only [List.length_append,List.length_singleton];exact hnew
 ·intro j o' hj ho'
  simp only [List.length_append,List.length_singleton] at hj
  by_cases hjl:j<s.vs.length
  ·obtain ⟨Tj,vj,Hj,Hj',h1,h2,h3,h4,h5⟩:=h.fact j o' hjl ho'
   exact ⟨Tj,vj,Hj,Hj',by rw [hvs hjl];exact h1,hhs h2,hhs h3,h4,h5⟩
  ·have e:j=s.vs.length:=by omega
   subst e
   rw [ho] at ho'
   cases ho'
   exact ⟨s.T,v,s.H,H',hlast,hhs h.hh,hnew,hw,hu⟩
 ·intro q t p hq hqd hqp
  rw [putR_at]
  rcases cases_idx hqp with ⟨h1,h2⟩|⟨h1,h2⟩
  ·rw [if_neg (fun e=>hR.dst _ _ t (by omega) hqd (hd.trans e))]
   exact h.r1 q t p h1 hqd h2
  ·subst h1;subst h2
   rw [if_pos (hd.symm.trans hqd)]
 ·intro t ht
  rw [putR_at,if_neg (fun e=>ht s.vs.length (by simp) (hd.trans e))]
  exact h.r2 t fun q hq=>ht q (by simp;omega)
 ·intro j pj hj q t p hq hqd hqp
  rcases cases_idx hj with ⟨h1,h2⟩|⟨h1,h2⟩
  ·rcases cases_idx hqp with ⟨h3,h4⟩|⟨h3,h4⟩
   ·exact h.r1' j pj h2 q t p hq hqd h4
   ·omega
  ·subst h1;subst h2
   rcases cases_idx hqp with ⟨h3,h4⟩|⟨h3,h4⟩
   ·exact h.r1 q t p h3 hqd h4
   ·omega
 ·intro j pj hj t ht
  rcases cases_idx hj with ⟨h1,h2⟩|⟨h1,h2⟩
  ·exact h.r2' j pj h2 t ht
  ·subst h1;subst h2
   exact h.r2 t ht
theorem iexec_light {call:CallR} {o:Oper} {T:Regs} {H H':IH} {r:IE} (hl:isEff J o=false) (h:iexec J call o T H=some (r,H')):∃v,r=.ret v∧H'=H∧iop J o T H=some (.val v H):=by
 unfold iexec at h
 split at h
 ·rename_i v H1 hi
  obtain ⟨u,hu⟩:=light_same hl hi
  cases hu
  cases h
  exact ⟨_,rfl,rfl,hi⟩
 ·rename_i v H1 hi
  obtain ⟨u,hu⟩:=light_same hl hi
  cases hu
 ·rename_i f args H1 hi
  obtain ⟨u,hu⟩:=light_same hl hi
  cases hu
 ·simp at h
theorem drun_spec {call:CallR} {T:Regs} (hR:ROk J ops):∀(l:List Oper) (s s':DSt) (pv:Option Value),ops.toList.drop s.vs.length=l→DInv J call ops T s→drun J call ops l s=some (s',pv)→
  match pv with
  |none=>DInv J call ops T s'∧s'.vs.length=ops.size
  |some v=>∃o Hp,ops[s'.vs.length]?=some o∧DInv J call ops T { s' with H:=Hp }∧wantedR ops s'.T o=true∧iexec J call o s'.T Hp=some (.pan v,s'.H):=by
 intro l
 induction l with
 |nil=>
  intro s s' pv hl hI h
  simp only [drun,Option.some.injEq,Prod.mk.injEq] at h
  obtain ⟨rfl,rfl⟩:=h
  refine ⟨hI,?_⟩
  have:=congrArg List.length hl
  have:=hI.len
  simp at *;omega
 |cons o l ih=>
  intro s s' pv hl hI h
  have ho:ops[s.vs.length]?=some o:=by
   have:=congrArg (fun l=>l[0]?) hl
   simpa using this
  have hl':∀x:Regs×Value,ops.toList.drop (s.vs++[x]).length=l:=fun x=>by
   rw [List.length_append,List.length_singleton,←List.drop_drop,hl];rfl
  simp only [drun] at h
  split at h
  ·rename_i hw
   split at h
   ·rename_i v H' he
    exact ih _ s' pv (hl' _) (hI.step hR ho (fun _=>he) (fun hu=>by rw [hw] at hu;cases hu) fun hlt=>by
     obtain ⟨_,_,h2,_⟩:=iexec_light hlt he;exact h2) h
   ·rename_i v H' he
    simp only [Option.some.injEq,Prod.mk.injEq] at h
    obtain ⟨rfl,rfl⟩:=h
    exact ⟨o,s.H,ho,hI,hw,he⟩
   ·simp at h
  ·rename_i hw
   exact ih _ s' pv (hl' _) (hI.step hR ho (fun hw'=>absurd hw' hw) (fun _=>⟨rfl,rfl⟩) fun _=>rfl) h
end
section
variable {J:Env} {B:Bd} {ι:Emb} {H:IH} {w:World}
def LP (J:Env) (v:Value) (H H':IH) (r:Nat) (w:World) (v':Value):Prop:=
 ∃e cs n vs,J.size e=some n∧H'=H.push (.cells cs e false)∧w.heap[r]?=some (.cells vs e)∧(∀(ι:Emb) (m:Nat),LRel ι m cs vs.toList)∧
  ∀(ι:Emb) (m:Nat),H.next<m→ι H.next=⟨r,0,n,vs.size⟩→VRel ι m v v'
theorem LP.of_heap {v v':Value} {H H':IH} {r:Nat} {w w':World} (h:LP J v H H' r w v') (e:w'.heap[r]?=w.heap[r]?):LP J v H H' r w' v':=by
 obtain ⟨t,cs,n,vs,h1,h2,h3,h4⟩:=h
 exact ⟨t,cs,n,vs,h1,h2,e.trans h3,h4⟩
theorem late_run {o:Oper} (hl:lateO o=true) {T:Regs} {H0 H0':IH} {v:Value} (h:iop J o T H0=some (.val v H0')) {ρ:Operand→Value} {ι:Emb} {m:Nat} (hρ:∀x∈o.op.operands,VRel ι m (iev T x) (ρ x)) (w:World):
  ∃v' ob,(execOp ρ o).run J.P w=.ok (.value v') { w with heap:=w.heap.push ob }∧LP J v H0 H0' w.heap.size { w with heap:=w.heap.push ob } v':=by
 obtain ⟨dst,op,type,pos,after,guard⟩:=o
 cases op<;>simp only [lateO] at hl<;>try (cases hl;done)
 case alloc e=>
  simp only [iop] at h
  cases hz:J.zero e with
  |none=>simp [hz] at h
  |some z=>
   simp only [hz,Option.map_some,Option.some.injEq,inew,OR.val.injEq] at h
   obtain ⟨rfl,rfl⟩:=h
   obtain ⟨z1,z2⟩:=run_zeroValue (w:=w) hz
   obtain ⟨n,hn⟩:=sizeT_of_zero hz
   refine ⟨.pointer (some ⟨w.heap.size,0,none⟩),.cells z.cells e,?_,e,z.cells.toList,n,z.cells,hn,rfl,by simp,fun ι m=>flat_cells z2,fun ι m hm hι=>.ptr ⟨rfl,hm,by simp [hι]⟩⟩
   have hr:(Instr.alloc e true (.tuple #[])).run J.P w=.ok (.pointer (some ⟨w.heap.size,0,none⟩)) { w with heap:=w.heap.push (.cells z.cells e) }:=by
    unfold Instr.alloc
    rw [run_bind_ok z1]
    rfl
   show ((do pure (.value (←Instr.alloc e true (.tuple #[]))):Sem Next)).run J.P w=_
   rw [run_bind_ok hr];rfl
 case buildSlice t len ps=>
  obtain rfl:ps=#[]:=by
   have:ps.size=0:=by simpa using hl
   exact Array.size_eq_zero_iff.1 this
  simp only [iop,OR.ofPair] at h
  cases hb:ibuildSlice J t len (iparts T #[]) H0 with
  |none=>simp [hb] at h
  |some p=>
   obtain ⟨v1,H1⟩:=p
   simp only [hb,Option.map_some,Option.some.injEq,OR.val.injEq] at h
   obtain ⟨rfl,rfl⟩:=h
   unfold ibuildSlice at hb
   split at hb
   ·rename_i e hu
    split at hb
    ·rename_i n z hn hz
     obtain ⟨z1,z2⟩:=run_zeroValue (w:=w) hz
     split at hb
     ·rename_i hlim
      have hf:∀xs:Array Value,Instr.fill (fun i=>some (i*n,n)) xs (iparts T #[])=some xs:=fun _=>rfl
      rw [hf] at hb
      dsimp only at hb
      split at hb
      ·simp only [Option.some.injEq,Prod.mk.injEq] at hb
       obtain ⟨rfl,rfl⟩:=hb
       have hrow:∀xs:Array Value,(newRow e xs).run J.P w=.ok ⟨w.heap.size,0,none⟩ { w with heap:=w.heap.push (.cells xs e) }:=fun _=>rfl
       have h1:∀xs:Array Value,Instr.fill (fun i=>some (i*n,n)) xs ((#[]:Array (Nat×Value))).toList=some xs:=fun _=>rfl
       have hr:(Instr.buildSlice t len #[]).run J.P w=.ok (.slice (some ⟨w.heap.size,0,none⟩) len len) { w with heap:=w.heap.push (.cells ((Array.range (len*n)).map (z.cells[· %z.cells.size]!)) e) }:=by
        unfold Instr.buildSlice
        rw [run_bind_ok (run_underlying hu)]
        dsimp only
        rw [run_bind_ok (run_sizeOf hn),if_neg (by omega)]
        by_cases e0:len*n=0
        ·rw [if_pos e0]
         rw [run_bind_ok (run_pure _)]
         have:(Array.range (len*n)).map (fun x=>(#[]:Array Value)[x%(#[]:Array Value).size]!)=(Array.range (len*n)).map (z.cells[· %z.cells.size]!):=by simp [e0]
         rw [this,h1]
         dsimp only
         rw [run_bind_ok (hrow _)];rfl
        ·rw [if_neg e0]
         rw [run_bind_ok z1,run_bind_ok (run_pure _),h1]
         dsimp only
         rw [run_bind_ok (hrow _)];rfl
       refine ⟨.slice (some ⟨w.heap.size,0,none⟩) len len,.cells ((Array.range (len*n)).map (z.cells[· %z.cells.size]!)) e,?_,e,_,n,(Array.range (len*n)).map (z.cells[· %z.cells.size]!),hn,rfl,by simp,fun ι m=>by simpa using flat_pattern (ι:=ι) (n:=m) (k:=len*n) z2,fun ι m hm hι=>.slice ⟨rfl,hm,by simp [hι]⟩ (.inl rfl) (Nat.le_refl _) ?_⟩
       ·have:execOp ρ ⟨dst,.buildSlice t len #[],type,pos,after,guard⟩=(do pure (.value (←Instr.buildSlice t len #[])):Sem Next):=by simp [execOp]
        rw [this,run_bind_ok hr];rfl
       ·rw [hι]
        simp only [Array.size_map,Array.size_range]
        omega
      ·simp at hb
     ·simp at hb
    ·simp at hb
   ·simp at hb
 case makeSlice t l c=>
  simp only [iop,OR.ofPair] at h
  cases hb:imakeSlice J t (iev T l) (iev T c) H0 with
  |none=>simp [hb] at h
  |some p=>
   obtain ⟨v1,H1⟩:=p
   simp only [hb,Option.map_some,Option.some.injEq,OR.val.injEq] at h
   obtain ⟨rfl,rfl⟩:=h
   have hl':=hρ l (by simp [Op.operands])
   have hc':=hρ c (by simp [Op.operands])
   unfold imakeSlice at hb
   split at hb
   ·rename_i e k1 l1 k2 c1 hu e1 e2
    have isI:∀{k:IntKind} {x:Int} {y z:Value},VRel ι m z y→z=.int k x→y=.int k x:=fun hv hz=>by subst hz;cases hv;rfl
    have q1:=isI hl' e1
    have q2:=isI hc' e2
    split at hb
    ·rename_i n z by_ hn hz hby
     obtain ⟨z1,z2⟩:=run_zeroValue (w:=w) hz
     split at hb
     ·rename_i hlim
      obtain ⟨g1,g2,g3,g4⟩:=hlim
      simp only [Option.some.injEq,Prod.mk.injEq] at hb
      obtain ⟨rfl,rfl⟩:=hb
      obtain ⟨inf,hi,hb⟩:=J.bytes_ok hby
      have wl:IntKind.i64.wrap l1=l1:=wrap_in g1 (by omega)
      have wc:IntKind.i64.wrap c1=c1:=wrap_in (by omega) g3
      have hrow:∀xs:Array Value,(newRow e xs).run J.P w=.ok ⟨w.heap.size,0,none⟩ { w with heap:=w.heap.push (.cells xs e) }:=fun _=>rfl
      have hr:(Instr.makeSlice t (ρ l) (ρ c)).run J.P w=.ok (.slice (some ⟨w.heap.size,0,none⟩) l1.toNat c1.toNat) { w with heap:=w.heap.push (.cells ((Array.range (c1.toNat*n)).map (z.cells[· %z.cells.size]!)) e) }:=by
       rw [q1,q2]
       unfold Instr.makeSlice
       rw [run_bind_ok (run_underlying hu)]
       dsimp only
       rw [run_bind_ok (show (asInt (.int k1 l1)).run J.P w=.ok l1 w from rfl),run_bind_ok (show (asInt (.int k2 c1)).run J.P w=.ok c1 w from rfl),run_bind_ok (run_info hi)]
       rw [hb,wl,wc]
       have hcond:¬((decide (c1<0)||decide ((by_:Int)*c1>2^48)||decide (l1<0)||decide (l1>c1))=true):=by
        simp only [Bool.or_eq_true,decide_eq_true_eq,not_or]
        omega
       rw [if_neg hcond]
       have hroom:(askRoom (c1.toNat*by_)).run J.P w=.ok () w:=by
        unfold askRoom
        by_cases q:c1.toNat*by_>roomBytes
        ·rw [if_pos q];rfl
        ·rw [if_neg q];rfl
       rw [run_bind_ok hroom,run_bind_ok (run_sizeOf hn)]
       by_cases e0:c1.toNat*n=0
       ·rw [if_pos e0]
        rw [run_bind_ok (run_pure _)]
        have:(Array.range (c1.toNat*n)).map (fun x=>(#[]:Array Value)[x%(#[]:Array Value).size]!)=(Array.range (c1.toNat*n)).map (z.cells[· %z.cells.size]!):=by simp [e0]
        rw [this,run_bind_ok (hrow _)];rfl
       ·rw [if_neg e0]
        rw [run_bind_ok z1,run_bind_ok (run_pure _),run_bind_ok (hrow _)];rfl
      refine ⟨.slice (some ⟨w.heap.size,0,none⟩) l1.toNat c1.toNat,.cells ((Array.range (c1.toNat*n)).map (z.cells[· %z.cells.size]!)) e,?_,e,_,n,(Array.range (c1.toNat*n)).map (z.cells[· %z.cells.size]!),hn,rfl,by simp,fun ι m=>by simpa using flat_pattern (ι:=ι) (n:=m) (k:=c1.toNat*n) z2,fun ι m hm hι=>.slice ⟨rfl,hm,by simp [hι]⟩ (.inl rfl) (by omega) ?_⟩
      ·show ((do pure (.value (←Instr.makeSlice t (ρ l) (ρ c))):Sem Next)).run J.P w=_
       rw [run_bind_ok hr];rfl
      ·rw [hι]
       simp only [Array.size_map,Array.size_range]
       omega
     ·simp at hb
    ·simp at hb
   ·simp at hb
theorem Bd.fits.sub {B B':Bd} {n:Nat} (h:B.fits n) (hl:B'.lo=B.lo) (he:∀x,B'.ex x→B.ex x):B'.fits n:=⟨by rw [hl];exact h.1,fun x hx=>h.2 x (he x hx)⟩
theorem Bd.own_sub {B B':Bd} {x:Nat} (h:B.own x) (hl:B'.lo=B.lo) (he:∀x,B'.ex x→B.ex x):B'.own x:=⟨by rw [hl];exact h.1,fun hx=>h.2 (he x hx)⟩
theorem Bd.frn_sub {B B':Bd} {x:Nat} (h:B'.frn x) (hl:B'.lo=B.lo) (he:∀x,B'.ex x→B.ex x):B.frn x:=h.imp (fun h=>by rw [←hl];exact h) (he x)
theorem Below.sub {B B':Bd} {w w':World} (h:Below B w w') (hl:B'.lo=B.lo) (he:∀x,B'.ex x→B.ex x):Below B' w w':=⟨h.os,h.tape,h.output,h.size,fun k hk=>h.block k (Bd.frn_sub hk hl he)⟩
theorem Sim.sub {B B':Bd} (h:Sim J B ι H w) (hl:B'.lo=B.lo) (he:∀x,B'.ex x→B.ex x):Sim J B' ι H w:=by
 refine ⟨h.base.sub hl he,h.glob,h.lt,fun b cs e pr hb=>?_,h.rows,fun b es pr hb=>?_,fun b s p hb=>⟨(h.iters b s p hb).1,Bd.own_sub (h.iters b s p hb).2 hl he⟩,by rw [hl];exact h.keep,h.apart,fun b x hb ha hx=>h.out b x hb ha (he _ hx)⟩
 ·obtain ⟨rc,re,fr,h1,h2,h3,h4,h5⟩:=h.cells b cs e pr hb
  exact ⟨rc,re,fr,h1,h2,h3,h4,fun hp=>⟨Bd.own_sub (h5 hp).1 hl he,(h5 hp).2⟩⟩
 ·obtain ⟨res,clk,h1,h2,h3,h4⟩:=h.maps b es pr hb
  exact ⟨res,clk,h1,h2,h3,fun hp=>Bd.own_sub (h4 hp) hl he⟩
theorem Sim.ahead {B B':Bd} (h:Sim J B ι H w) (o:Obj) (hl:B'.lo=B.lo) (he:∀x,B'.ex x→B.ex x∨x=w.heap.size):Sim J B' ι H { w with heap:=w.heap.push o }:=by
 have look:∀{r:Nat} {o':Obj},w.heap[r]?=some o'→(w.heap.push o)[r]?=some o':=fun hr=>by
  have:=heap_lt hr
  rw [Array.getElem?_push,if_neg (by omega)];exact hr
 have out:∀(b:Nat) (x:Blk),H.get b=some x→alive x=true→¬B'.ex (ι b).rb:=fun b x hb ha hx=>by
  rcases he _ hx with h3|h3
  ·exact h.out b x hb ha h3
  ·have:=h.rb_lt hb ha;omega
 have own:∀{b:Nat} {x:Blk},H.get b=some x→writable x=true→B'.own (ι b).rb:=fun {b x} hb hw=>
  ⟨by rw [hl];exact (h.own_ge hb hw).1,out b x hb (by cases x<;>simp_all [alive,writable])⟩
 refine ⟨⟨by rw [hl];have:=h.base.1;simp;omega,fun x hx=>?_⟩,h.glob,h.lt,fun b cs e pr hb=>?_,fun b cs e hb=>?_,fun b es pr hb=>?_,fun b s p hb=>⟨look (h.iters b s p hb).1,own hb rfl⟩,by rw [hl];exact Env.keep_on h.keep (fun k hk=>by have:=h.base.1;simp only;rw [Array.getElem?_push,if_neg (by omega)]),h.apart,out⟩
 ·simp only [Array.size_push]
  rcases he x hx with h1|h1
  ·have:=h.base.2 x h1;omega
  ·omega
 ·obtain ⟨rc,re,fr,h1,h2,h3,h4,h5⟩:=h.cells b cs e pr hb
  exact ⟨rc,re,fr,look h1,h2,h3,h4,fun hp=>⟨own hb (by simp [writable,hp]),(h5 hp).2⟩⟩
 ·obtain ⟨⟨rc,fr,h0⟩,h1⟩:=h.rows b cs e hb
  exact ⟨⟨rc,fr,look h0⟩,h1⟩
 ·obtain ⟨res,clk,h1,h2,h3,h4⟩:=h.maps b es pr hb
  exact ⟨res,clk,look h1,h2,h3,fun hp=>own hb (by simp [writable,hp])⟩
theorem Sim.absorb {B B':Bd} (h:Sim J B ι H w) {v:Value} {H':IH} {r:Nat} {v':Value} (hp:LP J v H H' r w v') (hr:B.ex r) (hlo:B.lo≤r) (hl:B'.lo=B.lo) (he:∀x,B'.ex x→B.ex x) (hn:¬B'.ex r):
  ∃ι',Sim J B' ι' H' w∧Ext ι H.next ι' H'.next∧VRel ι' H'.next v v':=by
 obtain ⟨e,cs,n,vs,hs,rfl,hw,hc,hv⟩:=hp
 have hE:Ext ι H.next (upd ι H.next ⟨r,0,n,vs.size⟩) (H.push (.cells cs e false)).next:=ext_upd ι H.next _
 refine ⟨upd ι H.next ⟨r,0,n,vs.size⟩,?_,hE,hv _ _ (by simp) (upd_eq _ _ _)⟩
 have old:∀{b:Nat} {y:Blk},H.get b=some y→upd ι H.next ⟨r,0,n,vs.size⟩ b=ι b:=fun hb=>upd_ne ι _ (by have:=h.lt _ _ hb;omega)
 have h':=h.sub hl he
 have hown:B'.own r:=⟨by rw [hl];exact hlo,hn⟩
 have ne:∀{b:Nat} {y:Blk},H.get b=some y→alive y=true→(ι b).rb≠r:=fun hb hw e=>h.out _ _ hb hw (by rw [e];exact hr)
 refine ⟨h'.base,fun g hg=>?_,fun b y hb=>?_,fun b cs' e' pr hb=>?_,fun b cs' e' hb=>?_,fun b es pr hb=>?_,fun b s p hb=>?_,h'.keep,fun b b' y y' hb hb' ha ha' hne hwr=>?_,fun b y hb ha=>?_⟩
 ·obtain ⟨h1,h2,h3⟩:=h.glob g hg
  refine ⟨by simp;omega,?_,?_⟩<;>rw [upd_ne ι _ (by omega)]<;>assumption
 ·rw [IH.get_push] at hb
  split at hb
  ·subst b;simp
  ·have:=h.lt _ _ hb;simp;omega
 ·rw [IH.get_push] at hb
  split at hb
  ·subst b
   cases hb
   refine ⟨vs,e,_,by rw [upd_eq];exact hw,fun i v hv=>?_,by rw [upd_eq],by rw [upd_eq];exact hs,fun _=>⟨by rw [upd_eq];exact hown,.inr (Nat.le_refl _)⟩⟩
   obtain ⟨v',hv',hr⟩:=(hc _ _).get hv
   exact ⟨v',by rw [upd_eq];simpa using hv',hr⟩
  ·obtain ⟨rc,re,fr,h0,h1,h2,h3,h4⟩:=h'.cells _ _ _ _ hb
   rw [old hb]
   exact ⟨rc,re,fr,h0,fun i v hv=>by obtain ⟨v',hv',hr⟩:=h1 i v hv;exact ⟨v',hv',hr.ext hE⟩,h2,h3,h4⟩
 ·rw [IH.get_push] at hb
  split at hb
  ·subst b
   cases hb
   rw [upd_eq]
   exact ⟨⟨vs,_,hw⟩,⟨0,by simp⟩⟩
  ·rw [old hb]
   exact h'.rows _ _ _ hb
 ·rw [IH.get_push] at hb
  split at hb
  ·cases hb
  ·obtain ⟨res,clk,h0,h1,h2,h3⟩:=h'.maps _ _ _ hb
   rw [old hb]
   exact ⟨res,clk,h0,h1,fun i e hv=>by obtain ⟨r,hr,k1,k2⟩:=h2 i e hv;exact ⟨r,hr,k1.ext hE,k2.ext hE⟩,h3⟩
 ·rw [IH.get_push] at hb
  split at hb
  ·cases hb
  ·rw [old hb]
   exact h'.iters _ _ _ hb
 ·rw [IH.get_push] at hb hb'
  split at hb<;>split at hb'
  ·omega
  ·subst b
   rw [upd_eq,old hb']
   exact fun e=>ne hb' ha' e.symm
  ·subst b'
   rw [upd_eq,old hb]
   exact ne hb ha
  ·rw [old hb,old hb']
   exact h.apart _ _ _ _ hb hb' ha ha' hne hwr
 ·rw [IH.get_push] at hb
  split at hb
  ·subst b
   rw [upd_eq];exact hn
  ·rw [old hb];exact h'.out _ _ hb ha
end
section
variable {J:Env} {B:Bd} {ops:Array Oper}
def Closed (ops:Array Oper) (listed:Array Bool):Prop:=∀(i:Nat) (o:Oper),listed[i]?=some true→ops[i]?=some o→∀e∈o.after,Region.binds .any e=true→listed[e.on]?=some true
theorem closed_waits (hR:ROk J ops) {listed:Array Bool} (hC:Closed ops listed):∀(i:Nat) (o:Oper),ops[i]?=some o→(∀e∈o.after,Region.binds .any e=true→listed[e.on]?=some true)→
  ∀j,waitsFor (waits ops) i j=true→listed[j]?=some true∧j<i:=by
 intro i
 induction i using Nat.strongRecOn with
 |_ i ih=>
  intro o ho hp j hj
  obtain ⟨o',ho',e,he,hb,hc⟩:=hR.bit i j hj
  rw [ho] at ho'
  cases ho'
  have hlt:=hR.back i o ho e he hb
  have hl:=hp e he hb
  rcases hc with rfl|hc
  ·exact ⟨hl,hlt⟩
  ·obtain ⟨o2,ho2,_⟩:=hR.bit e.on j hc
   obtain ⟨h1,h2⟩:=ih e.on hlt o2 ho2 (hC e.on o2 hl ho2) j hc
   exact ⟨h1,by omega⟩
theorem ready_mem {listed:Array Bool} {i:Nat} (h:i∈Region.ready .any ops listed):∃o,ops[i]?=some o∧listed.getD i true=false∧∀e∈o.after,Region.binds .any e=true→listed.getD e.on false=true:=by
 unfold Region.ready at h
 simp only [List.mem_filter,List.mem_range,Bool.and_eq_true,Bool.not_eq_true'] at h
 obtain ⟨h0,h1,h2⟩:=h
 refine ⟨ops[i],Array.getElem?_eq_getElem h0,h1,fun e he hb=>?_⟩
 rw [Array.getElem?_eq_getElem h0] at h2
 simp only [Option.map_some,Option.getD_some] at h2
 have:=Array.all_eq_true'.1 h2 e he
 simp only [hb,Bool.not_true,Bool.false_or] at this
 exact this
theorem ready_none {listed:Array Bool} (hR:ROk J ops) (hsz:listed.size=ops.size) (h:Region.ready .any ops listed= []):∀i,i<ops.size→listed[i]?=some true:=by
 intro i
 induction i using Nat.strongRecOn with
 |_ i ih=>
  intro hi
  have hli:i<listed.size:=by omega
  by_cases hb:listed[i]=true
  ·rw [Array.getElem?_eq_getElem hli,hb]
  ·exfalso
   have hmem:i∈Region.ready .any ops listed:=by
    unfold Region.ready
    simp only [List.mem_filter,List.mem_range,Bool.and_eq_true,Bool.not_eq_true']
    refine ⟨hi,by simp [hli];simpa using hb,?_⟩
    rw [Array.getElem?_eq_getElem hi]
    simp only [Option.map_some,Option.getD_some]
    rw [Array.all_eq_true']
    intro e he
    cases hbd:Region.binds .any e with
    |false=>rfl
    |true=>
     have hlt:=hR.back i ops[i] (Array.getElem?_eq_getElem hi) e he hbd
     have:=ih e.on hlt (by omega)
     simp [this]
   rw [h] at hmem
   simp at hmem
def unlisted (n:Nat) (listed:Array Bool):Nat:=((List.range n).filter fun i=> !(listed.getD i true)).length
theorem unlisted_set {n:Nat} {listed:Array Bool} {i:Nat} (hi:i<n) (hl:listed.getD i true=false):unlisted n (listed.setIfInBounds i true)<unlisted n listed:=by
 have hsz:i<listed.size:=by
  rcases Nat.lt_or_ge i listed.size with h|h
  ·exact h
  ·simp [h] at hl
 unfold unlisted
 induction n with
 |zero=>omega
 |succ n ih=>
  rw [List.range_succ,List.filter_append,List.filter_append,List.length_append,List.length_append]
  have other:∀j,j≠i→(listed.setIfInBounds i true).getD j true=listed.getD j true:=fun j hj=>by
   simp [Array.getD_eq_getD_getElem?,Array.getElem?_setIfInBounds_ne (Ne.symm hj)]
  by_cases hin:i=n
  ·subst hin
   have e1:(List.range i).filter (fun j=> !(listed.setIfInBounds i true).getD j true)=(List.range i).filter (fun j=> !listed.getD j true):=by
    refine List.filter_congr fun j hj=>?_
    rw [other j (by have:=List.mem_range.1 hj;omega)]
   rw [e1]
   have e2:(listed.setIfInBounds i true).getD i true=true:=by simp [hsz]
   simp only [List.filter_cons,e2,hl,Bool.not_true,Bool.not_false,if_true,Bool.false_eq_true,if_false,List.filter_nil,List.length_nil,List.length_cons]
   omega
  ·have:=ih (by omega)
   rw [show List.filter (fun i_1=> !(listed.setIfInBounds i true).getD i_1 true) [n]=List.filter (fun i=> !listed.getD i true) [n] by simp only [List.filter_cons,other n (Ne.symm hin),List.filter_nil]]
   omega
structure Rec (J:Env) (call:CallR) (ops:Array Oper) (T:Regs) (s:DSt) (pv:Option (Value×IH)) (N:Nat):Prop where
 ok:ROk J ops
 inv:DInv J call ops T s
 opsOk:∀o∈ops,opOk J N o=true
 check:dcheck J ops s.vs s.hs=true
 fin:match pv with
  |none=>s.vs.length=ops.size
  |some (v,H')=>effAt J ops s.vs.length=true∧(∀j,j<ops.size→s.vs.length<j→waitsFor (waits ops) j s.vs.length=true)∧
   ∃o,ops[s.vs.length]?=some o∧wantedR ops s.T o=true∧iexec J call o s.T s.H=some (.pan v,H')
def Bx (B:Bd) (early:Nat→Option Nat):Bd:=⟨B.lo,fun x=>B.ex x∨∃j,early j=some x⟩
structure AInv (J:Env) (B:Bd) (call:CallR) (ops:Array Oper) (T:Regs) (s:DSt) (ι0:Emb) (n0:Nat) (w0:World) (a0:Act) (listed:Array Bool) (ι:Emb) (k:Nat) (H:IH) (a:Act) (w:World) (early:Nat→Option Nat):Prop where
 size:listed.size=ops.size
 closed:Closed ops listed
 lt:∀i,listed[i]?=some true→i<s.vs.length
 stage:∀j,effAt J ops j=true→E J ops j<k→listed[j]?=some true
 ahead:∀j,effAt J ops j=true→listed[j]?=some true→k≤E J ops j→(E J ops j=k∨lateAt J ops j=true)∧∀Tj vj Hj Hj',s.vs[j]?=some (Tj,vj)→s.hs[E J ops j]?=some Hj→s.hs[E J ops j+1]?=some Hj'→
  match early j with
  |none=>vj=undef∧Hj'=Hj∧∀t,dstAt ops j=some t→a.tmps.getD t undef=undef
  |some r=>∃v',LP J vj Hj Hj' r w v'∧∀t,dstAt ops j=some t→a.tmps.getD t undef=v'
 who:∀j r,early j=some r→effAt J ops j=true∧listed[j]?=some true∧k≤E J ops j∧B.lo≤r∧¬B.ex r∧r<w.heap.size
 inj:∀j j' r,early j=some r→early j'=some r→j=j'
 kle:k≤E J ops s.vs.length
 hk:s.hs[k]?=some H
 sim:Sim J (Bx B early) ι H w
 ext:Ext ι0 n0 ι H.next
 below:Below B w0 w
 defers:a.defers=a0.defers
 tsize:a.tmps.size=a0.tmps.size
 wrote:∀t q p,listed[q]?=some true→(effAt J ops q=true→E J ops q<k)→dstAt ops q=some t→s.vs[q]?=some p→VRel ι H.next p.2 (a.tmps.getD t undef)
 kept:∀t,(∀q,listed[q]?=some true→dstAt ops q≠some t)→VRel ι H.next (T.at t) (a.tmps.getD t undef)
def Norm (J:Env) (ops:Array Oper) (listed:Array Bool) (k:Nat):Prop:=∀j,effAt J ops j=true→listed[j]?=some true→E J ops j≠k
theorem AInv.settle {call:CallR} {T:Regs} {s:DSt} {pv:Option (Value×IH)} {N:Nat} (hr:Rec J call ops T s pv N) {ι0:Emb} {n0:Nat} {w0 w:World} {a0 a:Act} {listed:Array Bool}:∀(m:Nat) {ι:Emb} {k:Nat} {H:IH} {early:Nat→Option Nat},
  AInv J B call ops T s ι0 n0 w0 a0 listed ι k H a w early→E J ops s.vs.length-k≤m→∃ι' k' H' early',AInv J B call ops T s ι0 n0 w0 a0 listed ι' k' H' a w early'∧Norm J ops listed k':=by
 intro m
 induction m with
 |zero=>
  intro ι k H early hA hm
  refine ⟨ι,k,H,early,hA,fun j hj hl e=>?_⟩
  have:=E_lt (hA.lt j hl) hj
  omega
 |succ m ih=>
  intro ι k H early hA hm
  by_cases hn:Norm J ops listed k
  ·exact ⟨ι,k,H,early,hA,hn⟩
  ·obtain ⟨j,hj,hl,rfl⟩:∃j,effAt J ops j=true∧listed[j]?=some true∧E J ops j=k:=by
    apply Classical.byContradiction
    intro hc
    exact hn fun j hj hl e=>hc ⟨j,hj,hl,e⟩
   have hjl:=hA.lt j hl
   have hjE:=E_lt hjl hj
   obtain ⟨o,ho⟩:∃o,ops[j]?=some o:=by
    cases ho:ops[j]? with
    |none=>simp [effAt,ho] at hj
    |some o=>exact ⟨o,rfl⟩
   obtain ⟨Tj,vj,Hj,Hj',f1,f2,f3,_,_⟩:=hr.inv.fact j o hjl ho
   rw [E_succ,if_pos hj] at f3
   have hH:Hj=H:=by have h1:=hA.hk;rw [f2] at h1;exact Option.some.inj h1
   subst hH
   obtain ⟨_,hfact⟩:=hA.ahead j hj hl (Nat.le_refl _)
   have hfact:=hfact Tj vj Hj Hj' f1 f2 f3
   have step:∀{ι':Emb} {early':Nat→Option Nat},(∀j',j'≠j→early' j'=early j')→early' j=none→Sim J (Bx B early') ι' Hj' w→Ext ι Hj.next ι' Hj'.next→(∀t,dstAt ops j=some t→VRel ι' Hj'.next vj (a.tmps.getD t undef))→
     AInv J B call ops T s ι0 n0 w0 a0 listed ι' (E J ops j+1) Hj' a w early':=fun {ι' early'} q1 q2 q3 q4 q5=>by
    have sub:∀j' r,early' j'=some r→j'≠j∧early j'=some r:=fun j' r h=>by
     by_cases e:j'=j
     ·subst e;rw [q2] at h;cases h
     ·exact ⟨e,by rw [←q1 j' e];exact h⟩
    refine ⟨hA.size,hA.closed,hA.lt,fun j' h1 h2=>?_,fun j' h1 h2 h3=>?_,fun j' r h=>?_,fun j1 j2 r h1 h2=>hA.inj j1 j2 r (sub _ _ h1).2 (sub _ _ h2).2,by omega,f3,q3,hA.ext.trans q4,hA.below,hA.defers,hA.tsize,fun t q p h1 h2 h3 h4=>?_,fun t h=>(hA.kept t h).ext q4⟩
    ·rcases Nat.lt_or_ge (E J ops j') (E J ops j) with h|h
     ·exact hA.stage j' h1 h
     ·rw [E_inj h1 hj (by omega)];exact hl
    ·have hne:j'≠j:=fun e=>by subst e;omega
     obtain ⟨r1,r2⟩:=hA.ahead j' h1 h2 (by omega)
     exact ⟨.inr (r1.resolve_left (by omega)),by rw [q1 j' hne];exact r2⟩
    ·obtain ⟨h1,h2⟩:=sub j' r h
     obtain ⟨r1,r2,r3,r4⟩:=hA.who j' r h2
     refine ⟨r1,r2,?_,r4⟩
     have:E J ops j'≠E J ops j:=fun e=>h1 (E_inj r1 hj e)
     omega
    ·by_cases e:q=j
     ·subst e
      rw [f1] at h4;cases h4
      exact q5 t h3
     ·refine (hA.wrote t q p h1 (fun hq=>?_) h3 h4).ext q4
      have:=h2 hq
      have:E J ops q≠E J ops j:=fun e'=>e (E_inj hq hj e')
      omega
   cases hej:early j with
   |none=>
    rw [hej] at hfact
    obtain ⟨rfl,rfl,g3⟩:=hfact
    refine ih (step (early':=early) (fun _ _=>rfl) hej hA.sim (Ext.refl _ _) (fun t ht=>by rw [g3 t ht];exact VRel.undef)) (by omega)
   |some r=>
    rw [hej] at hfact
    obtain ⟨v',g1,g2⟩:=hfact
    obtain ⟨_,_,_,r4,r5,_⟩:=hA.who j r hej
    have hsub:∀x,(Bx B fun j'=>if j'=j then none else early j').ex x→(Bx B early).ex x:=fun x hx=>by
     rcases hx with hx|⟨j',hx⟩
     ·exact .inl hx
     ·refine .inr ⟨j',?_⟩
      change (if j'=j then none else early j')=some x at hx
      split at hx
      ·cases hx
      ·exact hx
    obtain ⟨ι',s1,s2,s3⟩:=hA.sim.absorb (B':=Bx B fun j'=>if j'=j then none else early j') g1 (.inr ⟨j,hej⟩) r4 rfl hsub (fun hx=>by
     rcases hx with hx|⟨j',hx⟩
     ·exact r5 hx
     ·change (if j'=j then none else early j')=some r at hx
      split at hx
      ·cases hx
      ·rename_i hne
       exact hne (hA.inj j' j r hx hej))
    exact ih (step (early':=fun j'=>if j'=j then none else early j') (fun j' hne=>if_neg hne) (if_pos rfl) s1 s2 (fun t ht=>by rw [g2 t ht];exact s3)) (by omega)
theorem wanted_of {ι:Emb} {n:Nat} {T:Regs} {a:Act} (ops:Array Oper) (o:Oper) (h:∀t∈Oper.looksAt ops o,VRel ι n (T.at t) (a.tmps.getD t undef)):
  Region.wanted o (yielded ops a.tmps)=wantedR ops T o:=by
 unfold Region.wanted wantedR
 cases hg:o.guard with
 |none=>rfl
 |some p=>
  obtain ⟨j,want⟩:=p
  dsimp only
  unfold yielded
  cases hd:(ops[j]?).bind (·.dst) with
  |none=>simp
  |some d=>
   have hr:=h d (by simp [Oper.looksAt,hg,hd])
   simp only [Option.bind_some]
   cases ht:a.tmps[d]? with
   |none=>
    have:a.tmps.getD d undef=undef:=by simp [Array.getD_eq_getD_getElem?,ht]
    rw [this] at hr
    cases hT:T.at d<;>rw [hT] at hr<;>cases hr<;>simp
   |some u=>
    have:a.tmps.getD d undef=u:=by simp [Array.getD_eq_getD_getElem?,ht]
    rw [this] at hr
    cases hT:T.at d<;>rw [hT] at hr<;>cases hr<;>simp
theorem operands_of {ι:Emb} {H:IH} {w:World} {T:Regs} {a:Act} {N:Nat} {o:Oper} (hS:Sim J B ι H w) (ho:opOk J N o=true) (h:∀t∈Oper.looksAt ops o,VRel ι H.next (T.at t) (a.tmps.getD t undef)):
  ∀x∈o.op.operands,VRel ι H.next (iev T x) (a.eval x):=by
 intro x hx
 simp only [opOk,Bool.and_eq_true] at ho
 have hk:=Array.all_eq_true'.1 ho.1 x hx
 cases x with
 |tmp t=>exact h t (by
   simp only [Oper.looksAt,List.mem_append,List.mem_filterMap]
   exact .inl ⟨.tmp t,by simpa using hx,rfl⟩)
 |const v=>exact VRel.ofFlat hk
 |global g=>
  obtain ⟨h1,h2,h3⟩:=hS.glob g (by simpa [operandOk] using hk)
  exact .ptr ⟨rfl,h1,by simp [h2,h3]⟩
 |func f=>exact .func _ rfl (by simp) rfl (by simp)
theorem not_early {call:CallR} {T:Regs} {s:DSt} {pv:Option (Value×IH)} {N:Nat} (hr:Rec J call ops T s pv N) {ι0 ι:Emb} {n0 k:Nat} {w0 w:World} {a0 a:Act} {listed:Array Bool} {H:IH} {early:Nat→Option Nat}
  (hA:AInv J B call ops T s ι0 n0 w0 a0 listed ι k H a w early) (hN:Norm J ops listed k) {i:Nat} {o:Oper} (ho:ops[i]?=some o) (hp:∀e∈o.after,Region.binds .any e=true→listed[e.on]?=some true)
  {q:Nat} (hw:waitsFor (waits ops) i q=true) (hq:effAt J ops q=true):E J ops q<k:=by
 have hcw:=closed_waits hr.ok hA.closed i o ho hp
 rcases Nat.lt_or_ge (E J ops q) k with h|h
 ·exact h
 ·exfalso
  have hl:=(hcw q hw).1
  have hne:=hN q hq hl
  obtain ⟨h1,_⟩:=hA.ahead q hq hl h
  have hlate:=h1.resolve_left hne
  obtain ⟨e,e1,e2,e3⟩:=E_onto (J:=J) (ops:=ops) q k (by omega)
  have hwe:=(lateAt_spec hlate).2 i (Array.getElem?_eq_some_iff.1 ho).1 hw e e1 e2
  exact hN e e2 (hcw e hwe).1 e3
theorem looks_same {call:CallR} {T:Regs} {s:DSt} {pv:Option (Value×IH)} {N:Nat} (hr:Rec J call ops T s pv N) {ι0 ι:Emb} {n0 k:Nat} {w0 w:World} {a0 a:Act} {listed:Array Bool} {H:IH}
  {early:Nat→Option Nat} (hA:AInv J B call ops T s ι0 n0 w0 a0 listed ι k H a w early) (hN:Norm J ops listed k) {i:Nat} {o:Oper} (ho:ops[i]?=some o) (hl:listed.getD i true=false) (hp:∀e∈o.after,Region.binds .any e=true→listed[e.on]?=some true)
  {Ti:Regs} (hi:i≤s.vs.length) (h1:∀q t p,q<i→dstAt ops q=some t→s.vs[q]?=some p→Ti.at t=p.2) (h2:∀t,(∀q,q<i→dstAt ops q≠some t)→Ti.at t=T.at t):
  ∀t∈Oper.looksAt ops o,VRel ι H.next (Ti.at t) (a.tmps.getD t undef):=by
 intro t ht
 have nl:listed[i]? ≠some true:=fun e=>by simp [Array.getD_eq_getD_getElem?,e] at hl
 by_cases hw:∃q,dstAt ops q=some t
 ·obtain ⟨q,hq⟩:=hw
  have uniq:∀q',dstAt ops q'=some t→q'=q:=fun q' hq'=>by
   rcases Nat.decEq q' q with h|h
   ·exact absurd hq (hr.ok.dst q' q t h hq')
   ·exact h
  by_cases hqi:q=i
  ·subst hqi
   rw [h2 t fun q' hlt e=>by have:=uniq q' e;omega]
   exact hA.kept t fun q' hl' e=>by have:=uniq q' e;subst this;exact nl hl'
  ·rcases hr.ok.reads i q o t (Ne.symm hqi) ho hq ht with hwt|hwt
   ·obtain ⟨q1,q2⟩:=closed_waits hr.ok hA.closed i o ho hp q hwt
    have hlt:=hA.lt q q1
    have hv:s.vs[q]?=some s.vs[q]:=List.getElem?_eq_getElem hlt
    rw [h1 q t _ q2 hq hv]
    exact hA.wrote t q _ q1 (not_early hr hA hN ho hp hwt) hq hv
   ·have hnq:listed[q]? ≠some true:=fun e=>by
     obtain ⟨oq,hoq,_⟩:=hr.ok.bit q i hwt
     exact nl (closed_waits hr.ok hA.closed q oq hoq (hA.closed q oq e hoq) i hwt).1
    have hge:¬q<i:=fun hlt=>by
     obtain ⟨oq,hoq,_⟩:=hr.ok.bit q i hwt
     have:∀(q:Nat) (oq:Oper),ops[q]?=some oq→waitsFor (waits ops) q i=true→i<q:=by
      intro q
      induction q using Nat.strongRecOn with
      |_ q ih=>
       intro oq hoq hb
       obtain ⟨o',ho',e,he,hbd,hc⟩:=hr.ok.bit q i hb
       have hlt:=hr.ok.back q o' ho' e he hbd
       rcases hc with hc|hc
       ·omega
       ·obtain ⟨o2,ho2,_⟩:=hr.ok.bit e.on i hc
        have:=ih e.on hlt o2 ho2 hc
        omega
     have:=this q oq hoq hwt
     omega
    rw [h2 t fun q' hlt e=>by have:=uniq q' e;omega]
    exact hA.kept t fun q' hl' e=>by have:=uniq q' e;subst this;exact hnq hl'
 ·rw [h2 t fun q _ e=>hw ⟨q,e⟩]
  exact hA.kept t fun q _ e=>hw ⟨q,e⟩
theorem put_getD (a:Act) (d:Option Tmp) (v:Value) (t:Nat) (hd:∀t,d=some t→t<a.tmps.size):(a.put d v).tmps.getD t undef=if d=some t then v else a.tmps.getD t undef:=by
 cases d with
 |none=>simp [Act.put]
 |some d=>
  have:=hd d rfl
  simp only [Act.put,Option.some.injEq]
  by_cases e:d=t
  ·subst e;simp [this]
  ·rw [if_neg e]
   simp [Array.getD_eq_getD_getElem?,Array.getElem?_setIfInBounds_ne e]
theorem set_true {listed:Array Bool} {i j:Nat} (h:(listed.setIfInBounds i true)[j]?=some true):j=i∨listed[j]?=some true:=by
 by_cases e:j=i
 ·exact .inl e
 ·rw [Array.getElem?_setIfInBounds_ne (Ne.symm e)] at h;exact .inr h
theorem set_keeps {listed:Array Bool} {i j:Nat} (h:listed[j]?=some true):(listed.setIfInBounds i true)[j]?=some true:=by
 by_cases e:j=i
 ·subst e
  have:=(Array.getElem?_eq_some_iff.1 h).1
  simp [this]
 ·rw [Array.getElem?_setIfInBounds_ne (Ne.symm e)];exact h
theorem AInv.next {call:CallR} {T:Regs} {s:DSt} {pv:Option (Value×IH)} {N:Nat} (hr:Rec J call ops T s pv N) {ι0 ι:Emb} {n0 k:Nat} {w0 w:World} {a0 a:Act} {listed:Array Bool} {H:IH} {early:Nat→Option Nat}
  (hA:AInv J B call ops T s ι0 n0 w0 a0 listed ι k H a w early) (hN:a0.tmps.size=N) {i:Nat} {o:Oper} (ho:ops[i]?=some o) (hl:listed.getD i true=false) (hp:∀e∈o.after,Region.binds .any e=true→listed[e.on]?=some true)
  (hip:i<s.vs.length) {Ti:Regs} {vi:Value} (hv:s.vs[i]?=some (Ti,vi)) {ι':Emb} {H':IH} {w':World} {v':Value} (hS:Sim J (Bx B early) ι' H' w') (hvr:VRel ι' H'.next vi v')
  (he:Ext ι H.next ι' H'.next) (hb:Below (Bx B early) w w') {k':Nat} (hk':s.hs[k']?=some H') (hkk:(effAt J ops i=true∧k=E J ops i∧k'=E J ops i+1)∨(effAt J ops i=false∧k'=k)):
  AInv J B call ops T s ι0 n0 w0 a0 (listed.setIfInBounds i true) ι' k' H' (a.put o.dst v') w' early:=by
 have hdi:dstAt ops i=o.dst:=by simp [dstAt,ho]
 have hok:=hr.opsOk o (Array.mem_of_getElem? ho)
 have hdlt:∀t,o.dst=some t→t<a.tmps.size:=fun t ht=>by rw [hA.tsize,hN];exact dst_lt hok t ht
 have hisz:i<listed.size:=by
  rcases Nat.lt_or_ge i listed.size with h|h
  ·exact h
  ·simp [h] at hl
 have nl:listed[i]? ≠some true:=fun e=>by simp [Array.getD_eq_getD_getElem?,e] at hl
 have hbB:Below B w w':=hb.sub rfl fun x hx=>.inl hx
 have keepT:∀j t,j≠i→dstAt ops j=some t→(a.put o.dst v').tmps.getD t undef=a.tmps.getD t undef:=fun j t hne hd=>by
  rw [put_getD a o.dst v' t hdlt,if_neg fun h=>hr.ok.dst j i t hne hd (hdi.trans h)]
 refine ⟨by simp [hA.size],fun q oq hq hoq e hem hbd=>?_,fun q hq=>?_,fun j hj hjk=>?_,fun j hj hjl hjk=>?_,fun j r hjr=>?_,hA.inj,?_,hk',hS,hA.ext.trans he,hA.below.trans hbB,by rw [put_defers,hA.defers],by rw [put_size,hA.tsize],fun t q p hq hqk hd hqp=>?_,fun t ht=>?_⟩
 ·rcases set_true hq with rfl|hq
  ·rw [ho] at hoq;cases hoq;exact set_keeps (hp e hem hbd)
  ·exact set_keeps (hA.closed q oq hq hoq e hem hbd)
 ·rcases set_true hq with rfl|hq
  ·exact hip
  ·exact hA.lt q hq
 ·by_cases e:j=i
  ·subst e;simp [hisz]
  ·refine set_keeps (hA.stage j hj ?_)
   rcases hkk with ⟨h1,h2,h3⟩|⟨h1,h2⟩
   ·have:E J ops j≠E J ops i:=fun e'=>e (E_inj hj h1 e')
    omega
   ·omega
 ·have hne:j≠i:=fun e=>by
   subst e
   rcases hkk with ⟨h1,h2,h3⟩|⟨h1,h2⟩
   ·omega
   ·rw [h1] at hj;cases hj
  have hjl':=(set_true hjl).resolve_left hne
  have hkk':k≤k':=by rcases hkk with ⟨_,h2,h3⟩|⟨_,h2⟩<;>omega
  obtain ⟨h1,h2⟩:=hA.ahead j hj hjl' (by omega)
  refine ⟨?_,fun Tj vj Hj Hj' g1 g2 g3=>?_⟩
  ·rcases h1 with h1|h1
   ·left
    rcases hkk with ⟨q1,q2,q3⟩|⟨q1,q2⟩
    ·exact absurd (E_inj hj q1 (by omega)) hne
    ·omega
   ·exact .inr h1
  ·have h3:=h2 Tj vj Hj Hj' g1 g2 g3
   cases hej:early j with
   |none=>
    rw [hej] at h3
    exact ⟨h3.1,h3.2.1,fun t ht=>by rw [keepT j t hne ht];exact h3.2.2 t ht⟩
   |some r=>
    rw [hej] at h3
    obtain ⟨u,h4,h5⟩:=h3
    exact ⟨u,h4.of_heap (hb.block r (.inr (.inr ⟨j,hej⟩))),fun t ht=>by rw [keepT j t hne ht];exact h5 t ht⟩
 ·obtain ⟨r1,r2,r3,r4,r5,r6⟩:=hA.who j r hjr
  refine ⟨r1,set_keeps r2,?_,r4,r5,Nat.lt_of_lt_of_le r6 hb.size⟩
  rcases hkk with ⟨h1,h2,h3⟩|⟨h1,h2⟩
  ·have:E J ops j≠E J ops i:=fun e'=>nl (E_inj r1 h1 e'▸r2)
   omega
  ·omega
 ·rcases hkk with ⟨h1,h2,h3⟩|⟨h1,h2⟩
  ·have:=E_lt hip h1;omega
  ·rw [h2];exact hA.kle
 ·rw [put_getD a o.dst v' t hdlt]
  rcases set_true hq with rfl|hq2
  ·rw [if_pos (hdi.symm.trans hd)]
   rw [hv] at hqp
   cases hqp
   exact hvr
  ·by_cases e:q=i
   ·subst e;exact absurd hq2 nl
   ·rw [if_neg fun h=>hr.ok.dst q i t e hd (hdi.trans h)]
    refine (hA.wrote t q p hq2 (fun hqe=>?_) hd hqp).ext he
    have:=hqk hqe
    rcases hkk with ⟨h1,h2,h3⟩|⟨h1,h2⟩
    ·have:E J ops q≠E J ops i:=fun e'=>e (E_inj hqe h1 e')
     omega
    ·omega
 ·rw [put_getD a o.dst v' t hdlt,if_neg fun h=>ht i (by simp [hisz]) (hdi.trans h)]
  exact (hA.kept t fun q hq=>ht q (set_keeps hq)).ext he
theorem AInv.first {call:CallR} {T:Regs} {s:DSt} {pv:Option (Value×IH)} {N:Nat} (hr:Rec J call ops T s pv N) {ι0 ι:Emb} {n0 k:Nat} {w0 w:World} {a0 a:Act} {listed:Array Bool} {H:IH} {early:Nat→Option Nat}
  (hA:AInv J B call ops T s ι0 n0 w0 a0 listed ι k H a w early) (hN:a0.tmps.size=N) {i:Nat} {o:Oper} (ho:ops[i]?=some o) (hl:listed.getD i true=false) (hp:∀e∈o.after,Region.binds .any e=true→listed[e.on]?=some true)
  (hip:i<s.vs.length) {Ti:Regs} {vi:Value} {Hi Hi':IH} (hv:s.vs[i]?=some (Ti,vi)) (hHi:s.hs[E J ops i]?=some Hi) (hHi':s.hs[E J ops i+1]?=some Hi') (hie:effAt J ops i=true) (hlate:lateAt J ops i=true) (hki:k≤E J ops i)
  {early':Nat→Option Nat} {w':World} {v':Value} (hS:Sim J (Bx B early') ι H w') (hb:Below B w w') (hbe:∀j r,early j=some r→w'.heap[r]?=w.heap[r]?) (he1:∀j,j≠i→early' j=early j)
  (he2:match early' i with
   |none=>vi=undef∧Hi'=Hi∧v'=undef
   |some r=>LP J vi Hi Hi' r w' v'∧B.lo≤r∧¬B.ex r∧r<w'.heap.size∧∀j,early j≠some r):
  AInv J B call ops T s ι0 n0 w0 a0 (listed.setIfInBounds i true) ι k H (a.put o.dst v') w' early':=by
 have hdi:dstAt ops i=o.dst:=by simp [dstAt,ho]
 have hok:=hr.opsOk o (Array.mem_of_getElem? ho)
 have hdlt:∀t,o.dst=some t→t<a.tmps.size:=fun t ht=>by rw [hA.tsize,hN];exact dst_lt hok t ht
 have hisz:i<listed.size:=by
  rcases Nat.lt_or_ge i listed.size with h|h
  ·exact h
  ·simp [h] at hl
 have nl:listed[i]? ≠some true:=fun e=>by simp [Array.getD_eq_getD_getElem?,e] at hl
 have keepT:∀j t,j≠i→dstAt ops j=some t→(a.put o.dst v').tmps.getD t undef=a.tmps.getD t undef:=fun j t hne hd=>by
  rw [put_getD a o.dst v' t hdlt,if_neg fun h=>hr.ok.dst j i t hne hd (hdi.trans h)]
 refine ⟨by simp [hA.size],fun q oq hq hoq e hem hbd=>?_,fun q hq=>?_,fun j hj hjk=>set_keeps (hA.stage j hj hjk),fun j hj hjl hjk=>?_,fun j r hjr=>?_,fun j1 j2 r h1 h2=>?_,hA.kle,hA.hk,hS,hA.ext,hA.below.trans hb,by rw [put_defers,hA.defers],by rw [put_size,hA.tsize],fun t q p hq hqk hd hqp=>?_,fun t ht=>?_⟩
 ·rcases set_true hq with rfl|hq
  ·rw [ho] at hoq;cases hoq;exact set_keeps (hp e hem hbd)
  ·exact set_keeps (hA.closed q oq hq hoq e hem hbd)
 ·rcases set_true hq with rfl|hq
  ·exact hip
  ·exact hA.lt q hq
 ·by_cases hne:j=i
  ·subst hne
   refine ⟨.inr hlate,fun Tj vj Hj Hj' g1 g2 g3=>?_⟩
   rw [hv] at g1;rw [hHi] at g2;rw [hHi'] at g3
   cases g1;cases g2;cases g3
   cases hej:early' j with
   |none=>
    rw [hej] at he2
    exact ⟨he2.1,he2.2.1,fun t ht=>by rw [put_getD a o.dst v' t hdlt,if_pos (hdi.symm.trans ht)];exact he2.2.2⟩
   |some r=>
    rw [hej] at he2
    exact ⟨v',he2.1,fun t ht=>by rw [put_getD a o.dst v' t hdlt,if_pos (hdi.symm.trans ht)]⟩
  ·have hjl':=(set_true hjl).resolve_left hne
   obtain ⟨h1,h2⟩:=hA.ahead j hj hjl' hjk
   refine ⟨h1,fun Tj vj Hj Hj' g1 g2 g3=>?_⟩
   have h3:=h2 Tj vj Hj Hj' g1 g2 g3
   rw [he1 j hne]
   cases hej:early j with
   |none=>
    rw [hej] at h3
    exact ⟨h3.1,h3.2.1,fun t ht=>by rw [keepT j t hne ht];exact h3.2.2 t ht⟩
   |some r=>
    rw [hej] at h3
    obtain ⟨u,h4,h5⟩:=h3
    exact ⟨u,h4.of_heap (hbe j r hej),fun t ht=>by rw [keepT j t hne ht];exact h5 t ht⟩
 ·by_cases hne:j=i
  ·subst hne
   rw [hjr] at he2
   exact ⟨hie,by simp [hisz],hki,he2.2.1,he2.2.2.1,he2.2.2.2.1⟩
  ·rw [he1 j hne] at hjr
   obtain ⟨r1,r2,r3,r4,r5,r6⟩:=hA.who j r hjr
   exact ⟨r1,set_keeps r2,r3,r4,r5,Nat.lt_of_lt_of_le r6 hb.size⟩
 ·by_cases e1:j1=i<;>by_cases e2:j2=i
  ·rw [e1,e2]
  ·subst e1
   rw [h1] at he2
   rw [he1 j2 e2] at h2
   exact absurd h2 (he2.2.2.2.2 j2)
  ·subst e2
   rw [h2] at he2
   rw [he1 j1 e1] at h1
   exact absurd h1 (he2.2.2.2.2 j1)
  ·rw [he1 j1 e1] at h1
   rw [he1 j2 e2] at h2
   exact hA.inj j1 j2 r h1 h2
 ·rw [put_getD a o.dst v' t hdlt]
  rcases set_true hq with rfl|hq2
  ·have:=hqk hie;omega
  ·by_cases e:q=i
   ·subst e;exact absurd hq2 nl
   ·rw [if_neg fun h=>hr.ok.dst q i t e hd (hdi.trans h)]
    exact hA.wrote t q p hq2 hqk hd hqp
 ·rw [put_getD a o.dst v' t hdlt,if_neg fun h=>ht i (by simp [hisz]) (hdi.trans h)]
  exact hA.kept t fun q hq=>ht q (set_keeps hq)
def endX:Option (Value×IH)→IX
 |none=>.normal
 |some (v,_)=>.pan v
def endH (s:DSt):Option (Value×IH)→IH
 |none=>s.H
 |some (_,H')=>H'
theorem any_wp {K:Nat→Prop} (hK:∀t,K t→∀q,dstAt ops q≠some t) {call:CallR} (hcall:∀B,CallSound J B call) {T:Regs} {s:DSt} {pv:Option (Value×IH)} {N:Nat} (hr:Rec J call ops T s pv N) {ι0:Emb} {n0:Nat} {w0:World} {a0:Act} (hN:a0.tmps.size=N):
  ∀(fuel:Nat) (listed:Array Bool) (ι:Emb) (k:Nat) (H:IH) (a:Act) (w:World) (early:Nat→Option Nat),AInv J B call ops T s ι0 n0 w0 a0 listed ι k H a w early→Norm J ops listed k→unlisted ops.size listed≤fuel→
   wpAny J.P .any ops (CodePost J B K ι0 n0 w0 a0 (endX pv) s.T (endH s pv)) fuel listed a w:=by
 have hfin:∀(listed:Array Bool) (ι:Emb) (k:Nat) (H:IH) (a:Act) (w:World) (early:Nat→Option Nat),AInv J B call ops T s ι0 n0 w0 a0 listed ι k H a w early→Norm J ops listed k→Region.ready .any ops listed= []→
   CodePost J B K ι0 n0 w0 a0 (endX pv) s.T (endH s pv) .normal a w:=by
  intro listed ι k H a w early hA hNm hrd
  have hall:=ready_none hr.ok hA.size hrd
  have hf:=hr.fin
  cases pv with
  |some p=>
   obtain ⟨v,H'⟩:=p
   obtain ⟨_,_,o,ho,_⟩:=hf
   have:=hA.lt _ (hall _ (Array.getElem?_eq_some_iff.1 ho).1)
   omega
  |none=>
   have hf:s.vs.length=ops.size:=hf
   have hk:k=E J ops s.vs.length:=by
    rcases Nat.lt_or_ge k (E J ops s.vs.length) with h|h
    ·obtain ⟨j,j1,j2,j3⟩:=E_onto _ k h
     exact absurd j3 (hNm j j2 (hall j (by omega)))
    ·have:=hA.kle;omega
   have hH:H=s.H:=by
    have h1:=hA.hk
    rw [hk,hr.inv.hh] at h1
    exact (Option.some.inj h1).symm
   subst hH
   have hnone:∀j r,early j≠some r:=fun j r h=>by
    obtain ⟨r1,r2,r3,_⟩:=hA.who j r h
    have:=E_lt (J:=J) (ops:=ops) (hA.lt j r2) r1
    omega
   refine ⟨ι,undef,rfl,hA.sim.sub rfl (fun x hx=>.inl hx),hA.ext,hA.below,hA.defers,hA.tsize,fun t=>?_⟩
   by_cases hw:∃q,q<s.vs.length∧dstAt ops q=some t
   ·obtain ⟨q,h1,h2⟩:=hw
    have hv:s.vs[q]?=some s.vs[q]:=List.getElem?_eq_getElem h1
    rw [hr.inv.r1 q t _ h1 h2 hv]
    exact hA.wrote t q _ (hall q (by omega)) (fun hq=>by rw [hk];exact E_lt h1 hq) h2 hv
   ·rw [hr.inv.r2 t fun q h1 h2=>hw ⟨q,h1,h2⟩]
    exact hA.kept t fun q h1 h2=>hw ⟨q,hA.lt q h1,h2⟩
 intro fuel
 induction fuel with
 |zero=>
  intro listed ι k H a w early hA hNm hu
  have hrd:Region.ready .any ops listed= []:=by
   cases hc:Region.ready .any ops listed with
   |nil=>rfl
   |cons i l=>
    obtain ⟨o,ho,hl,_⟩:=ready_mem (ops:=ops) (listed:=listed) (i:=i) (by rw [hc];simp)
    have:=unlisted_set (n:=ops.size) (Array.getElem?_eq_some_iff.1 ho).1 hl
    omega
  exact ⟨hrd,hfin _ _ _ _ _ _ _ hA hNm hrd⟩
 |succ fuel ih=>
  intro listed ι k H a w early hA hNm hu
  refine ⟨hfin _ _ _ _ _ _ _ hA hNm,fun i hi=>?_⟩
  obtain ⟨o,ho,hl,hp0⟩:=ready_mem hi
  have hisz:=(Array.getElem?_eq_some_iff.1 ho).1
  have hp:∀e∈o.after,Region.binds .any e=true→listed[e.on]?=some true:=fun e he hb=>by
   have:=hp0 e he hb
   simp only [Array.getD_eq_getD_getElem?] at this
   cases h:listed[e.on]? with
   |none=>simp [h] at this
   |some b=>simp [h] at this;rw [this]
  have nl:listed[i]? ≠some true:=fun e=>by simp [Array.getD_eq_getD_getElem?,e] at hl
  have hcw:=closed_waits hr.ok hA.closed i o ho hp
  have hok:=hr.opsOk o (Array.mem_of_getElem? ho)
  have heff:effAt J ops i=isEff J o:=by simp [effAt,ho]
  have hkE:effAt J ops i=true→k≤E J ops i:=fun he=>by
   rcases Nat.lt_or_ge (E J ops i) k with h|h
   ·exact absurd (hA.stage i he h) nl
   ·exact h
  have hstage:effAt J ops i=true→lateAt J ops i=false→k=E J ops i:=fun he hnl=>by
   have h1:∀j,effAt J ops j=true→E J ops j<E J ops i→listed[j]?=some true:=fun j hj hlt=>by
    have hji:j<i:=by
     rcases Nat.lt_or_ge j i with h|h
     ·exact h
     ·have:=E_mono (J:=J) (ops:=ops) h;omega
    exact (hcw j ((hr.ok.total i j hji he hj).resolve_right (by rw [hnl];simp))).1
   rcases Nat.lt_trichotomy k (E J ops i) with h|h|h
   ·obtain ⟨j,j1,j2,j3⟩:=E_onto _ k h
    exact absurd j3 (hNm j j2 (h1 j j2 (by omega)))
   ·exact h
   ·exact absurd (hA.stage i he h) nl
  have hle:i≤s.vs.length:=by
   have hf:=hr.fin
   cases pv with
   |none=>
    have hf:s.vs.length=ops.size:=hf
    omega
   |some p=>
    obtain ⟨v,H'⟩:=p
    obtain ⟨_,h2,_⟩:=hf
    rcases Nat.lt_or_ge s.vs.length i with h|h
    ·have:=hA.lt _ (hcw _ (h2 i hisz h)).1
     omega
    ·exact h
  unfold wpOp
  rw [ho]
  dsimp only
  by_cases hip:i<s.vs.length
  ·obtain ⟨Ti,vi,Hi,Hi',f1,f2,f3,f4,f5⟩:=hr.inv.fact i o hip ho
   have hlooks:=looks_same hr hA hNm ho hl hp (Ti:=Ti) hle (fun q t p=>hr.inv.r1' i _ f1 q t p) (fun t=>hr.inv.r2' i _ f1 t)
   have hw:=wanted_of ops o hlooks
   have hρ:=operands_of hA.sim hok hlooks
   have hus:=unlisted_set hisz hl
   have go1:∀{ι':Emb} {H':IH} {w':World} {v':Value} {k':Nat} {early':Nat→Option Nat},AInv J B call ops T s ι0 n0 w0 a0 (listed.setIfInBounds i true) ι' k' H' (a.put o.dst v') w' early'→
     wpAny J.P .any ops (CodePost J B K ι0 n0 w0 a0 (endX pv) s.T (endH s pv)) fuel (listed.setIfInBounds i true) (a.put o.dst v') w':=fun h1=>by
    obtain ⟨ι2,k2,H2,early2,h2,h3⟩:=h1.settle hr _ (Nat.le_refl _)
    exact ih _ _ _ _ _ _ _ h2 h3 (by omega)
   have go:∀{ι':Emb} {H':IH} {w':World} {v':Value} {k':Nat},Sim J (Bx B early) ι' H' w'→VRel ι' H'.next vi v'→Ext ι H.next ι' H'.next→Below (Bx B early) w w'→s.hs[k']?=some H'→
     ((effAt J ops i=true∧k=E J ops i∧k'=E J ops i+1)∨(effAt J ops i=false∧k'=k))→
     wpAny J.P .any ops (CodePost J B K ι0 n0 w0 a0 (endX pv) s.T (endH s pv)) fuel (listed.setIfInBounds i true) (a.put o.dst v') w':=fun h1 h2 h3 h4 h5 h6=>
    go1 (hA.next hr hN ho hl hp hip f1 h1 h2 h3 h4 h5 h6)
   rw [hw]
   by_cases hwt:wantedR ops Ti o=true
   ·rw [if_pos hwt]
    left
    by_cases hea:isEff J o=true∧lateAt J ops i=true∧k≠E J ops i
    ·obtain ⟨he,hlt,hkne⟩:=hea
     have hei:=heff.trans he
     have f3':=f3
     rw [E_succ,heff,if_pos he] at f3'
     obtain ⟨⟨o',ho',hlo⟩,_⟩:=lateAt_spec hlt
     rw [ho] at ho';cases ho'
     have hx:=f4 hwt
     have hi:∃v,iop J o Ti Hi=some (.val v Hi')∧v=vi:=by
      unfold iexec at hx
      split at hx
      ·rename_i v H1 hi;cases hx;exact ⟨_,hi,rfl⟩
      ·cases hx
      ·rename_i f args H1 hi
       exfalso
       obtain ⟨dst,op,type,pos,after,guard⟩:=o
       cases op<;>simp only [lateO] at hlo<;>try (cases hlo;done)
       ·simp only [iop,Option.map_eq_some_iff] at hi;obtain ⟨_,_,h⟩:=hi;cases h
       ·simp only [iop,OR.ofPair,Option.map_eq_some_iff] at hi;obtain ⟨_,_,h⟩:=hi;cases h
       ·simp only [iop,OR.ofPair,Option.map_eq_some_iff] at hi;obtain ⟨_,_,h⟩:=hi;cases h
      ·simp at hx
     obtain ⟨v,hi,rfl⟩:=hi
     obtain ⟨v',ob,hrun,hLP⟩:=late_run hlo hi hρ w
     unfold Oper.wp
     rw [hrun]
     have hb0:=hA.sim.base
     refine go1 (early':=fun j=>if j=i then some w.heap.size else early j) (hA.first hr hN ho hl hp hip f1 f2 f3' hei hlt (hkE hei) (hA.sim.ahead ob rfl fun x hx=>?_) (below_push _ (hb0.sub rfl fun x hx=>.inl hx)) (fun j r hj=>?_) (fun j hj=>if_neg hj) ?_)
     ·rcases hx with hx|⟨j,hx⟩
      ·exact .inl (.inl hx)
      ·change (if j=i then some w.heap.size else early j)=some x at hx
       split at hx
       ·exact .inr (Option.some.inj hx).symm
       ·exact .inl (.inr ⟨j,hx⟩)
     ·have:=(hA.who j r hj).2.2.2.2.2
      simp only
      rw [Array.getElem?_push,if_neg (by omega)]
     ·simp only [if_true]
      exact ⟨hLP,hb0.1,fun hx=>by have:=hb0.2 _ (.inl hx);omega,by simp,fun j hj=>by have:=(hA.who j _ hj).2.2.2.2.2;omega⟩
    by_cases he:isEff J o=true
    ·have hk:k=E J ops i:=by
      apply Classical.byContradiction
      intro hc
      cases hlt:lateAt J ops i with
      |false=>exact hc (hstage (heff.trans he) hlt)
      |true=>exact hea ⟨he,hlt,hc⟩
     have hH:H=Hi:=by have h1:=hA.hk;rw [hk,f2] at h1;exact (Option.some.inj h1).symm
     subst hH
     refine exec_wp (hcall _) hA.sim hρ (f4 hwt) (fun v v' ι' w' e s1 s2 s3 s4=>?_) (fun v v' ι' w' e s1 s2 s3 s4=>by cases e)
     cases e
     exact go s1 s2 s3 s4 (k':=E J ops i+1) (by rw [E_succ,heff,if_pos he] at f3;exact f3) (.inl ⟨heff.trans he,hk,rfl⟩)
    ·simp only [Bool.not_eq_true] at he
     have hx:iexec J call o Ti H=some (.ret vi,H):=by
      obtain ⟨v1,e1,e2,e3⟩:=iexec_light he (f4 hwt)
      cases e1
      have key:iop J o Ti H=some (.val vi H):=by
       by_cases hrd:readsH o=true
       ·have hkl:=(List.getElem?_eq_some_iff.1 hA.hk).1
        have hck:=hr.check
        unfold dcheck at hck
        split at hck
        ·rename_i H0 hh0
         rw [hh0] at hkl
         have hil:=(List.getElem?_eq_some_iff.1 f2).1
         rw [hh0] at hil
         simp at hkl hil
         have h1:=hA.hk
         rw [hkl,←hil,f2] at h1
         cases h1
         exact e3
        by_cases hke:k=E J ops i
        ·have h1:=hA.hk
         rw [hke,f2] at h1
         cases h1
         exact e3
        have hmem:allowed (waits ops) (effs J ops) i k=false∨(i,k)∈pairs J ops:=by
         cases hal:allowed (waits ops) (effs J ops) i k with
         |false=>exact .inl rfl
         |true=>
          refine .inr ?_
          have hEn:E J ops ops.size=(effs J ops).length:=rfl
          have hmono:=E_mono (J:=J) (ops:=ops) hr.inv.len
          have hlen:=hr.inv.hl
          unfold pairs
          rw [List.mem_flatMap]
          refine ⟨i,List.mem_range.2 (Array.getElem?_eq_some_iff.1 ho).1,?_⟩
          rw [ho]
          dsimp only
          rw [if_neg (by simp [he,hrd]),List.mem_map]
          refine ⟨k,List.mem_filter.2 ⟨List.mem_range.2 (by omega),?_⟩,rfl⟩
          rw [hal,Bool.and_true,Bool.not_eq_true',decide_eq_false_iff_not]
          exact hke
        rcases hmem with h1|h1
        ·exfalso
         unfold allowed at h1
         rw [Bool.and_eq_false_iff] at h1
         rcases h1 with h1|h1
         ·obtain ⟨j,hj,hj2⟩:=List.all_eq_false.1 h1
          obtain ⟨m,m1,m2⟩:=mem_take hj
          obtain ⟨g1,g2,g3⟩:=effs_at _ m j m2
          have hjl:=hA.stage j g1 (by omega)
          simp only [Bool.not_eq_true,Bool.not_eq_false'] at hj2
          obtain ⟨oj,hoj,_⟩:=hr.ok.bit j i hj2
          exact nl (closed_waits hr.ok hA.closed j oj hoj (hA.closed j oj hjl hoj) i hj2).1
         ·obtain ⟨j,hj,hj2⟩:=List.all_eq_false.1 h1
          obtain ⟨m,m1,m2⟩:=mem_drop hj
          obtain ⟨g1,g2,g3⟩:=effs_at _ m j m2
          simp only [Bool.not_eq_true,Bool.not_eq_false'] at hj2
          have:=not_early hr hA hNm ho hp hj2 g1
          omega
        ·have h1:=(List.all_eq_true.1 hck) (i,k) h1
         unfold oblig at h1
         dsimp only at h1
         rw [ho,f1,hA.hk] at h1
         dsimp only at h1
         rw [hwt] at h1
         simp only [Bool.not_true,Bool.false_or] at h1
         split at h1
         ·rename_i v2 H2 hv2
          have:=veq_eq 8 _ _ h1
          subst this
          obtain ⟨u,hu'⟩:=light_same he hv2
          cases hu'
          exact hv2
         ·simp at h1
       ·exact pure_any he (by simpa using hrd) e3 H
      unfold iexec
      rw [key]
     refine exec_wp (hcall _) hA.sim hρ hx (fun v v' ι' w' e s1 s2 s3 s4=>?_) (fun v v' ι' w' e s1 s2 s3 s4=>by cases e)
     cases e
     exact go s1 s2 s3 s4 (k':=k) hA.hk (.inr ⟨heff.trans he,rfl⟩)
   ·rw [if_neg hwt]
    obtain ⟨u1,u2⟩:=f5 (by simpa using hwt)
    subst u1
    by_cases he:isEff J o=true
    ·by_cases hk:k=E J ops i
     case neg=>
      have hei:=heff.trans he
      have f3':=f3
      rw [E_succ,heff,if_pos he] at f3'
      have hlt:lateAt J ops i=true:=by
       cases hlt:lateAt J ops i with
       |false=>exact absurd (hstage hei hlt) hk
       |true=>rfl
      have hen:early i=none:=by
       cases hen:early i with
       |none=>rfl
       |some r=>exact absurd (hA.who i r hen).2.1 nl
      exact go1 (hA.first hr hN ho hl hp hip f1 f2 f3' hei hlt (hkE hei) hA.sim (Below.refl _ _) (fun _ _ _=>rfl) (fun _ _=>rfl) (by rw [hen];exact ⟨rfl,u2,rfl⟩))
     have hH:H=Hi:=by have h1:=hA.hk;rw [hk,f2] at h1;exact (Option.some.inj h1).symm
     subst hH
     exact go hA.sim VRel.undef (Ext.refl _ _) (Below.refl _ _) (k':=E J ops i+1) (by rw [E_succ,heff,if_pos he,u2] at f3;exact f3) (.inl ⟨heff.trans he,hk,rfl⟩)
    ·exact go hA.sim VRel.undef (Ext.refl _ _) (Below.refl _ _) (k':=k) hA.hk (.inr ⟨heff.trans (by simpa using he),rfl⟩)
  ·have hie:i=s.vs.length:=by omega
   subst hie
   have hf:=hr.fin
   cases pv with
   |none=>
    have hf:s.vs.length=ops.size:=hf
    omega
   |some p=>
    obtain ⟨v,H'⟩:=p
    obtain ⟨he,hall,o',ho',hwt,hx⟩:=hf
    rw [ho] at ho'
    cases ho'
    have hnl:lateAt J ops s.vs.length=false:=by
     cases hlt:lateAt J ops s.vs.length with
     |false=>rfl
     |true=>
      exfalso
      obtain ⟨⟨o',ho',hlo⟩,_⟩:=lateAt_spec hlt
      rw [ho] at ho';cases ho'
      unfold iexec at hx
      obtain ⟨dst,op,type,pos,after,guard⟩:=o
      cases op<;>simp only [lateO] at hlo<;>try (cases hlo;done)
      ·simp only [iop] at hx
       rename_i e
       cases hz:J.zero e<;>simp [hz] at hx
      ·simp only [iop,OR.ofPair] at hx
       rename_i t l ps
       cases hz:ibuildSlice J t l (iparts s.T ps) s.H<;>simp [hz] at hx
      ·simp only [iop,OR.ofPair] at hx
       rename_i t l c
       cases hz:imakeSlice J t (iev s.T l) (iev s.T c) s.H<;>simp [hz] at hx
    have hnone:∀j r,early j≠some r:=fun j r h=>by
     obtain ⟨r1,r2,r3,_⟩:=hA.who j r h
     have hkk:=hstage he hnl
     have hjl:=(Array.getElem?_eq_some_iff.1 r2).1
     rw [hA.size] at hjl
     rcases Nat.lt_trichotomy j s.vs.length with q|q|q
     ·have:=E_lt (J:=J) (ops:=ops) q r1;omega
     ·subst q;exact nl r2
     ·have hwj:=hall j hjl q
      obtain ⟨oj,hoj,_⟩:=hr.ok.bit j _ hwj
      exact nl (closed_waits hr.ok hA.closed j oj hoj (hA.closed j oj r2 hoj) _ hwj).1
    have hlooks:=looks_same hr hA hNm ho hl hp (Ti:=s.T) (Nat.le_refl _) (fun q t p=>hr.inv.r1 q t p) (fun t=>hr.inv.r2 t)
    rw [wanted_of ops o hlooks,if_pos hwt]
    left
    have hk:=hstage he hnl
    have hH:H=s.H:=by have h1:=hA.hk;rw [hk,hr.inv.hh] at h1;exact (Option.some.inj h1).symm
    subst hH
    refine exec_wp (hcall _) hA.sim (operands_of hA.sim hok hlooks) hx (fun v v' ι' w' e s1 s2 s3 s4=>by cases e) (fun v0 v' ι' w' e s1 s2 s3 s4=>?_)
    cases e
    exact ⟨ι',v',rfl,s1.sub rfl (fun x hx=>.inl hx),hA.ext.trans s3,hA.below.trans (s4.sub rfl fun x hx=>.inl hx),hA.defers,hA.tsize,s2,fun t ht=>by rw [hr.inv.r2 t fun q _=>hK t ht q];exact (hA.kept t fun q _=>hK t ht q).ext s3⟩
theorem draw_any {K:Nat→Prop} (hK:∀t,K t→∀q,dstAt ops q≠some t) {call:CallR} (hcall:∀B,CallSound J B call) {T T':Regs} {H H':IH} {x:IX} {ι:Emb} {w:World} {a:Act} (hS:Sim J B ι H w) (hR:RegsRel ι H.next T a.tmps)
  (hops:∀o∈ops,opOk J a.tmps.size o=true) (hrok:regionOk J ops=true) (h:idraw J call ops T H=some (x,T',H')):
  wpAny J.P .any ops (CodePost J B K ι H.next w a x T' H') ops.size (Array.replicate ops.size false) a { w with drawn:=w.drawn+1 }:=by
 unfold idraw at h
 have hRO:=regionOk_ok hrok
 have h0:DInv J call ops T ⟨T,H,[],[H]⟩:=⟨by simp,by simp [E],by simp [E],by simp,by simp,fun _ _=>rfl,by simp,by simp⟩
 have start:∀(s:DSt) (pv:Option (Value×IH)),Rec J call ops T s pv a.tmps.size→s.hs[0]?=some H→wpAny J.P .any ops (CodePost J B K ι H.next w a (endX pv) s.T (endH s pv)) ops.size (Array.replicate ops.size false) a { w with drawn:=w.drawn+1 }:=by
  intro s pv hr hs0
  have hS0:Sim J (Bx B fun _=>none) ι H { w with drawn:=w.drawn+1 }:=Sim.sub (B:=B) (hS.of_heap rfl) rfl fun x hx=>by
   rcases hx with hx|⟨j,hx⟩
   ·exact hx
   ·cases hx
  refine any_wp hK hcall hr rfl _ _ ι 0 H a _ (fun _=>none) ⟨by simp,fun i o hi=>?_,fun i hi=>?_,fun j _ h=>(by omega),fun j _ hj=>?_,fun j r h=>(by cases h),fun j j' r h=>(by cases h),Nat.zero_le _,hs0,hS0,Ext.refl _ _,below_drawn _,rfl,rfl,fun t q p hq=>?_,fun t _=>hR t⟩ (fun j _ hj=>?_) ?_
  ·simp [Array.getElem?_replicate] at hi
  ·simp [Array.getElem?_replicate] at hi
  ·simp [Array.getElem?_replicate] at hj
  ·simp [Array.getElem?_replicate] at hq
  ·simp [Array.getElem?_replicate] at hj
  ·unfold unlisted
   exact Nat.le_trans (List.length_filter_le _ _) (by simp)
 have hs0:∀(l:List Oper) (s s':DSt) (pv:Option Value),s.hs[0]?=some H→drun J call ops l s=some (s',pv)→s'.hs[0]?=some H:=by
  intro l
  induction l with
  |nil=>intro s s' pv h1 h2;simp only [drun,Option.some.injEq,Prod.mk.injEq] at h2;rw [←h2.1];exact h1
  |cons o l ih=>
   intro s s' pv h1 h2
   have app:∀X,(if isEff J o then s.hs++[X] else s.hs)[0]?=some H:=fun X=>by
    split
    ·rw [List.getElem?_append_left (List.getElem?_eq_some_iff.1 h1).1];exact h1
    ·exact h1
   simp only [drun] at h2
   split at h2
   ·split at h2
    ·exact ih _ s' pv (app _) h2
    ·simp only [Option.some.injEq,Prod.mk.injEq] at h2;rw [←h2.1];exact h1
    ·simp at h2
   ·exact ih _ s' pv (app _) h2
 split at h
 ·rename_i s hd
  split at h
  ·rename_i hck
   cases h
   obtain ⟨h1,h2⟩:=drun_spec hRO ops.toList _ s none (by simp) h0 hd
   exact start s none ⟨hRO,h1,hops,hck,h2⟩ (hs0 _ _ _ _ rfl hd)
  ·simp at h
 ·rename_i s v hd
  split at h
  ·rename_i hck
   cases h
   simp only [Bool.and_eq_true] at hck
   obtain ⟨⟨c1,c2⟩,c3⟩:=hck
   obtain ⟨o,Hp,q1,q2,q3,q4⟩:=drun_spec hRO ops.toList _ s (some v) (by simp) h0 hd
   refine start { s with H:=Hp } (some (v,s.H)) ⟨hRO,q2,hops,c1,c2,fun j hj hlt=>?_,o,q1,q3,q4⟩ (show s.hs[0]?=some H from hs0 _ _ _ _ rfl hd)
   simp only [List.all_eq_true,List.mem_range,Bool.or_eq_true,decide_eq_true_eq] at c3
   rcases c3 j hj with h|h
   ·have hlt':s.vs.length<j:=hlt
    omega
   ·exact h
  ·simp at h
 ·simp at h
end
def dummyO:Oper:=⟨none,.move (.const undef),0,"",#[],none⟩
def renO (order:List Nat) (o:Oper):Oper:={ o with after:=o.after.map fun e=>{ e with on:=order.idxOf e.on },guard:=o.guard.map fun p=>(order.idxOf p.1,p.2) }
def permO (order:List Nat) (ops:Array Oper):Array Oper:=(order.map fun i=>renO order ((ops[i]?).getD dummyO)).toArray
def permOk (order:List Nat) (ops:Array Oper):Bool:=
 let n:=ops.size
 decide (order.length=n)&&((List.range n).all fun i=>decide (order.idxOf i<n)&&decide (order[order.idxOf i]?=some i)&&decide (order.getD i 0<n)&&decide (order.idxOf (order.getD i 0)=i))&&
  (ops.all fun o=>o.after.all (fun e=>decide (e.on<n))&&(match o.guard with|some (j,_)=>decide (j<n)|none=>true))
def ordL (J:Env) (ops:Array Oper):Nat→List Nat→List Nat
 |0,acc=>acc.reverse
 |k+1,acc=>
  let rdy:=(List.range ops.size).filter fun i=> !acc.contains i&&(match ops[i]? with|some o=>o.after.all fun e=> !Region.binds .any e||acc.contains e.on|none=>false)
  match rdy.find? (fun i=> !effAt J ops i) with
  |some i=>ordL J ops k (i::acc)
  |none=>match rdy.find? (fun i=>match ops[i]? with|some o=> !lateO o|none=>true) with
   |some i=>ordL J ops k (i::acc)
   |none=>match rdy with
    |i::_=>ordL J ops k (i::acc)
    | []=>acc.reverse
def arrange (J:Env) (ops:Array Oper):Array Oper:=
 let order:=ordL J ops ops.size []
 if permOk order ops then permO order ops else ops
section
variable {order:List Nat} {ops:Array Oper}
structure PermFacts (order:List Nat) (ops:Array Oper):Prop where
 size:(permO order ops).size=ops.size
 lt:∀i,i<ops.size→order.idxOf i<ops.size
 get:∀i o,ops[i]?=some o→(permO order ops)[order.idxOf i]?=some (renO order o)
 onto:∀p,p<ops.size→∃i,i<ops.size∧order.idxOf i=p
 inj:∀i j,i<ops.size→j<ops.size→order.idxOf i=order.idxOf j→i=j
 edge:∀o∈ops,∀e∈o.after,e.on<ops.size
 guard:∀o∈ops,∀p,o.guard=some p→p.1<ops.size
theorem permOk_facts (h:permOk order ops=true):PermFacts order ops:=by
 unfold permOk at h
 simp only [Bool.and_eq_true,decide_eq_true_eq,List.all_eq_true,List.mem_range] at h
 obtain ⟨⟨h1,h2⟩,h3⟩:=h
 have h3':=Array.all_eq_true'.1 h3
 refine ⟨by simp [permO,h1],fun i hi=>(h2 i hi).1.1.1,fun i o ho=>?_,fun p hp=>⟨order.getD p 0,(h2 p hp).1.2,(h2 p hp).2⟩,fun i j hi hj e=>?_,fun o ho e he=>?_,fun o ho p hp=>?_⟩
 ·have hi:=(Array.getElem?_eq_some_iff.1 ho).1
  have h4:=(h2 i hi).1.1.2
  simp only [permO,List.getElem?_toArray,List.getElem?_map,h4,Option.map_some,ho,Option.getD_some]
 ·have a:=(h2 i hi).1.1.2
  have b:=(h2 j hj).1.1.2
  rw [e,b] at a
  exact (Option.some.inj a).symm
 ·have:=h3' o ho
  simp only [Bool.and_eq_true] at this
  have h5:=Array.all_eq_true'.1 this.1 e he
  simpa using h5
 ·have:=h3' o ho
  simp only [Bool.and_eq_true,hp] at this
  simpa using this.2
theorem execOp_ren (ρ:Operand→Value) (o:Oper):execOp ρ (renO order o)=execOp ρ o:=by
 obtain ⟨dst,op,type,pos,after,guard⟩:=o
 cases op<;>rfl
theorem wanted_ren (hp:PermFacts order ops) {o:Oper} (ho:o∈ops) (tmps:Array Value):Region.wanted (renO order o) (yielded (permO order ops) tmps)=Region.wanted o (yielded ops tmps):=by
 unfold Region.wanted renO
 cases hg:o.guard with
 |none=>rfl
 |some p=>
  obtain ⟨j,want⟩:=p
  have hj:=hp.guard o ho _ hg
  simp only [Option.map_some]
  unfold yielded
  have e1:=Array.getElem?_eq_getElem hj
  rw [hp.get j _ e1,e1]
  rfl
theorem ready_ren (hp:PermFacts order ops) {listed listed':Array Bool} (_hs:listed.size=ops.size) (_hs':listed'.size=ops.size) (hl:∀i,i<ops.size→listed'[order.idxOf i]?=listed[i]?) {i:Nat} (hi:i<ops.size):
  order.idxOf i∈Region.ready .any (permO order ops) listed'↔i∈Region.ready .any ops listed:=by
 unfold Region.ready
 rw [List.mem_filter,List.mem_filter,List.mem_range,List.mem_range,hp.size]
 have e1:=Array.getElem?_eq_getElem hi
 rw [hp.get i _ e1,e1]
 have e2:listed'.getD (order.idxOf i) true=listed.getD i true:=by
  rw [Array.getD_eq_getD_getElem?,Array.getD_eq_getD_getElem?,hl i hi]
 rw [e2]
 simp only [hp.lt i hi,hi,true_and,Option.map_some,Option.getD_some,Bool.and_eq_true]
 have e3:((renO order ops[i]).after.all fun e=> !Region.binds .any e||listed'.getD e.on false)=(ops[i].after.all fun e=> !Region.binds .any e||listed.getD e.on false):=by
  rw [Bool.eq_iff_iff,Array.all_eq_true',Array.all_eq_true']
  have hb:∀e:Edge,Region.binds .any { e with on:=order.idxOf e.on }=Region.binds .any e:=fun e=>rfl
  have hg:∀e∈ops[i].after,listed'.getD (order.idxOf e.on) false=listed.getD e.on false:=fun e he=>by
   have:=hp.edge ops[i] (Array.getElem_mem hi) e he
   rw [Array.getD_eq_getD_getElem?,Array.getD_eq_getD_getElem?,hl _ this]
  constructor
  ·intro h e he
   have:=h { e with on:=order.idxOf e.on } (by simp only [renO];exact Array.mem_map.2 ⟨e,he,rfl⟩)
   rw [hb] at this
   dsimp only at this
   rw [hg e he] at this
   exact this
  ·intro h e he
   simp only [renO,Array.mem_map] at he
   obtain ⟨e0,he0,rfl⟩:=he
   rw [hb]
   dsimp only
   rw [hg e0 he0]
   exact h e0 he0
 rw [e3]
theorem wpAny_perm {P:Program} (hp:PermFacts order ops) {Q:Exit→Act→World→Prop}:∀(fuel:Nat) (listed listed':Array Bool) (a:Act) (w:World),listed.size=ops.size→listed'.size=ops.size→(∀i,i<ops.size→listed'[order.idxOf i]?=listed[i]?)→
  wpAny P .any (permO order ops) Q fuel listed' a w→wpAny P .any ops Q fuel listed a w:=by
 have empty:∀(listed listed':Array Bool),listed.size=ops.size→listed'.size=ops.size→(∀i,i<ops.size→listed'[order.idxOf i]?=listed[i]?)→(Region.ready .any (permO order ops) listed'= []↔Region.ready .any ops listed= []):=fun listed listed' hs hs' hl=>by
  constructor
  ·intro h
   rw [List.eq_nil_iff_forall_not_mem]
   intro i hi
   have hlt:i<ops.size:=by
    unfold Region.ready at hi
    exact List.mem_range.1 (List.mem_filter.1 hi).1
   have:=(ready_ren hp hs hs' hl hlt).2 hi
   rw [h] at this
   simp at this
  ·intro h
   rw [List.eq_nil_iff_forall_not_mem]
   intro p hpm
   have hlt:p<ops.size:=by
    unfold Region.ready at hpm
    have:=List.mem_range.1 (List.mem_filter.1 hpm).1
    rwa [hp.size] at this
   obtain ⟨i,hi,rfl⟩:=hp.onto p hlt
   have:=(ready_ren hp hs hs' hl hi).1 hpm
   rw [h] at this
   simp at this
 intro fuel
 induction fuel with
 |zero=>
  intro listed listed' a w hs hs' hl h
  exact ⟨(empty listed listed' hs hs' hl).1 h.1,h.2⟩
 |succ fuel ih=>
  intro listed listed' a w hs hs' hl h
  refine ⟨fun h0=>h.1 ((empty listed listed' hs hs' hl).2 h0),fun i hi=>?_⟩
  have hlt:i<ops.size:=by
   unfold Region.ready at hi
   exact List.mem_range.1 (List.mem_filter.1 hi).1
  have h1:=h.2 (order.idxOf i) ((ready_ren hp hs hs' hl hlt).2 hi)
  have e1:=Array.getElem?_eq_getElem hlt
  have next:∀a w,wpAny P .any (permO order ops) Q fuel (listed'.setIfInBounds (order.idxOf i) true) a w→wpAny P .any ops Q fuel (listed.setIfInBounds i true) a w:=fun a w h2=>by
   refine ih _ _ a w (by simp [hs]) (by simp [hs']) (fun j hj=>?_) h2
   by_cases hji:j=i
   ·subst hji
    rw [Array.getElem?_setIfInBounds_self_of_lt (by rw [hs'];exact hp.lt j hj),Array.getElem?_setIfInBounds_self_of_lt (by omega)]
   ·rw [Array.getElem?_setIfInBounds_ne (fun e=>hji (hp.inj _ _ hlt hj e).symm),Array.getElem?_setIfInBounds_ne (Ne.symm hji)]
    exact hl j hj
  unfold wpOp at h1 ⊢
  rw [hp.get i _ e1] at h1
  rw [e1]
  dsimp only at h1 ⊢
  rw [wanted_ren hp (Array.getElem_mem hlt)] at h1
  have hd:(renO order ops[i]).dst=ops[i].dst:=rfl
  split
  ·rename_i hw
   rw [if_pos hw] at h1
   rcases h1 with h1|⟨h1,h2⟩
   ·left
    unfold Oper.wp at h1 ⊢
    rw [execOp_ren] at h1
    have hu:∀(r:Result Next),(renO order ops[i]).upon P a (wpAny P .any (permO order ops) Q fuel (listed'.setIfInBounds (order.idxOf i) true)) Q r→ops[i].upon P a (wpAny P .any ops Q fuel (listed.setIfInBounds i true)) Q r:=fun r hr=>by
     cases r with
     |ok n w'=>
      cases n<;>simp only [Oper.upon,hd] at hr ⊢ <;>
       first
        |exact next _ _ hr
        |exact Calls.mono hr (fun e w'' he=>by cases e<;>first|exact next _ _ he|exact he)
        |exact Rows.mono hr (fun _ _ he=>next _ _ he)
     |halt x w'=>cases x<;>simp only [Oper.upon] at hr ⊢ <;>first|exact hr
    exact hu _ h1
   ·right
    refine ⟨?_,h2⟩
    unfold Oper.asks at h1 ⊢
    rw [execOp_ren] at h1
    exact h1
  ·rename_i hw
   rw [if_neg hw] at h1
   rw [hd] at h1
   exact next _ _ h1
theorem region_perm {P:Program} (hm:P.follows .mixedOrders=true) (hp:PermFacts order ops) {id:Nat} {Q:Exit→Act→World→Prop} {a:Act} {w:World}
  (h:wpAny P .any (permO order ops) Q (permO order ops).size (Array.replicate (permO order ops).size false) a { w with drawn:=w.drawn+1 }):(Code.region id ops true).wp P Q a w:=by
 refine wp_region_any hm ?_
 rw [hp.size] at h
 refine wpAny_perm hp ops.size _ _ a _ (by simp) (by simp) (fun i hi=>?_) h
 rw [Array.getElem?_replicate,Array.getElem?_replicate,if_pos hi,if_pos (hp.lt i hi)]
end
theorem arrange_mem {J:Env} {ops:Array Oper} {p:Oper→Bool} (h:∀o∈ops,p o=true) (hr:∀l o,p (renO l o)=p o):∀o∈arrange J ops,p o=true:=by
 unfold arrange
 dsimp only
 split
 ·rename_i hp
  have hf:=permOk_facts hp
  intro o ho
  obtain ⟨k,hk,rfl⟩:=Array.mem_iff_getElem.1 ho
  rw [hf.size] at hk
  obtain ⟨i,hi,rfl⟩:=hf.onto k hk
  have e1:=hf.get i _ (Array.getElem?_eq_getElem hi)
  rw [Array.getElem?_eq_getElem (by rw [hf.size];exact hk)] at e1
  rw [Option.some.inj e1,hr]
  exact h _ (Array.getElem_mem hi)
 ·exact h
section
variable {J:Env} {B:Bd}
theorem draw_wp {K:Nat→Prop} {ops:Array Oper} (hK:∀t,K t→∀o∈ops,o.dst≠some t) {call:CallR} (hcall:∀B,CallSound J B call) {T T':Regs} {H H':IH} {x:IX} {ι:Emb} {w:World} {a:Act} (hS:Sim J B ι H w) (hR:RegsRel ι H.next T a.tmps)
  (hops:∀o∈ops,opOk J a.tmps.size o=true) (hrok:regionOk J (arrange J ops)=true) (h:idraw J call (arrange J ops) T H=some (x,T',H')) (id:Nat) (hm:J.P.follows .mixedOrders=true):
  (Code.region id ops true).wp J.P (CodePost J B K ι H.next w a x T' H') a w:=by
 have hops':=arrange_mem (J:=J) hops fun _ _=>rfl
 have hK':∀t,K t→∀q,dstAt (arrange J ops) q≠some t:=fun t ht q hq=>by
  unfold dstAt at hq
  cases ho:(arrange J ops)[q]? with
  |none=>rw [ho] at hq;cases hq
  |some o=>
   rw [ho] at hq
   have:=arrange_mem (J:=J) (p:=fun o=>o.dst !=some t) (fun o ho=>by simpa using hK t ht o ho) (fun _ _=>rfl) o (Array.mem_of_getElem? ho)
   have h3:o.dst=some t:=hq
   rw [h3] at this
   simp at this
 have hany:=draw_any hK' hcall hS hR hops' hrok h
 unfold arrange at hany
 dsimp only at hany
 split at hany
 ·rename_i hp
  exact region_perm hm (permOk_facts hp) hany
 ·exact wp_region_any hm hany
end
end Go.Proofs.YtchlbfmjnhgpgaaGreat.Idl
