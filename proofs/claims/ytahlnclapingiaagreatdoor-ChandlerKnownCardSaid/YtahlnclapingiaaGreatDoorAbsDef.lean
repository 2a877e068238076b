/-
  DEFINITIONS OF AN ABSTRACT MACHINE: immutable values, a heap of the call's own, and what a
-/
import Derived.WalkKit
set_option linter.unusedSimpArgs false
set_option linter.unusedVariables false
namespace Go.Proofs.YtahlnclapingiaaGreatDoor
namespace Abs
inductive PV where
 |bool (b:Bool)
 |int (k:IntKind) (n:Int)
 |str (s:ByteArray)
 |agg (cs:List PV)
 |tuple (vs:List PV)
 |slice (sz:Nat) (xs:List PV) (full:Bool)
 |nilslice
 |ptr (sz:Nat) (xs:List PV) (i o:Nat)
 |nilptr
 |func (fn:Fn) (first cap:List PV)
 |nilfunc
 |iface (t:TypeId) (v:PV)
 |niliface
 |any
 deriving Inhabited
def PV.cells:PV→List PV
 |.agg cs=>cs
 |v=>[v]
inductive RK where
 |it | yl | mp | dk | bl
 deriving DecidableEq,Inhabited
inductive AV where
 |p (v:PV)
 |ptr (id ver i o:Nat)
 |slice (id ver off len:Nat)
 |agg (cs:List AV)
 |func (fn:Fn) (first cap:List AV)
 |tuple (vs:List AV)
 |ref (k:RK) (id:Nat)
 |undef
 deriving Inhabited
def AV.cells:AV→Option (List AV)
 |.p (.tuple _)=>none
 |.p v=>some (v.cells.map .p)
 |.agg cs=>some cs
 |.tuple _=>none
 |.undef=>none
 |v=>some [v]
def PV.isCell:PV→Bool
 |.agg _=>false
 |.tuple _=>false
 |_=>true
def AV.isCell:AV→Bool
 |.p v=>v.isCell
 |.agg _=>false
 |.tuple _=>false
 |.undef=>false
 |_=>true
def AV.plain:AV→Bool
 |.p _=>true
 |.ptr _ _ _ _=>true
 |.slice _ _ _ _=>true
 |.ref _ _=>true
 |_=>false
def zdx:List AV→Option (List PV)
 |[]=>some []
 |.p v::r=>match zdx r with | some l=>some (v::l) | none=>none
 |_::_=>none
def zjf (cs:List AV):AV:=match zdx cs with | some l=>.p (.agg l) | none=>.agg cs
def zjv (cs:List AV):AV:=match zdx cs with | some l=>.p (.tuple l) | none=>.tuple cs
def zpr (fn:Fn) (first cap:List AV):AV :=
 match zdx first,zdx cap with | some a,some b=>.p (.func fn a b) | _,_=>.func fn first cap
inductive AObj where
 |row (sz:Nat) (xs:List AV)
 |strIter (s:ByteArray) (pos:Nat)
 |mp (es:List (PV×PV))
 |memo (f:PV→PV→Bool)
 |loop (n:Nat) (tmps:Nat→AV) (ps:Array Tmp) (assign body:Code) (st:LoopState) (pend:Option Code)
 |dblock
 |bld (T e:TypeId) (x:AV)
 |dead
abbrev Heap:=List AObj
def AObj.tag:AObj→Option RK
 |.strIter _ _=>some .it
 |.mp _=>some .mp
 |.memo _=>some .mp
 |.loop _ _ _ _ _ _ _=>some .yl
 |.dblock=>some .dk
 |.bld _ _ _=>some .bl
 |_=>none
inductive ADef where
 |fn (f:FuncId) (args:List AV)
 |collected (id:Nat)
inductive Rc where
 |no | rnd | none
 |pend (v:PV)
 |got (v:PV)
structure AAct where
 n:Nat
 bs:Nat
 rc:Rc
 tmps:Nat→AV
 h:Heap
 df:List ADef
def upd (f:Nat→AV) (t:Nat) (v:AV):Nat→AV:=fun s=>if s=t then v else f s
theorem zsK (f:Nat→AV) (t s:Nat) (v:AV):upd f t v s=if s=t then v else f s:=rfl
def AAct.put (A:AAct) (dst:Option Tmp) (v:AV) (h:Heap):AAct :=
 match dst with
 |some d=>{ A with tmps:=upd A.tmps d v,h:=h }
 |none=>{ A with h:=h }
def ziQ:Value→Option PV
 |.bool b=>some (.bool b)
 |.int k n=>some (.int k n)
 |.string s=>some (.str s)
 |.pointer none=>some .nilptr
 |.slice none 0 0=>some .nilslice
 |.nilFunc=>some .nilfunc
 |.nilIface=>some .niliface
 |.map none=>some .any
 |.func (.func f) first cap=>if first.size=0∧cap.size=0 then some (.func (.func f) [] []) else none
 |_=>none
def zgA:List Value→Option (List PV)
 |[]=>some []
 |v::r=>match ziQ v,zgA r with | some x,some l=>some (x::l) | _,_=>none
def zhn:Value→Option PV
 |.agg cs=>match zgA cs.toList with | some l=>some (.agg l) | none=>none
 |.tuple cs=>match zgA cs.toList with | some l=>some (.tuple l) | none=>none
 |v=>ziQ v
def AAct.eval (A:AAct):Operand→AV
 |.tmp t=>A.tmps t
 |.const v=>match zhn v with | some x=>.p x | none=>.undef
 |.global _=>.undef
 |.func f=>.p (.func (.func f) [] [])
def zhI (P:Program) (T:TypeId):Bool :=
 match (P.types[T]?).map (fun (i:TypeInfo)=>i.desc) with
 |some (TypeDesc.named n _)=>n == "strings.Builder"
 |_=>false
def zbc (P:Program) (T:TypeId):Option Bool :=
 match P.underlying T with
 |some (.struct _)=>some true
 |some (.array _ _)=>some true
 |some _=>some false
 |none=>none
def za7 (P:Program) (T:TypeId):Option Nat:=(P.info? T).map (·.size)
def zgl (P:Program) (T:TypeId):Option Nat:=(P.info? T).map (·.bytes)
def zag (P:Program) (T:TypeId):Option PV:=((P.info? T).bind (·.zero)).bind zhn
def zac (P:Program) (T:TypeId) (f:Nat):Option (Nat×TypeId) :=
 match P.underlying T with
 |some (.struct fs)=>(fs[f]?).map fun x=>(x.offset,x.type)
 |_=>none
def zaM (P:Program) (T:TypeId):Option TypeId :=
 match P.underlying T with
 |some (.slice e)=>some e
 |_=>none
def zbQ (P:Program) (T:TypeId):Option (Nat×TypeId) :=
 match P.underlying T with
 |some (.array n e)=>some (n,e)
 |_=>none
def zcw (P:Program) (T:TypeId):Bool :=
 match P.underlying T with
 |some .string=>true
 |_=>false
def zdn (P:Program) (T:TypeId):Option Bool :=
 match P.underlying T with
 |some (.interface _)=>some true
 |some _=>some false
 |none=>none
def zdp (P:Program) (T:TypeId) (n:Nat):Bool :=
 match (P.info? T).bind (·.zero) with
 |some v=>v.cells.size==n
 |none=>false
def zwI (P:Program) (T:TypeId):Option TypeId :=
 match P.underlying T with
 |some (.struct fs)=>(fs[1]?).bind fun x=>zaM P x.type
 |_=>none
def sub {α:Type} (o n:Nat) (l:List α):List α:=(l.drop o).take n
def zfm {α:Type} (cs:List α) (o:Nat) (new:List α):List α:=cs.take o++new++cs.drop (o+new.length)
def AV.part (v:AV) (agg:Bool) (n o:Nat):Option AV :=
 match v.cells with
 |none=>none
 |some cs =>
  if agg then
   if cs.length=n∧o=0 then
    match v with
    |.p (.agg _)=>some v
    |.agg _=>some v
    |_=>none
   else if o+n≤cs.length then some (zjf (sub o n cs)) else none
  else cs[o]?
def zfV (P:Program) (T:TypeId) (v:AV) (o:Nat):Option AV :=
 match zbc P T,za7 P T with
 |some a,some n=>v.part a n o
 |_,_=>none
def AV.withCells (v:AV) (o:Nat) (x:AV) (n:Nat):Option AV :=
 match v.cells,x.cells with
 |some cs,some new =>
  if new.length=n then
   if cs.length=n∧o=0 then some x
   else if o+n≤cs.length then some (zjf (zfm cs o new)) else none
  else none
 |_,_=>none
inductive OR where
 |val (v:AV) (h:Heap)
 |skip (h:Heap)
 |call (f:FuncId) (args:List AV)
 |yld (l:Nat) (args:List AV)
 |dfr (d:ADef)
 |recover
 |panic (v:PV)
 |stuck
def zej (h:Heap):Option AV→OR
 |some v=>.val v h
 |none=>.stuck
def zhY (P:Program) (T:TypeId) (x:AV) (h:Heap):OR :=
 match x with
 |.p (.ptr _ xs i o)=>match xs[i]? with | some v=>zej h (zfV P T (.p v) o) | none=>.stuck
 |.ptr id ver i o =>
  match h[id]? with
  |some (.row _ xs)=>if xs.length=ver then match xs[i]? with | some v=>zej h (zfV P T v o) | none=>.stuck else .stuck
  |_=>.stuck
 |_=>.stuck
def zdK (P:Program) (T:TypeId) (x y:AV) (h:Heap):OR :=
 match x,za7 P T with
 |.ptr id ver i o,some n =>
  match h[id]? with
  |some (.row sz xs) =>
   if xs.length=ver then
    match xs[i]? with
    |some v=>match v.withCells o y n with | some v'=>.skip (h.set id (.row sz (xs.set i v'))) | none=>.stuck
    |none=>.stuck
   else .stuck
  |_=>.stuck
 |_,_=>.stuck
def zdR (h:Heap) (id ver:Nat):Option Nat :=
 match h[id]? with
 |some (.row sz xs)=>if xs.length=ver then some sz else none
 |_=>none
def zgD (P:Program) (T:TypeId) (x:AV) (f:Nat) (h:Heap):OR :=
 match zac P T f with
 |none=>.stuck
 |some (off,t) =>
  match za7 P t with
  |none=>.stuck
  |some n =>
   if n=0 then .stuck else
   match x with
   |.p (.ptr sz xs i o)=>.val (.p (.ptr sz xs i (o+off))) h
   |.ptr id ver i o=>match zdR h id ver with | some _=>.val (.ptr id ver i (o+off)) h | none=>.stuck
   |_=>.stuck
def zlg (P:Program) (T:TypeId) (x:AV) (f:Nat) (h:Heap):OR :=
 match zac P T f with
 |none=>.stuck
 |some (off,t) =>
  match x with
  |.p (.agg _)=>zej h (zfV P t x off)
  |.agg _=>zej h (zfV P t x off)
  |_=>.stuck
def zd2 (P:Program) (T:TypeId) (x ix:AV) (h:Heap):OR :=
 match ix with
 |.p (.int _ i) =>
  match x with
  |.p (.slice sz xs _) =>
   match zaM P T with
   |some e=>if za7 P e=some sz∧0≤i∧i<xs.length then .val (.p (.ptr sz xs i.toNat 0)) h else .stuck
   |none=>.stuck
  |.slice id ver off len =>
   match zaM P T,h[id]? with
   |some e,some (.row sz xs) =>
    if za7 P e=some sz∧xs.length=ver∧0≤i∧i<len then .val (.ptr id ver (off+i.toNat) 0) h else .stuck
   |_,_=>.stuck
  |.p (.ptr sz xs j o) =>
   match zbQ P T with
   |some (n,e)=>match za7 P e with | some s=>if 0≤i∧i<n then .val (.p (.ptr sz xs j (o+i.toNat*s))) h else .stuck | none=>.stuck
   |none=>.stuck
  |.ptr id ver j o =>
   match zbQ P T with
   |some (n,e) =>
    match za7 P e,zdR h id ver with
    |some s,some _=>if 0≤i∧i<n then .val (.ptr id ver j (o+i.toNat*s)) h else .stuck
    |_,_=>.stuck
   |none=>.stuck
  |_=>.stuck
 |_=>.stuck
def znk (P:Program) (T:TypeId) (x ix:AV) (h:Heap):OR :=
 match ix with
 |.p (.int _ i) =>
  match x with
  |.p (.str s)=>if zcw P T=true∧0≤i then match s[i.toNat]? with | some b=>.val (.p (.int .u8 b.toNat)) h | none=>.stuck else .stuck
  |.p (.agg _) | .agg _ =>
   match zbQ P T with
   |some (n,e)=>match za7 P e with | some s=>if 0≤i∧i<n then zej h (zfV P e x (i.toNat*s)) else .stuck | none=>.stuck
   |none=>.stuck
  |_=>.stuck
 |_=>.stuck
def zgZ:Option AV→Option (Option Int)
 |none=>some none
 |some (.p (.int _ i))=>some (some i)
 |_=>none
def zg2 (l r:Option Int) (len:Nat):Option (Nat×Nat) :=
 if 0≤l.getD 0∧l.getD 0≤r.getD len∧r.getD len≤len then some ((l.getD 0).toNat,(r.getD len).toNat) else none
def zlf (P:Program) (T:TypeId) (x:AV) (lo hi mx:Option AV) (h:Heap):OR :=
 match zgZ lo,zgZ hi,zgZ mx with
 |some l,some r,some m =>
  match x with
  |.p (.slice sz xs full) =>
   match zaM P T,zg2 l r xs.length with
   |some e,some (a,b) =>
    if za7 P e=some sz then
     match m with
     |none=>.val (.p (.slice sz ((xs.take b).drop a) (full&&b==xs.length))) h
     |some m=>if r=some m then .val (.p (.slice sz ((xs.take b).drop a) true)) h else .stuck
    else .stuck
   |_,_=>.stuck
  |.slice id ver off len =>
   match zaM P T,h[id]?,zg2 l r len,m with
   |some e,some (.row sz xs),some (a,b),none =>
    if za7 P e=some sz∧xs.length=ver then .val (.slice id ver (off+a) (b-a)) h else .stuck
   |some e,some (.row sz xs),_,some m =>
    if za7 P e=some sz∧xs.length=ver∧r.isSome=true∧0≤l.getD 0∧l.getD 0≤r.getD 0∧r.getD 0≤m∧off+m≤ver then .val .undef h else .stuck
   |some e,some (.row sz xs),none,none =>
    if za7 P e=some sz∧xs.length=ver∧r.isSome=true∧0≤l.getD 0∧l.getD 0≤r.getD 0∧off+r.getD 0≤ver then .val (.slice id ver (off+(l.getD 0).toNat) ((r.getD 0).toNat-(l.getD 0).toNat)) h else .stuck
   |_,_,_,_=>.stuck
  |.p (.str s) =>
   match zg2 l r s.size,m with
   |some (a,b),none=>if zcw P T=true then .val (.p (.str (s.extract a b))) h else .stuck
   |_,_=>.stuck
  |.p .nilslice =>
   match zaM P T,zg2 l r 0,m with
   |some e,some _,none=>if (za7 P e).isSome=true then .val (.p .nilslice) h else .stuck
   |_,_,_=>.stuck
  |_=>.stuck
 |_,_,_=>.stuck
inductive CK where
 |bool | int | str
 deriving DecidableEq
def eqK:CK→PV→PV→Option Bool
 |.bool,.bool a,.bool b=>some (a==b)
 |.int,.int j a,.int k b=>if j=k then some (a==b) else none
 |.str,.str a,.str b=>some (a==b)
 |_,_,_=>none
def zck:List CK→List PV→List PV→Option Bool
 |[],[],[]=>some true
 |k::ks,x::a,y::b=>match eqK k x y,zck ks a b with | some s,some t=>some (s&&t) | _,_=>none
 |_,_,_=>none
def zmP (P:Program) (rec:TypeId→Option (List CK)):List Field→Nat→Option (List CK)
 |[],_=>some []
 |f::fs,n =>
  if f.name ≠ "_" ∧ f.offset=n then
   match rec f.type with
   |some ks=>if za7 P f.type=some ks.length∧(zbc P f.type).isSome=true then match zmP P rec fs (n+ks.length) with | some r=>some (ks++r) | none=>none else none
   |none=>none
  else none
def zgM (P:Program):Nat→TypeId→Option (List CK)
 |0,_=>none
 |d+1,T =>
  match P.underlying T with
  |some .bool=>some [.bool]
  |some (.int _)=>some [.int]
  |some .string=>some [.str]
  |some (.struct fs)=>if P.stoodInHeld T then none else zmP P (zgM P d) fs.toList 0
  |_=>none
def zbv (P:Program) (T:TypeId):Option (List CK) :=
 if P.eqGuardType P.depth T=false∧zbc P T=some true then zgM P 20 T else none
inductive TK where
 |bool | iface | slice | ptr | func | other
 deriving DecidableEq
def zaZ (P:Program) (T:TypeId):TK :=
 match P.underlying T with
 |some .bool=>.bool
 |some (.interface _)=>.iface
 |some (.slice _)=>.slice
 |some (.func _ _ _)=>.func
 |some (.pointer e)=>if za7 P e=none∨za7 P e=some 0 then .other else .ptr
 |_=>.other
def aEq (P:Program) (T:TypeId) (cst:Bool) (x y:AV):Option Bool :=
 match x,y with
 |.p (.bool a),.p (.bool b)=>if zaZ P T=.bool then some (a==b) else none
 |.p (.agg a),.p (.agg b)=>match zbv P T with | some ks=>zck ks a b | none=>none
 |.p .niliface,.p .niliface=>if cst=true∧zaZ P T=.iface then some true else none
 |.p .niliface,.p (.iface _ _)=>if zaZ P T=.iface then some false else none
 |.p (.iface _ _),.p .niliface=>if zaZ P T=.iface then some false else none
 |.p .nilslice,.p .nilslice=>if zaZ P T=.slice then some true else none
 |.p .nilslice,.p (.slice _ xs _)=>if zaZ P T=.slice∧xs≠[] then some false else none
 |.p (.slice _ xs _),.p .nilslice=>if zaZ P T=.slice∧xs≠[] then some false else none
 |.p .nilptr,.p .nilptr=>if zaZ P T=.ptr then some true else none
 |.p .nilptr,.p (.ptr _ _ _ _)=>if zaZ P T=.ptr then some false else none
 |.p (.ptr _ _ _ _),.p .nilptr=>if zaZ P T=.ptr then some false else none
 |.p .nilfunc,.p .nilfunc=>if zaZ P T=.func then some true else none
 |.p (.func _ _ _),.p .nilfunc=>if zaZ P T=.func then some false else none
 |.func _ _ _,.p .nilfunc=>if zaZ P T=.func then some false else none
 |_,_=>none
def zb0:Nat:=1099511627776
def zo5 (op:BinOp) (a b:ByteArray):Option PV :=
 match op with
 |.eql=>some (.bool (a==b))
 |.neq=>some (.bool !(a==b))
 |.add=>if a.size+b.size≤zb0 then some (.str (a++b)) else none
 |.lss=>some (.bool (Op.bytesLess a.toList b.toList))
 |_=>none
def zkY (op:BinOp) (k:IntKind) (a b:Int):Option PV :=
 match op with
 |.add=>some (.int k (k.wrap (a+b)))
 |.sub=>some (.int k (k.wrap (a-b)))
 |.mul=>some (.int k (k.wrap (a*b)))
 |.quo=>if b=0 then none else some (.int k (k.wrap (a.tdiv b)))
 |.rem=>if b=0 then none else some (.int k (a.tmod b))
 |.eql=>some (.bool (a==b))
 |.neq=>some (.bool (a != b))
 |.lss=>some (.bool (a<b))
 |.leq=>some (.bool (a≤b))
 |.gtr=>some (.bool (b<a))
 |.geq=>some (.bool (b≤a))
 |.and=>some (.int k (k.wrap (BitVec.ofInt k.bits a&&& BitVec.ofInt k.bits b).toNat))
 |.or=>some (.int k (k.wrap (BitVec.ofInt k.bits a||| BitVec.ofInt k.bits b).toNat))
 |.andNot=>some (.int k (k.wrap (BitVec.ofInt k.bits a&&& ~~~BitVec.ofInt k.bits b).toNat))
 |_=>none
def zcS (op:BinOp) (k:IntKind) (a b:Int):Option PV :=
 if b<0 then none else
 match op with
 |.shl=>some (.int k (k.wrap (a*2^(min b.toNat k.bits))))
 |.shr=>some (.int k (a.fdiv (2^(min b.toNat k.bits))))
 |_=>none
def znG:BinOp→Bool
 |.shl=>true
 |.shr=>true
 |_=>false
def zky (h:Heap):Option PV→OR
 |some v=>.val (.p v) h
 |none=>.stuck
def zq2 (P:Program) (op:BinOp) (T:TypeId) (cst:Bool) (x y:AV) (h:Heap):OR :=
 match x,y with
 |.p (.int k a),.p (.int k' b)=>if znG op=true then zky h (zcS op k a b) else if k=k' then zky h (zkY op k a b) else .stuck
 |.p (.str a),.p (.str b)=>zky h (zo5 op a b)
 |x,y =>
  match op with
  |.eql=>zky h ((aEq P T cst x y).map .bool)
  |.neq=>zky h ((aEq P T cst x y).map fun t=>.bool !t)
  |_=>.stuck
def aUn (op:UnOp) (x:AV) (h:Heap):OR :=
 match op,x with
 |.not,.p (.bool b)=>.val (.p (.bool !b)) h
 |.neg,.p (.int k a)=>.val (.p (.int k (k.wrap (-a)))) h
 |_,_=>.stuck
def zcd (P:Program) (src dst:TypeId):Option IntKind :=
 match P.underlying src,P.underlying dst with
 |some _,some (.int k)=>some k
 |_,_=>none
def zkX:List PV→Option (List Int)
 |[]=>some []
 |.int .u8 n::r=>(zkX r).map (n::·)
 |_::_=>none
def zoI (P:Program) (T:TypeId):Bool :=
 match zaM P T with
 |some e=>(match P.underlying e with | some (.int .u8)=>true | _=>false)
 |none=>false
def zin (P:Program) (src dst:TypeId) (x:AV) (h:Heap):OR :=
 match x with
 |.p (.int _ n)=>match zcd P src dst with | some k=>.val (.p (.int k (k.wrap n))) h | none=>.stuck
 |.p (.str s)=>if zcw P src=true∧zcw P dst=true then .val (.p (.str s)) h else .stuck
 |.p (.slice 1 (x::xs) _)=>if zoI P src=true∧zcw P dst=true then (match zkX (x::xs) with | some ns=>.val (.p (.str ⟨(ns.map fun n=>UInt8.ofNat n.toNat).toArray⟩)) h | none=>.stuck) else .stuck
 |_=>.stuck
def zmd (place:Nat→Option (Nat×Nat)):List (Nat×AV)→List AV→Option (List AV)
 |[],cs=>some cs
 |(i,v)::r,cs =>
  match place i,v.cells with
  |some (off,n),some new=>if new.length=n∧off+n≤cs.length then zmd place r (zfm cs off new) else none
  |_,_=>none
def zah (P:Program) (T:TypeId):Option (List (Nat×Nat)) :=
 match P.underlying T with
 |some (.struct fs)=>fs.toList.mapM fun f=>(P.info? f.type).map fun i=>(f.offset,i.size)
 |_=>none
def zlh (P:Program) (T:TypeId) (ps:List (Nat×AV)) (h:Heap):OR :=
 match zag P T with
 |some (.agg z) =>
  match zah P T with
  |some pl=>match zmd (fun i=>pl[i]?) ps (z.map .p) with | some cs=>.val (zjf cs) h | none=>.stuck
  |none =>
   match zbQ P T with
   |some (_,e) =>
    match za7 P e with
    |some s=>match zmd (fun i=>some (i*s,s)) ps (z.map .p) with | some cs=>.val (zjf cs) h | none=>.stuck
    |none=>.stuck
   |none=>.stuck
 |_=>.stuck
def zj5:Nat→Nat→List (Nat×AV)→Option (List AV)
 |_,_,[]=>some []
 |i,sz,(j,v)::r=>if i=j∧v.cells.map (·.length)=some sz then match zj5 (i+1) sz r with | some l=>some (v::l) | none=>none else none
def zfR (P:Program) (T:TypeId) (mu:Bool) (n:Nat) (ps:List (Nat×AV)) (h:Heap):OR :=
 match zaM P T with
 |some e =>
  match za7 P e with
  |some sz =>
   match zj5 0 sz ps with
   |some xs =>
    if xs.length=n∧sz≠0∧n*sz≤16777216∧zdp P e sz=true then
     match mu,zdx xs with
     |false,some l=>.val (.p (.slice sz l true)) h
     |_,_=>.val (.slice h.length n 0 n) (h++[.row sz xs])
    else .stuck
   |none=>.stuck
  |none=>.stuck
 |none=>.stuck
def zim (x:AV) (i:Nat) (h:Heap):OR :=
 match x with
 |.p (.tuple vs)=>match vs[i]? with | some v=>.val (.p v) h | none=>.stuck
 |.tuple vs=>match vs[i]? with | some v=>.val v h | none=>.stuck
 |_=>.stuck
def zoT (P:Program) (T:TypeId) (x:AV) (h:Heap):OR :=
 match x with
 |.p (.str s)=>if zcw P T=true then .val (.p (.int .i64 s.size)) h else .stuck
 |.p (.slice _ xs _)=>if (zaM P T).isSome=true then .val (.p (.int .i64 xs.length)) h else .stuck
 |.p .nilslice=>if (zaM P T).isSome=true then .val (.p (.int .i64 0)) h else .stuck
 |.slice id ver _ len=>if (zaM P T).isSome=true∧(zdR h id ver).isSome=true then .val (.p (.int .i64 len)) h else .stuck
 |.p (.agg _)=>match zbQ P T with | some (n,_)=>.val (.p (.int .i64 n)) h | none=>.stuck
 |_=>.stuck
def zfy (h:Heap) (sz:Nat):AV→Option (List AV)
 |.p .nilslice=>some []
 |.p (.slice sz' xs _)=>if sz'=sz then some (xs.map .p) else none
 |.p (.str s)=>if sz=1 then some (s.data.toList.map fun b=>.p (.int .u8 b.toNat)) else none
 |.slice id ver off len =>
  match h[id]? with
  |some (.row sz' xs)=>if sz'=sz∧xs.length=ver∧off+len≤xs.length then some (sub off len xs) else none
  |_=>none
 |_=>none
def zar:Nat:=274877906944
def zli (P:Program) (T U:TypeId) (x y:AV) (h:Heap):OR :=
 match zaM P T with
 |some e =>
  if (zaM P U).isSome=false∧zcw P U=false then .stuck else
  match za7 P e,zgl P e with
  |some sz,some bytes =>
   match zfy h sz y with
   |some ys =>
    if sz≠0∧bytes≤256∧zdp P e sz=true then
     match x with
     |.p .nilslice=>if ys.length≤zar then if ys=[] then .val (.p .nilslice) h else .val (.slice h.length ys.length 0 ys.length) (h++[.row sz ys]) else .stuck
     |.p (.slice sz' xs true) =>
      if sz'=sz∧xs.length+ys.length≤zar then
       if ys=[] then .val x h else .val (.slice h.length (xs.length+ys.length) 0 (xs.length+ys.length)) (h++[.row sz (xs.map .p++ys)])
      else .stuck
     |.slice id ver off len =>
      match h[id]? with
      |some (.row sz' xs) =>
       if sz'=sz∧xs.length=ver∧off=0∧len=ver∧xs.length+ys.length≤zar then
        .val (.slice id (xs.length+ys.length) 0 (xs.length+ys.length)) (h.set id (.row sz (xs++ys)))
       else if sz'=sz∧xs.length=ver∧off=0∧len+ys.length≤ver then
        .val (.slice id ver 0 (len+ys.length)) (h.set id (.row sz (xs.take len++ys++xs.drop (len+ys.length))))
       else .stuck
      |_=>.stuck
     |_=>.stuck
    else .stuck
   |none=>.stuck
  |_,_=>.stuck
 |none=>.stuck
def zjq (P:Program) (T:TypeId) (l c:AV) (h:Heap):OR :=
 match zaM P T,l,c with
 |some e,.p (.int .i64 l),.p (.int .i64 c) =>
  match za7 P e,zgl P e,zag P e with
  |some sz,some bytes,some z =>
   if sz≠0∧bytes≤256∧z.cells.length=sz∧(AV.p z).cells.isSome=true∧0≤l∧l≤c∧c≤zar then .val (.slice h.length l.toNat 0 l.toNat) (h++[.row sz (List.replicate l.toNat (.p z))]) else .stuck
  |_,_,_=>.stuck
 |_,_,_=>.stuck
def zqa (P:Program) (T:TypeId) (x:AV) (h:Heap):OR :=
 match zaM P T,x with
 |some e,.slice id ver off len =>
  match h[id]?,za7 P e,zag P e with
  |some (.row sz xs),some sz',some z =>
   if sz'=sz∧xs.length=ver∧off+len≤ver∧z.cells.length=sz∧sz≠0∧(AV.p z).cells.isSome=true then
    .val (.p (.tuple [])) (h.set id (.row sz (xs.take off++List.replicate len (.p z)++xs.drop (off+len))))
   else .stuck
  |_,_,_=>.stuck
 |_,_=>.stuck
def znS (h:Heap) (sz len:Nat) (y:AV):Option (List AV) :=
 match y with
 |.slice id ver off n =>
  match h[id]? with
  |some (.row sz' ys)=>if sz'=sz∧ys.length=ver∧off+n≤ver then some (sub off (Nat.min n len) ys) else none
  |_=>none
 |.p (.slice sz' xs full)=>match zfy h sz (.p (.slice sz' xs full)) with | some ys=>if ys.length≤len then some ys else none | none=>none
 |_=>none
def zsB (P:Program) (T:TypeId) (x y:AV) (h:Heap):OR :=
 match zaM P T,x with
 |some e,.slice id ver off len =>
  match h[id]?,za7 P e with
  |some (.row sz xs),some sz' =>
   if sz'=sz∧xs.length=ver∧off+len≤ver then
    match znS h sz len y with
    |some ys=>.val (.p (.int .i64 (ys.length:Int))) (h.set id (.row sz (xs.take off++ys++xs.drop (off+ys.length))))
    |none=>.stuck
   else .stuck
  |_,_=>.stuck
 |_,_=>.stuck
def zj6 (P:Program) (b:Builtin) (ts:Array TypeId) (args:List AV) (h:Heap):OR :=
 match b,args with
 |.len,[x]=>if ts.size=1 then zoT P (ts.getD 0 0) x h else .stuck
 |.append,[x,y]=>if ts.size=2 then zli P (ts.getD 0 0) (ts.getD 1 0) x y h else .stuck
 |.min,[.p (.int j a),.p (.int _ b)]=>.val (.p (.int j (if b<a then b else a))) h
 |.max,[.p (.int j a),.p (.int _ b)]=>.val (.p (.int j (if a<b then b else a))) h
 |.recover,[]=>.recover
 |.clear,[x]=>if ts.size=1 then zqa P (ts.getD 0 0) x h else .stuck
 |.copy,[x,y]=>if ts.size=2 then zsB P (ts.getD 0 0) x y h else .stuck
 |_,_=>.stuck
def zdd (f:AV) (args:List AV):OR :=
 match f with
 |.p (.func (.func g) first cap)=>.call g (first.map .p++args++cap.map .p)
 |.func (.func g) first cap=>.call g (first++args++cap)
 |.ref .yl l=>.yld l args
 |_=>.stuck
def znl (f:AV) (args:List AV):OR :=
 match zdd f args with
 |.call g l=>.dfr (.fn g l)
 |_=>.stuck
def zfX:Operand→Bool
 |.const _=>true
 |_=>false
def zfP (P:Program) (A:TypeId) (ok:Bool) (x:AV) (h:Heap):OR :=
 match zdn P A,x with
 |some false,.p (.iface t v)=>if t=A then .val (.p (if ok then .tuple [v,.bool true] else v)) h else if ok=true then (match zag P A with | some z=>.val (.p (.tuple [z,.bool false])) h | none=>.stuck) else .stuck
 |_,_=>.stuck
def zp9 (P:Program) (T:TypeId) (x:AV) (h:Heap):OR :=
 match x with
 |.p (.str s)=>if zcw P T=true then .val (.ref .it h.length) (h++[.strIter s 0]) else .stuck
 |_=>.stuck
def zsA (isStr:Bool) (x:AV) (h:Heap):OR :=
 match isStr,x with
 |true,.ref .it id =>
  match h[id]? with
  |some (.strIter s pos) =>
   if pos<s.size then .val (.p (.tuple [.bool true,.int .i64 pos,.int .i32 (Utf8.decode s pos).1])) (h.set id (.strIter s (pos+(Utf8.decode s pos).2)))
   else .val (.p (.tuple [.bool false])) h
  |_=>.stuck
 |_,_=>.stuck
def ztZ:PV→CK
 |.int _ _=>.int
 |.str _=>.str
 |_=>.bool
def ze3:PV→PV→Option Bool
 |.int j a,.int k b=>if j=k then some (a==b) else none
 |.str a,.str b=>some (a==b)
 |.agg a,.agg b=>zck (a.map ztZ) a b
 |_,_=>none
def zpV (P:Program) (T:TypeId):Option CK:=match P.underlying T with | some .bool=>some .bool | some (.int _)=>some .int | some .string=>some .str | _=>none
def zmE (P:Program):List Field→Nat→Option (List CK)
 |[],_=>some []
 |f::fs,n=>if f.name ≠ "_" ∧ f.offset=n then (match zpV P f.type,zmE P fs (n+1) with | some k,some r=>some (k::r) | _,_=>none) else none
def zoB (P:Program) (T:TypeId):Option (TypeId×TypeId):=match P.underlying T with | some (.map k e)=>some (k,e) | _=>none
inductive KK where
 |int | str | no | agg (ks:List CK)
def zjT (P:Program) (K:TypeId):KK:=match P.underlying K with
 |some (.int _)=>.int
 |some .string=>.str
 |some (.struct fs)=>if P.stoodInHeld K then .no else match zmE P fs.toList 0 with | some ks=>.agg ks | none=>.no
 |_=>.no
def zlQ (P:Program) (K:TypeId) (k:PV):Bool:=match zjT P K,k with | .int,.int _ _=>true | .str,.str _=>true | .agg ks,.agg a=>(zck ks a a).isSome | _,_=>false
def zgc (k:PV):List (PV×PV)→Option (Option PV)
 |[]=>some none
 |(q,v)::r=>match ze3 k q with | some true=>some (some v) | some false=>zgc k r | none=>none
def zhE (k v:PV):List (PV×PV)→Option (List (PV×PV))
 |[]=>some [(k,v)]
 |(q,u)::r=>match ze3 k q with | some true=>some ((k,v)::r) | some false=>(zhE k v r).map ((q,u)::·) | none=>none
def zuA (_:Program) (_:TypeId) (r:Option AV) (h:Heap):OR :=
 match r with
 |none=>.val (.ref .mp h.length) (h++[.mp []])
 |some _=>.stuck
def zqw (ok:Bool) (v:PV) (b:Bool) (h:Heap):OR:=.val (.p (if ok then .tuple [v,.bool b] else v)) h
def zjA (P:Program) (T:TypeId) (x k:AV) (ok:Bool) (h:Heap):OR :=
 match zoB P T,x,k with
 |some (K,E),.ref .mp id,.p k =>
  match h[id]?,zag P E with
  |some (.mp es),some z =>
   if zlQ P K k=true then
    match zgc k es with
    |some (some v)=>zqw ok v true h
    |some none=>zqw ok z false h
    |none=>.stuck
   else .stuck
  |_,_=>.stuck
 |_,_,_=>.stuck
def zjp (P:Program) (T:TypeId) (x k v:AV) (h:Heap):OR :=
 match zoB P T,x,k,v with
 |some (K,_),.ref .mp id,.p k,.p v =>
  match h[id]? with
  |some (.mp es)=>if zlQ P K k=true then (match zhE k v es with | some es'=>.skip (h.set id (.mp es')) | none=>.stuck) else .stuck
  |some (.memo f)=>if zlQ P K k=true∧f k v=true then .skip h else .stuck
  |_=>.stuck
 |_,_,_,_=>.stuck
def aOp (P:Program) (mu:Nat→Bool) (o:Oper) (e:Operand→AV) (h:Heap):OR :=
 match o.op with
 |.move x=>.val (e x) h
 |.assign x=>.val (e x) h
 |.pick c a b=>match e c with | .p (.bool t)=>.val (if t then e a else e b) h | _=>.stuck
 |.alloc T=>if zhI P T=true then (match zag P T,zwI P T with | some (.agg [.nilptr,.nilslice]),some e=>.val (.ref .bl h.length) (h++[.bld T e (.p .nilslice)]) | _,_=>.stuck) else match zag P T with | some z=>if (AV.p z).cells.isSome=true then .val (.ptr h.length 1 0 0) (h++[.row z.cells.length [.p z]]) else .stuck | none=>.stuck
 |.box _ x=>match (e x).cells with | some cs=>.val (.ptr h.length 1 0 0) (h++[.row cs.length [e x]]) | none=>.stuck
 |.build T ps=>zlh P T (ps.toList.map fun q=>(q.1,e q.2)) h
 |.buildSlice T n ps=>zfR P T (match o.dst with | some d=>mu d | none=>false) n (ps.toList.map fun q=>(q.1,e q.2)) h
 |.load T a=>zhY P T (e a) h
 |.store T a x=>zdK P T (e a) (e x) h
 |.nilCheck x=>match e x with | .p (.ptr sz xs i o)=>.val (.p (.ptr sz xs i o)) h | .ptr id ver i o=>(match zdR h id ver with | some _=>.val (.ptr id ver i o) h | none=>.stuck) | _=>.stuck
 |.binOp op T x y _=>zq2 P op T (zfX x||zfX y) (e x) (e y) h
 |.unOp op _ x=>aUn op (e x) h
 |.convert src dst x=>zin P src dst (e x) h
 |.makeInterface T x=>if zdn P T=some false then match e x with | .p v=>.val (.p (.iface T v)) h | _=>.stuck else .stuck
 |.makeFunc fn first cap=>if (first.toList.map e).all AV.plain=true∧(cap.toList.map e).all AV.plain=true then .val (zpr fn (first.toList.map e) (cap.toList.map e)) h else .stuck
 |.makeSlice T l c=>zjq P T (e l) (e c) h
 |.slice T x lo hi mx=>zlf P T (e x) (lo.map e) (hi.map e) (mx.map e) h
 |.fieldAddr T x f=>zgD P T (e x) f h
 |.field T x f=>zlg P T (e x) f h
 |.indexAddr T x i=>zd2 P T (e x) (e i) h
 |.index T x i=>znk P T (e x) (e i) h
 |.extract t i=>zim (e t) i h
 |.call c =>
  match c.callee with
  |.value f=>zdd (e f) (c.args.toList.map e)
  |.builtin b=>zj6 P b c.argTypes (c.args.toList.map e) h
  |.invoke _ _=>.stuck
 |.defer c =>
  match c.callee with
  |.value f=>znl (e f) (c.args.toList.map e)
  |_=>.stuck
 |.panic x=>match e x with | .p (.iface t v)=>.panic (.iface t v) | _=>.stuck
 |.typeAssert x _ A ok=>zfP P A ok (e x) h
 |.range T x=>zp9 P T (e x) h
 |.next i isStr=>zsA isStr (e i) h
 |.makeMap T r=>zuA P T (r.map e) h
 |.lookup T x k ok=>zjA P T (e x) (e k) ok h
 |.mapUpdate T m k v=>zjp P T (e m) (e k) (e v) h
 |_=>.stuck
inductive AEnd where
 |ret (v:AV)
 |panic (v:PV)
inductive Ex where
 |normal
 |exit (id:Nat)
 |ret
 |panic (v:PV)
def zjy (A:AAct) (d:Option Tmp) (want:Bool):Option Bool :=
 match d with
 |none=>some false
 |some d=>match A.tmps d with | .p (.bool b)=>some (b==want) | .p (.tuple _)=>some false | _=>none
def zaP (ops:Array Oper) (A:AAct) (o:Oper):Option Bool :=
 match o.guard with
 |none=>some true
 |some (j,want)=>zjy A ((ops[j]?).bind (·.dst)) want
def zuR (b:Bool) (X Y:Unit→Prop):Prop:=(b=true→X ())∧(b=false→Y ())
end Abs
end Go.Proofs.YtahlnclapingiaaGreatDoor
