/-
  DEFINITIONS OF AN ABSTRACT MACHINE: immutable values, a heap of the call's own, and what a
-/
import Derived.WalkKit
set_option linter.unusedSimpArgs false
set_option linter.unusedVariables false
namespace Go.Proofs.YtfafnkpfamgbbaaGreatDoor
namespace Abs
abbrev ea:=@List.mem_append
abbrev pn:=@Nat.le_trans
abbrev qk:=@Nat.add_assoc
abbrev qY:=@List.any_map
abbrev Te:=@Nat.mod_eq_of_lt
abbrev PN:=@Array.size_eq_zero_iff
abbrev PM:=@List.all_nil
abbrev uW:=@List.eq_nil_of_length_eq_zero
abbrev H5:=@Option.getD_none
abbrev j3:=@Nat.lt_succ_self
abbrev aI:=@List.length_append
abbrev Jp:=@List.getElem?_set
abbrev jO:=@Option.isSome_iff_exists
abbrev hG:=@List.cons_append
abbrev Tf:=@List.drop_append_of_le_length
abbrev qZ:=@Bool.and_self
abbrev sy:=@List.mem_of_mem_take
abbrev oq:=@List.nil_append
abbrev Nz:=@Nat.lt_trichotomy
abbrev Ep:=@Int.neg_mul
abbrev tL:=@List.set_set
abbrev Eo:=@Int.ediv_le_ediv
abbrev yp:=@List.take_add_one
abbrev Be:=@List.mem_range
abbrev Jj:=@Int.le_total
abbrev bM:=@Nat.le_refl
abbrev Ji:=@Nat.zero_mul
abbrev jN:=@Function.comp_def
abbrev Bd:=@List.cons.inj
abbrev Ny:=@List.map_congr_left
abbrev Nx:=@Array.getElem?_eq_getElem
abbrev En:=@List.mem_flatMap
abbrev fT:=@List.mem_singleton
abbrev Jh:=@Bool.not_eq_true
abbrev Bc:=@List.length_eq_zero_iff
abbrev Nw:=@List.mem_or_eq_of_mem_set
abbrev mO:=@Bool.true_or
abbrev Jg:=@List.replicate_succ
abbrev vh:=@Int.mul_assoc
abbrev Nv:=@List.append_of_mem
abbrev qX:=@Bool.eq_iff_iff
abbrev iP:=@List.getElem?_set_self
abbrev vg:=@List.flatMap_append
abbrev Em:=@List.getElem?_cons_succ
abbrev tK:=@List.length_take
abbrev kZ:=@List.take_append_drop
abbrev El:=@Nat.sub_self
abbrev d5:=@List.getElem?_set_ne
abbrev Jf:=@Nat.mul_comm
abbrev ec:=@List.mem_map
abbrev bT:=@Option.map_eq_some_iff
abbrev eX:=@List.getElem?_of_mem
abbrev fB:=@Nat.add_mul
abbrev Nu:=@Bool.or_eq_false_iff
abbrev iO:=@Option.bind_some
abbrev qW:=@List.take_length
abbrev yn:=@List.flatMap_nil
abbrev Bb:=@Int.mul_le_mul
abbrev bh:=@List.length_singleton
abbrev fA:=@Bool.false_eq_true
abbrev ei:=@List.length_nil
abbrev jx:=@Option.some.injEq
abbrev jw:=@Nat.lt_of_lt_of_le
abbrev Ek:=@List.flatten_cons
abbrev Je:=@List.length_eq_one_iff
abbrev Ba:=@Nat.ne_of_lt
abbrev p4:=@Int.eq_ofNat_of_zero_le
abbrev ve:=@List.getElem?_eq_none
abbrev nq:=@List.drop_zero
abbrev Ej:=@List.map_take
abbrev cJ:=@List.getD_eq_getElem?_getD
abbrev lY:=@Nat.add_zero
abbrev Td:=@Array.getElem?_setIfInBounds_ne
abbrev cc:=@Result.andThen_ok
abbrev Tc:=@List.eraseIdx_eq_take_drop_succ
abbrev dD:=@Nat.zero_le
abbrev pZ:=@Int.le_refl
abbrev vd:=@List.drop_drop
abbrev ym:=@Nat.mod_lt
abbrev Nt:=@Array.getElem?_push
abbrev aE:=@List.getElem?_eq_some_iff
abbrev yk:=@Int.mul_nonneg
abbrev tJ:=@Int.mul_le_mul_of_nonneg_left
abbrev yj:=@Array.length_toList
abbrev A9:=@Int.le_trans
abbrev tI:=@Bool.not_false
abbrev yi:=@Int.mul_le_mul_of_nonneg_right
abbrev Jd:=@List.getElem_mem
abbrev ga:=@List.take_of_length_le
abbrev tH:=@List.map_map
abbrev Ei:=@List.append_eq
abbrev mN:=@Bool.false_or
abbrev Jc:=@List.singleton_append
abbrev Eh:=@List.set_append_left
abbrev jv:=@Nat.zero_add
abbrev Jb:=@Nat.min_eq_left
abbrev A8:=@Int.one_mul
abbrev vb:=@Int.add_zero
abbrev tG:=@Array.getElem?_modify
abbrev kO:=@Bool.not_and
abbrev w8:=@Int.le_ediv_iff_mul_le
abbrev Js:=@Bool.eq_false_iff
abbrev d9:=@List.take_left'
abbrev eD:=@List.not_mem_nil
abbrev kR:=@List.flatMap_cons
abbrev j6:=@Array.ext
abbrev Jr:=@Nat.le_of_not_lt
abbrev be:=@List.getElem?_append_left
abbrev Jq:=@Array.ext_getElem?
abbrev bB:=@List.map_cons
abbrev mz:=@List.getElem?_drop
abbrev cn:=@List.getElem?_append_right
abbrev dr:=@Nat.lt_or_ge
abbrev tQ:=@List.mem_cons_of_mem
abbrev oV:=@List.drop_eq_getElem_cons
abbrev wZ:=@List.concat_eq_append
abbrev jG:=@List.getElem?_take
abbrev zt:=@Bool.not_eq_true'
abbrev oU:=@Nat.eq_zero_or_pos
abbrev D4:=@List.filter_append
abbrev iV:=@List.all_eq_true
abbrev lF:=@Bool.not_not
abbrev cm:=@List.map_nil
abbrev zr:=@List.getElem?_toArray
abbrev zq:=@Prod.mk.injEq
abbrev nv:=@Nat.le_of_ble_eq_true
abbrev zp:=@List.length_set
abbrev nu:=@List.ext_getElem?
abbrev d8:=@Array.getD_eq_getD_getElem?
abbrev bS:=@Bool.or_false
abbrev ct:=@List.length_cons
abbrev wY:=@Int.mul_comm
abbrev my:=@List.foldl_cons
abbrev Jo:=@List.replicate_zero
abbrev bw:=@List.mem_cons
abbrev aL:=@List.mem_of_getElem?
abbrev tP:=@List.set_append_right
abbrev ql:=@Array.getElem?_eq_none
abbrev Jn:=@Bool.or_eq_true
abbrev D2:=@List.nodup_cons
abbrev cE:=@List.append_assoc
abbrev cK:=@Bool.and_eq_true
abbrev Jm:=@Option.isSome_some
abbrev dL:=@List.length_map
abbrev wX:=@Nat.pow_le_pow_right
abbrev nt:=@Array.getElem?_eq_some_iff
abbrev wW:=@Bool.true_and
abbrev D1:=@Int.le_of_lt
abbrev cv:=@List.getElem?_map
abbrev bF:=@List.any_nil
abbrev Jl:=@List.getElem?_replicate
abbrev D0:=@Array.mem_toList_iff
abbrev bE:=@List.getElem?_eq_getElem
abbrev wV:=@List.getElem?_mapIdx
abbrev wU:=@List.eq_nil_or_concat
abbrev iH:=@Int.toNat_natCast
abbrev DZ:=@Nat.le_of_eq
abbrev lE:=@Option.some.inj
abbrev DY:=@Array.getElem?_append
abbrev wT:=@Nat.one_mul
abbrev DX:=@List.map_set
abbrev tO:=@List.length_eraseIdx
abbrev DW:=@List.any_eq_true
abbrev PO:=@Array.getElem?_setIfInBounds
abbrev bp:=@List.any_cons
abbrev aW:=@List.append_nil
abbrev zo:=@List.getElem?_cons_zero
abbrev lD:=@Option.map_some
abbrev Jk:=@Option.isSome_none
abbrev zn:=@Int.zero_mul
abbrev fX:=@Option.getD_some
abbrev DV:=@List.drop_of_length_le
abbrev gv:=@Nat.mul_le_mul_right
abbrev tN:=@List.length_pos_iff
abbrev bA:=@List.map_append
abbrev zm:=@Array.foldl_toList
abbrev tM:=@Int.mul_zero
abbrev zl:=@Nat.eq_or_lt_of_le
abbrev wS:=@List.foldl_append
inductive PV where
 |bool (b:Bool)
 |int (k:IntKind) (n:Int)
 |str (s:ByteArray)
 |agg (cs:List PV)
 |tuple (vs:List PV)
 |slice (sz:Nat) (xs:List PV) (full:Bool)
 |nilslice
 |ptr (sz:Nat) (xs:List PV) (i o:Nat)
 |nilptr
 |func (fn:Fn) (first cap:List PV)
 |nilfunc
 |iface (t:TypeId) (v:PV)
 |niliface
 |any
 deriving Inhabited
def PV.cells:PV->List PV
 |.agg cs=>cs
 |v=>[v]
inductive RK where
 |it | yl | mp | dk | bl
 deriving DecidableEq,Inhabited
inductive AV where
 |p (v:PV)
 |ptr (id ver i o:Nat)
 |slice (id ver off len:Nat)
 |agg (cs:List AV)
 |func (fn:Fn) (first cap:List AV)
 |tuple (vs:List AV)
 |ref (k:RK) (id:Nat)
 |undef
 deriving Inhabited
def AV.cells:AV->Option (List AV)
 |.p (.tuple _)=>none
 |.p v=>some (v.cells.map .p)
 |.agg cs=>some cs
 |.tuple _=>none
 |.undef=>none
 |v=>some [v]
def PV.isCell:PV->Bool
 |.agg _=>false
 |.tuple _=>false
 |_=>true
def AV.isCell:AV->Bool
 |.p v=>v.isCell
 |.agg _=>false
 |.tuple _=>false
 |.undef=>false
 |_=>true
def AV.plain:AV->Bool
 |.p _=>true
 |.ptr _ _ _ _=>true
 |.slice _ _ _ _=>true
 |.ref _ _=>true
 |_=>false
def gB:List AV->Option (List PV)
 |[]=>some []
 |.p v::r=>match gB r with | some l=>some (v::l) | none=>none
 |_::_=>none
def qw (cs:List AV):AV:=match gB cs with | some l=>.p (.agg l) | none=>.agg cs
def qO (cs:List AV):AV:=match gB cs with | some l=>.p (.tuple l) | none=>.tuple cs
def z8 (fn:Fn) (first cap:List AV):AV :=
 match gB first,gB cap with | some a,some b=>.p (.func fn a b) | _,_=>.func fn first cap
inductive AObj where
 |row (sz:Nat) (xs:List AV)
 |strIter (s:ByteArray) (pos:Nat)
 |mp (es:List (PV×PV))
 |memo (f:PV->PV->Bool)
 |loop (n:Nat) (tmps:Nat->AV) (ps:Array Tmp) (assign body:Code) (st:LoopState) (pend:Option Code)
 |dblock
 |bld (T e:TypeId) (x:AV)
 |dead
abbrev Heap:=List AObj
def AObj.tag:AObj->Option RK
 |.strIter _ _=>some .it
 |.mp _=>some .mp
 |.memo _=>some .mp
 |.loop _ _ _ _ _ _ _=>some .yl
 |.dblock=>some .dk
 |.bld _ _ _=>some .bl
 |_=>none
inductive ADef where
 |fn (f:FuncId) (args:List AV)
 |collected (id:Nat)
inductive Rc where
 |no | rnd | none
 |pend (v:PV)
 |got (v:PV)
structure AAct where
 n:Nat
 bs:Nat
 rc:Rc
 tmps:Nat->AV
 h:Heap
 df:List ADef
def vo (f:Nat->AV) (t:Nat) (v:AV):Nat->AV:=λs=>if s=t then v else f s
theorem EB (f) (t s) (v):vo f t v s=if s=t then v else f s:=rfl
def AAct.put (A:AAct) (dst:Option Tmp) (v:AV) (h:Heap):AAct :=
 match dst with
 |some d=>{ A with tmps:=vo A.tmps d v,h:=h }
 |none=>{ A with h:=h }
def pR:Value->Option PV
 |.bool b=>some (.bool b)
 |.int k n=>some (.int k n)
 |.string s=>some (.str s)
 |.pointer none=>some .nilptr
 |.slice none 0 0=>some .nilslice
 |.nilFunc=>some .nilfunc
 |.nilIface=>some .niliface
 |.map none=>some .any
 |.func (.func f) first cap=>if first.size=0/\cap.size=0 then some (.func (.func f) [] []) else none
 |_=>none
def lU:List Value->Option (List PV)
 |[]=>some []
 |v::r=>match pR v,lU r with | some x,some l=>some (x::l) | _,_=>none
def np:Value->Option PV
 |.agg cs=>match lU cs.toList with | some l=>some (.agg l) | none=>none
 |.tuple cs=>match lU cs.toList with | some l=>some (.tuple l) | none=>none
 |v=>pR v
def AAct.eval (A:AAct):Operand->AV
 |.tmp t=>A.tmps t
 |.const v=>match np v with | some x=>.p x | none=>.undef
 |.global _=>.undef
 |.func f=>.p (.func (.func f) [] [])
def nS (P:Program) (T:TypeId):Bool :=
 match (P.types[T]?).map (λ(i:TypeInfo)=>i.desc) with
 |some (TypeDesc.named n _)=>n == "strings.Builder"
 |_=>false
def b8 (P:Program) (T:TypeId):Option Bool :=
 match P.underlying T with
 |some (.struct _)=>some true
 |some (.array _ _)=>some true
 |some _=>some false
 |none=>none
def ca (P:Program) (T:TypeId):Option Nat:=(P.info? T).map (·.size)
def lA (P:Program) (T:TypeId):Option Nat:=(P.info? T).map (·.bytes)
def ak (P:Program) (T:TypeId):Option PV:=((P.info? T).bind (·.zero)).bind np
def af (P:Program) (T:TypeId) (f:Nat):Option (Nat×TypeId) :=
 match P.underlying T with
 |some (.struct fs)=>(fs[f]?).map λx=>(x.offset,x.type)
 |_=>none
def bu (P:Program) (T:TypeId):Option TypeId :=
 match P.underlying T with
 |some (.slice e)=>some e
 |_=>none
def dI (P:Program) (T:TypeId):Option (Nat×TypeId) :=
 match P.underlying T with
 |some (.array n e)=>some (n,e)
 |_=>none
def eQ (P:Program) (T:TypeId):Bool :=
 match P.underlying T with
 |some .string=>true
 |_=>false
def gh (P:Program) (T:TypeId):Option Bool :=
 match P.underlying T with
 |some (.interface _)=>some true
 |some _=>some false
 |none=>none
def gm (P:Program) (T:TypeId) (n:Nat):Bool :=
 match (P.info? T).bind (·.zero) with
 |some v=>v.cells.size==n
 |none=>false
def IY (P:Program) (T:TypeId):Option TypeId :=
 match P.underlying T with
 |some (.struct fs)=>(fs[1]?).bind λx=>bu P x.type
 |_=>none
def sub {α:Type} (o n:Nat) (l:List α):List α:=(l.drop o).take n
def kf {α:Type} (cs:List α) (o:Nat) (new:List α):List α:=cs.take o++new++cs.drop (o+new.length)
def AV.part (v:AV) (agg:Bool) (n o:Nat):Option AV :=
 match v.cells with
 |none=>none
 |some cs =>
  if agg then
   if cs.length=n/\o=0 then
    match v with
    |.p (.agg _)=>some v
    |.agg _=>some v
    |_=>none
   else if o+n<=cs.length then some (qw (sub o n cs)) else none
  else cs[o]?
def kU (P:Program) (T:TypeId) (v:AV) (o:Nat):Option AV :=
 match b8 P T,ca P T with
 |some a,some n=>v.part a n o
 |_,_=>none
def AV.withCells (v:AV) (o:Nat) (x:AV) (n:Nat):Option AV :=
 match v.cells,x.cells with
 |some cs,some new =>
  if new.length=n then
   if cs.length=n/\o=0 then some x
   else if o+n<=cs.length then some (qw (kf cs o new)) else none
  else none
 |_,_=>none
inductive OR where
 |val (v:AV) (h:Heap)
 |skip (h:Heap)
 |call (f:FuncId) (args:List AV)
 |yld (l:Nat) (args:List AV)
 |dfr (d:ADef)
 |recover
 |panic (v:PV)
 |stuck
def iz (h:Heap):Option AV->OR
 |some v=>.val v h
 |none=>.stuck
def oe (P:Program) (T:TypeId) (x:AV) (h:Heap):OR :=
 match x with
 |.p (.ptr _ xs i o)=>match xs[i]? with | some v=>iz h (kU P T (.p v) o) | none=>.stuck
 |.ptr id ver i o =>
  match h[id]? with
  |some (.row _ xs)=>if xs.length=ver then match xs[i]? with | some v=>iz h (kU P T v o) | none=>.stuck else .stuck
  |_=>.stuck
 |_=>.stuck
def gK (P:Program) (T:TypeId) (x y:AV) (h:Heap):OR :=
 match x,ca P T with
 |.ptr id ver i o,some n =>
  match h[id]? with
  |some (.row sz xs) =>
   if xs.length=ver then
    match xs[i]? with
    |some v=>match v.withCells o y n with | some v'=>.skip (h.set id (.row sz (xs.set i v'))) | none=>.stuck
    |none=>.stuck
   else .stuck
  |_=>.stuck
 |_,_=>.stuck
def gQ (h:Heap) (id ver:Nat):Option Nat :=
 match h[id]? with
 |some (.row sz xs)=>if xs.length=ver then some sz else none
 |_=>none
def lX (P:Program) (T:TypeId) (x:AV) (f:Nat) (h:Heap):OR :=
 match af P T f with
 |none=>.stuck
 |some (off,t) =>
  match ca P t with
  |none=>.stuck
  |some n =>
   if n=0 then .stuck else
   match x with
   |.p (.ptr sz xs i o)=>.val (.p (.ptr sz xs i (o+off))) h
   |.ptr id ver i o=>match gQ h id ver with | some _=>.val (.ptr id ver i (o+off)) h | none=>.stuck
   |_=>.stuck
def tA (P:Program) (T:TypeId) (x:AV) (f:Nat) (h:Heap):OR :=
 match af P T f with
 |none=>.stuck
 |some (off,t) =>
  match x with
  |.p (.agg _)=>iz h (kU P t x off)
  |.agg _=>iz h (kU P t x off)
  |_=>.stuck
def ia (P:Program) (T:TypeId) (x ix:AV) (h:Heap):OR :=
 match ix with
 |.p (.int _ i) =>
  match x with
  |.p (.slice sz xs _) =>
   match bu P T with
   |some e=>if ca P e=some sz/\0<=i/\i<xs.length then .val (.p (.ptr sz xs i.toNat 0)) h else .stuck
   |none=>.stuck
  |.slice id ver off len =>
   match bu P T,h[id]? with
   |some e,some (.row sz xs) =>
    if ca P e=some sz/\xs.length=ver/\0<=i/\i<len then .val (.ptr id ver (off+i.toNat) 0) h else .stuck
   |_,_=>.stuck
  |.p (.ptr sz xs j o) =>
   match dI P T with
   |some (n,e)=>match ca P e with | some s=>if 0<=i/\i<n then .val (.p (.ptr sz xs j (o+i.toNat*s))) h else .stuck | none=>.stuck
   |none=>.stuck
  |.ptr id ver j o =>
   match dI P T with
   |some (n,e) =>
    match ca P e,gQ h id ver with
    |some s,some _=>if 0<=i/\i<n then .val (.ptr id ver j (o+i.toNat*s)) h else .stuck
    |_,_=>.stuck
   |none=>.stuck
  |_=>.stuck
 |_=>.stuck
def wL (P:Program) (T:TypeId) (x ix:AV) (h:Heap):OR :=
 match ix with
 |.p (.int _ i) =>
  match x with
  |.p (.str s)=>if eQ P T=true/\0<=i then match s[i.toNat]? with | some b=>.val (.p (.int .u8 b.toNat)) h | none=>.stuck else .stuck
  |.p (.agg _) | .agg _ =>
   match dI P T with
   |some (n,e)=>match ca P e with | some s=>if 0<=i/\i<n then iz h (kU P e x (i.toNat*s)) else .stuck | none=>.stuck
   |none=>.stuck
  |_=>.stuck
 |_=>.stuck
def mF:Option AV->Option (Option Int)
 |none=>some none
 |some (.p (.int _ i))=>some (some i)
 |_=>none
def mK (l r:Option Int) (len:Nat):Option (Nat×Nat) :=
 if 0<=l.getD 0/\l.getD 0<=r.getD len/\r.getD len<=len then some ((l.getD 0).toNat,(r.getD len).toNat) else none
def tz (P:Program) (T:TypeId) (x:AV) (lo hi mx:Option AV) (h:Heap):OR :=
 match mF lo,mF hi,mF mx with
 |some l,some r,some m =>
  match x with
  |.p (.slice sz xs full) =>
   match bu P T,mK l r xs.length with
   |some e,some (a,b) =>
    if ca P e=some sz then
     match m with
     |none=>.val (.p (.slice sz ((xs.take b).drop a) (full&&b==xs.length))) h
     |some m=>if r=some m then .val (.p (.slice sz ((xs.take b).drop a) true)) h else .stuck
    else .stuck
   |_,_=>.stuck
  |.slice id ver off len =>
   match bu P T,h[id]?,mK l r len,m with
   |some e,some (.row sz xs),some (a,b),none =>
    if ca P e=some sz/\xs.length=ver then .val (.slice id ver (off+a) (b-a)) h else .stuck
   |some e,some (.row sz xs),_,some m =>
    if ca P e=some sz/\xs.length=ver/\r.isSome=true/\0<=l.getD 0/\l.getD 0<=r.getD 0/\r.getD 0<=m/\off+m<=ver then .val .undef h else .stuck
   |some e,some (.row sz xs),none,none =>
    if ca P e=some sz/\xs.length=ver/\r.isSome=true/\0<=l.getD 0/\l.getD 0<=r.getD 0/\off+r.getD 0<=ver then .val (.slice id ver (off+(l.getD 0).toNat) ((r.getD 0).toNat-(l.getD 0).toNat)) h else .stuck
   |_,_,_,_=>.stuck
  |.p (.str s) =>
   match mK l r s.size,m with
   |some (a,b),none=>if eQ P T=true then .val (.p (.str (s.extract a b))) h else .stuck
   |_,_=>.stuck
  |.p .nilslice =>
   match bu P T,mK l r 0,m with
   |some e,some _,none=>if (ca P e).isSome=true then .val (.p .nilslice) h else .stuck
   |_,_,_=>.stuck
  |_=>.stuck
 |_,_,_=>.stuck
inductive CK where
 |bool | int | str
 deriving DecidableEq
def oo:CK->PV->PV->Option Bool
 |.bool,.bool a,.bool b=>some (a==b)
 |.int,.int j a,.int k b=>if j=k then some (a==b) else none
 |.str,.str a,.str b=>some (a==b)
 |_,_,_=>none
def et:List CK->List PV->List PV->Option Bool
 |[],[],[]=>some true
 |k::ks,x::a,y::b=>match oo k x y,et ks a b with | some s,some t=>some (s&&t) | _,_=>none
 |_,_,_=>none
def vZ (P:Program) (rec:TypeId->Option (List CK)):List Field->Nat->Option (List CK)
 |[],_=>some []
 |f::fs,n =>
  if f.name ≠ "_" /\ f.offset=n then
   match rec f.type with
   |some ks=>if ca P f.type=some ks.length/\(b8 P f.type).isSome=true then match vZ P rec fs (n+ks.length) with | some r=>some (ks++r) | none=>none else none
   |none=>none
  else none
def md (P:Program):Nat->TypeId->Option (List CK)
 |0,_=>none
 |d+1,T =>
  match P.underlying T with
  |some .bool=>some [.bool]
  |some (.int _)=>some [.int]
  |some .string=>some [.str]
  |some (.struct fs)=>if P.stoodInHeld T then none else vZ P (md P d) fs.toList 0
  |_=>none
def cw (P:Program) (T:TypeId):Option (List CK) :=
 if P.eqGuardType P.depth T=false/\b8 P T=some true then md P 20 T else none
inductive TK where
 |bool | iface | slice | ptr | func | other
 deriving DecidableEq
def bX (P:Program) (T:TypeId):TK :=
 match P.underlying T with
 |some .bool=>.bool
 |some (.interface _)=>.iface
 |some (.slice _)=>.slice
 |some (.func _ _ _)=>.func
 |some (.pointer e)=>if ca P e=none\/ca P e=some 0 then .other else .ptr
 |_=>.other
def Gz (P:Program) (T:TypeId) (cst:Bool) (x y:AV):Option Bool :=
 match x,y with
 |.p (.bool a),.p (.bool b)=>if bX P T=.bool then some (a==b) else none
 |.p (.agg a),.p (.agg b)=>match cw P T with | some ks=>et ks a b | none=>none
 |.p .niliface,.p .niliface=>if cst=true/\bX P T=.iface then some true else none
 |.p .niliface,.p (.iface _ _)=>if bX P T=.iface then some false else none
 |.p (.iface _ _),.p .niliface=>if bX P T=.iface then some false else none
 |.p .nilslice,.p .nilslice=>if bX P T=.slice then some true else none
 |.p .nilslice,.p (.slice _ xs _)=>if bX P T=.slice/\xs≠[] then some false else none
 |.p (.slice _ xs _),.p .nilslice=>if bX P T=.slice/\xs≠[] then some false else none
 |.p .nilptr,.p .nilptr=>if bX P T=.ptr then some true else none
 |.p .nilptr,.p (.ptr _ _ _ _)=>if bX P T=.ptr then some false else none
 |.p (.ptr _ _ _ _),.p .nilptr=>if bX P T=.ptr then some false else none
 |.p .nilfunc,.p .nilfunc=>if bX P T=.func then some true else none
 |.p (.func _ _ _),.p .nilfunc=>if bX P T=.func then some false else none
 |.func _ _ _,.p .nilfunc=>if bX P T=.func then some false else none
 |_,_=>none
def dP:Nat:=1099511627776
def zB (op:BinOp) (a b:ByteArray):Option PV :=
 match op with
 |.eql=>some (.bool (a==b))
 |.neq=>some (.bool !(a==b))
 |.add=>if a.size+b.size<=dP then some (.str (a++b)) else none
 |.lss=>some (.bool (Op.bytesLess a.toList b.toList))
 |_=>none
def s8 (op:BinOp) (k:IntKind) (a b:Int):Option PV :=
 match op with
 |.add=>some (.int k (k.wrap (a+b)))
 |.sub=>some (.int k (k.wrap (a-b)))
 |.mul=>some (.int k (k.wrap (a*b)))
 |.quo=>if b=0 then none else some (.int k (k.wrap (a.tdiv b)))
 |.rem=>if b=0 then none else some (.int k (a.tmod b))
 |.eql=>some (.bool (a==b))
 |.neq=>some (.bool (a != b))
 |.lss=>some (.bool (a<b))
 |.leq=>some (.bool (a<=b))
 |.gtr=>some (.bool (b<a))
 |.geq=>some (.bool (b<=a))
 |.and=>some (.int k (k.wrap (BitVec.ofInt k.bits a&&& BitVec.ofInt k.bits b).toNat))
 |.or=>some (.int k (k.wrap (BitVec.ofInt k.bits a||| BitVec.ofInt k.bits b).toNat))
 |.andNot=>some (.int k (k.wrap (BitVec.ofInt k.bits a&&& ~~~BitVec.ofInt k.bits b).toNat))
 |_=>none
def fk (op:BinOp) (k:IntKind) (a b:Int):Option PV :=
 if b<0 then none else
 match op with
 |.shl=>some (.int k (k.wrap (a*2^(min b.toNat k.bits))))
 |.shr=>some (.int k (a.fdiv (2^(min b.toNat k.bits))))
 |_=>none
def xn:BinOp->Bool
 |.shl=>true
 |.shr=>true
 |_=>false
def sE (h:Heap):Option PV->OR
 |some v=>.val (.p v) h
 |none=>.stuck
def B8 (P:Program) (op:BinOp) (T:TypeId) (cst:Bool) (x y:AV) (h:Heap):OR :=
 match x,y with
 |.p (.int k a),.p (.int k' b)=>if xn op=true then sE h (fk op k a b) else if k=k' then sE h (s8 op k a b) else .stuck
 |.p (.str a),.p (.str b)=>sE h (zB op a b)
 |x,y =>
  match op with
  |.eql=>sE h ((Gz P T cst x y).map .bool)
  |.neq=>sE h ((Gz P T cst x y).map λt=>.bool !t)
  |_=>.stuck
def I2 (op:UnOp) (x:AV) (h:Heap):OR :=
 match op,x with
 |.not,.p (.bool b)=>.val (.p (.bool !b)) h
 |.neg,.p (.int k a)=>.val (.p (.int k (k.wrap (-a)))) h
 |_,_=>.stuck
def dV (P:Program) (src dst:TypeId):Option IntKind :=
 match P.underlying src,P.underlying dst with
 |some _,some (.int k)=>some k
 |_,_=>none
def s7:List PV->Option (List Int)
 |[]=>some []
 |.int .u8 n::r=>(s7 r).map (n::·)
 |_::_=>none
def yU (P:Program) (T:TypeId):Bool :=
 match bu P T with
 |some e=>(match P.underlying e with | some (.int .u8)=>true | _=>false)
 |none=>false
def oQ (P:Program) (src dst:TypeId) (x:AV) (h:Heap):OR :=
 match x with
 |.p (.int _ n)=>match dV P src dst with | some k=>.val (.p (.int k (k.wrap n))) h | none=>.stuck
 |.p (.str s)=>if eQ P src=true/\eQ P dst=true then .val (.p (.str s)) h else .stuck
 |.p (.slice 1 (x::xs) _)=>if yU P src=true/\eQ P dst=true then (match s7 (x::xs) with | some ns=>.val (.p (.str ⟨(ns.map λn=>UInt8.ofNat n.toNat).toArray⟩)) h | none=>.stuck) else .stuck
 |_=>.stuck
def uS (place:Nat->Option (Nat×Nat)):List (Nat×AV)->List AV->Option (List AV)
 |[],cs=>some cs
 |(i,v)::r,cs =>
  match place i,v.cells with
  |some (off,n),some new=>if new.length=n/\off+n<=cs.length then uS place r (kf cs off new) else none
  |_,_=>none
def au (P:Program) (T:TypeId):Option (List (Nat×Nat)) :=
 match P.underlying T with
 |some (.struct fs)=>fs.toList.mapM λf=>(P.info? f.type).map λi=>(f.offset,i.size)
 |_=>none
def tB (P:Program) (T:TypeId) (ps:List (Nat×AV)) (h:Heap):OR :=
 match ak P T with
 |some (.agg z) =>
  match au P T with
  |some pl=>match uS (λi=>pl[i]?) ps (z.map .p) with | some cs=>.val (qw cs) h | none=>.stuck
  |none =>
   match dI P T with
   |some (_,e) =>
    match ca P e with
    |some s=>match uS (λi=>some (i*s,s)) ps (z.map .p) with | some cs=>.val (qw cs) h | none=>.stuck
    |none=>.stuck
   |none=>.stuck
 |_=>.stuck
def rQ:Nat->Nat->List (Nat×AV)->Option (List AV)
 |_,_,[]=>some []
 |i,sz,(j,v)::r=>if i=j/\v.cells.map (·.length)=some sz then match rQ (i+1) sz r with | some l=>some (v::l) | none=>none else none
def kN (P:Program) (T:TypeId) (mu:Bool) (n:Nat) (ps:List (Nat×AV)) (h:Heap):OR :=
 match bu P T with
 |some e =>
  match ca P e with
  |some sz =>
   match rQ 0 sz ps with
   |some xs =>
    if xs.length=n/\sz≠0/\n*sz<=16777216/\gm P e sz=true then
     match mu,gB xs with
     |false,some l=>.val (.p (.slice sz l true)) h
     |_,_=>.val (.slice h.length n 0 n) (h++[.row sz xs])
    else .stuck
   |none=>.stuck
  |none=>.stuck
 |none=>.stuck
def oP (x:AV) (i:Nat) (h:Heap):OR :=
 match x with
 |.p (.tuple vs)=>match vs[i]? with | some v=>.val (.p v) h | none=>.stuck
 |.tuple vs=>match vs[i]? with | some v=>.val v h | none=>.stuck
 |_=>.stuck
def zf (P:Program) (T:TypeId) (x:AV) (h:Heap):OR :=
 match x with
 |.p (.str s)=>if eQ P T=true then .val (.p (.int .i64 s.size)) h else .stuck
 |.p (.slice _ xs _)=>if (bu P T).isSome=true then .val (.p (.int .i64 xs.length)) h else .stuck
 |.p .nilslice=>if (bu P T).isSome=true then .val (.p (.int .i64 0)) h else .stuck
 |.slice id ver _ len=>if (bu P T).isSome=true/\(gQ h id ver).isSome=true then .val (.p (.int .i64 len)) h else .stuck
 |.p (.agg _)=>match dI P T with | some (n,_)=>.val (.p (.int .i64 n)) h | none=>.stuck
 |_=>.stuck
def kp (h:Heap) (sz:Nat):AV->Option (List AV)
 |.p .nilslice=>some []
 |.p (.slice sz' xs _)=>if sz'=sz then some (xs.map .p) else none
 |.p (.str s)=>if sz=1 then some (s.data.toList.map λb=>.p (.int .u8 b.toNat)) else none
 |.slice id ver off len =>
  match h[id]? with
  |some (.row sz' xs)=>if sz'=sz/\xs.length=ver/\off+len<=xs.length then some (sub off len xs) else none
  |_=>none
 |_=>none
def aw:Nat:=274877906944
def tC (P:Program) (T U:TypeId) (x y:AV) (h:Heap):OR :=
 match bu P T with
 |some e =>
  if (bu P U).isSome=false/\eQ P U=false then .stuck else
  match ca P e,lA P e with
  |some sz,some bytes =>
   match kp h sz y with
   |some ys =>
    if sz≠0/\bytes<=256/\gm P e sz=true then
     match x with
     |.p .nilslice=>if ys.length<=aw then if ys=[] then .val (.p .nilslice) h else .val (.slice h.length ys.length 0 ys.length) (h++[.row sz ys]) else .stuck
     |.p (.slice sz' xs true) =>
      if sz'=sz/\xs.length+ys.length<=aw then
       if ys=[] then .val x h else .val (.slice h.length (xs.length+ys.length) 0 (xs.length+ys.length)) (h++[.row sz (xs.map .p++ys)])
      else .stuck
     |.slice id ver off len =>
      match h[id]? with
      |some (.row sz' xs) =>
       if sz'=sz/\xs.length=ver/\off=0/\len=ver/\xs.length+ys.length<=aw then
        .val (.slice id (xs.length+ys.length) 0 (xs.length+ys.length)) (h.set id (.row sz (xs++ys)))
       else if sz'=sz/\xs.length=ver/\off=0/\len+ys.length<=ver then
        .val (.slice id ver 0 (len+ys.length)) (h.set id (.row sz (xs.take len++ys++xs.drop (len+ys.length))))
       else .stuck
      |_=>.stuck
     |_=>.stuck
    else .stuck
   |none=>.stuck
  |_,_=>.stuck
 |none=>.stuck
def qK (P:Program) (T:TypeId) (l c:AV) (h:Heap):OR :=
 match bu P T,l,c with
 |some e,.p (.int .i64 l),.p (.int .i64 c) =>
  match ca P e,lA P e,ak P e with
  |some sz,some bytes,some z =>
   if sz≠0/\bytes<=256/\z.cells.length=sz/\(AV.p z).cells.isSome=true/\0<=l/\l<=c/\c<=aw then .val (.slice h.length l.toNat 0 l.toNat) (h++[.row sz (List.replicate l.toNat (.p z))]) else .stuck
  |_,_,_=>.stuck
 |_,_,_=>.stuck
def AY (P:Program) (T:TypeId) (x:AV) (h:Heap):OR :=
 match bu P T,x with
 |some e,.slice id ver off len =>
  match h[id]?,ca P e,ak P e with
  |some (.row sz xs),some sz',some z =>
   if sz'=sz/\xs.length=ver/\off+len<=ver/\z.cells.length=sz/\sz≠0/\(AV.p z).cells.isSome=true then
    .val (.p (.tuple [])) (h.set id (.row sz (xs.take off++List.replicate len (.p z)++xs.drop (off+len))))
   else .stuck
  |_,_,_=>.stuck
 |_,_=>.stuck
def xB (h:Heap) (sz len:Nat) (y:AV):Option (List AV) :=
 match y with
 |.slice id ver off n =>
  match h[id]? with
  |some (.row sz' ys)=>if sz'=sz/\ys.length=ver/\off+n<=ver then some (sub off (Nat.min n len) ys) else none
  |_=>none
 |.p (.slice sz' xs full)=>match kp h sz (.p (.slice sz' xs full)) with | some ys=>if ys.length<=len then some ys else none | none=>none
 |_=>none
def Ef (P:Program) (T:TypeId) (x y:AV) (h:Heap):OR :=
 match bu P T,x with
 |some e,.slice id ver off len =>
  match h[id]?,ca P e with
  |some (.row sz xs),some sz' =>
   if sz'=sz/\xs.length=ver/\off+len<=ver then
    match xB h sz len y with
    |some ys=>.val (.p (.int .i64 (ys.length:Int))) (h.set id (.row sz (xs.take off++ys++xs.drop (off+ys.length))))
    |none=>.stuck
   else .stuck
  |_,_=>.stuck
 |_,_=>.stuck
def rR (P:Program) (b:Builtin) (ts:Array TypeId) (args:List AV) (h:Heap):OR :=
 match b,args with
 |.len,[x]=>if ts.size=1 then zf P (ts.getD 0 0) x h else .stuck
 |.append,[x,y]=>if ts.size=2 then tC P (ts.getD 0 0) (ts.getD 1 0) x y h else .stuck
 |.min,[.p (.int j a),.p (.int _ b)]=>.val (.p (.int j (if b<a then b else a))) h
 |.max,[.p (.int j a),.p (.int _ b)]=>.val (.p (.int j (if a<b then b else a))) h
 |.recover,[]=>.recover
 |.clear,[x]=>if ts.size=1 then AY P (ts.getD 0 0) x h else .stuck
 |.copy,[x,y]=>if ts.size=2 then Ef P (ts.getD 0 0) x y h else .stuck
 |_,_=>.stuck
def fQ (f:AV) (args:List AV):OR :=
 match f with
 |.p (.func (.func g) first cap)=>.call g (first.map .p++args++cap.map .p)
 |.func (.func g) first cap=>.call g (first++args++cap)
 |.ref .yl l=>.yld l args
 |_=>.stuck
def wM (f:AV) (args:List AV):OR :=
 match fQ f args with
 |.call g l=>.dfr (.fn g l)
 |_=>.stuck
def kV:Operand->Bool
 |.const _=>true
 |_=>false
def kL (P:Program) (A:TypeId) (ok:Bool) (x:AV) (h:Heap):OR :=
 match gh P A,x with
 |some false,.p (.iface t v)=>if t=A then .val (.p (if ok then .tuple [v,.bool true] else v)) h else if ok=true then (match ak P A with | some z=>.val (.p (.tuple [z,.bool false])) h | none=>.stuck) else .stuck
 |_,_=>.stuck
def AX (P:Program) (T:TypeId) (x:AV) (h:Heap):OR :=
 match x with
 |.p (.str s)=>if eQ P T=true then .val (.ref .it h.length) (h++[.strIter s 0]) else .stuck
 |_=>.stuck
def Ee (isStr:Bool) (x:AV) (h:Heap):OR :=
 match isStr,x with
 |true,.ref .it id =>
  match h[id]? with
  |some (.strIter s pos) =>
   if pos<s.size then .val (.p (.tuple [.bool true,.int .i64 pos,.int .i32 (Utf8.decode s pos).1])) (h.set id (.strIter s (pos+(Utf8.decode s pos).2)))
   else .val (.p (.tuple [.bool false])) h
  |_=>.stuck
 |_,_=>.stuck
def FZ:PV->CK
 |.int _ _=>.int
 |.str _=>.str
 |_=>.bool
def jI:PV->PV->Option Bool
 |.int j a,.int k b=>if j=k then some (a==b) else none
 |.str a,.str b=>some (a==b)
 |.agg a,.agg b=>et (a.map FZ) a b
 |_,_=>none
def AI (P:Program) (T:TypeId):Option CK:=match P.underlying T with | some .bool=>some .bool | some (.int _)=>some .int | some .string=>some .str | _=>none
def vK (P:Program):List Field->Nat->Option (List CK)
 |[],_=>some []
 |f::fs,n=>if f.name ≠ "_" /\ f.offset=n then (match AI P f.type,vK P fs (n+1) with | some k,some r=>some (k::r) | _,_=>none) else none
def yL (P:Program) (T:TypeId):Option (TypeId×TypeId):=match P.underlying T with | some (.map k e)=>some (k,e) | _=>none
inductive KK where
 |int | str | no | agg (ks:List CK)
def p9 (P:Program) (K:TypeId):KK:=match P.underlying K with
 |some (.int _)=>.int
 |some .string=>.str
 |some (.struct fs)=>if P.stoodInHeld K then .no else match vK P fs.toList 0 with | some ks=>.agg ks | none=>.no
 |_=>.no
def uw (P:Program) (K:TypeId) (k:PV):Bool:=match p9 P K,k with | .int,.int _ _=>true | .str,.str _=>true | .agg ks,.agg a=>(et ks a a).isSome | _,_=>false
def lk (k:PV):List (PV×PV)->Option (Option PV)
 |[]=>some none
 |(q,v)::r=>match jI k q with | some true=>some (some v) | some false=>lk k r | none=>none
def nP (k v:PV):List (PV×PV)->Option (List (PV×PV))
 |[]=>some [(k,v)]
 |(q,u)::r=>match jI k q with | some true=>some ((k,v)::r) | some false=>(nP k v r).map ((q,u)::·) | none=>none
def Gy (_:Program) (_:TypeId) (r:Option AV) (h:Heap):OR :=
 match r with
 |none=>.val (.ref .mp h.length) (h++[.mp []])
 |some _=>.stuck
def By (ok:Bool) (v:PV) (b:Bool) (h:Heap):OR:=.val (.p (if ok then .tuple [v,.bool b] else v)) h
def qT (P:Program) (T:TypeId) (x k:AV) (ok:Bool) (h:Heap):OR :=
 match yL P T,x,k with
 |some (K,E),.ref .mp id,.p k =>
  match h[id]?,ak P E with
  |some (.mp es),some z =>
   if uw P K k=true then
    match lk k es with
    |some (some v)=>By ok v true h
    |some none=>By ok z false h
    |none=>.stuck
   else .stuck
  |_,_=>.stuck
 |_,_,_=>.stuck
def qJ (P:Program) (T:TypeId) (x k v:AV) (h:Heap):OR :=
 match yL P T,x,k,v with
 |some (K,_),.ref .mp id,.p k,.p v =>
  match h[id]? with
  |some (.mp es)=>if uw P K k=true then (match nP k v es with | some es'=>.skip (h.set id (.mp es')) | none=>.stuck) else .stuck
  |some (.memo f)=>if uw P K k=true/\f k v=true then .skip h else .stuck
  |_=>.stuck
 |_,_,_,_=>.stuck
def bY (P:Program) (mu:Nat->Bool) (o:Oper) (e:Operand->AV) (h:Heap):OR :=
 match o.op with
 |.move x=>.val (e x) h
 |.assign x=>.val (e x) h
 |.pick c a b=>match e c with | .p (.bool t)=>.val (if t then e a else e b) h | _=>.stuck
 |.alloc T=>if nS P T=true then (match ak P T,IY P T with | some (.agg [.nilptr,.nilslice]),some e=>.val (.ref .bl h.length) (h++[.bld T e (.p .nilslice)]) | _,_=>.stuck) else match ak P T with | some z=>if (AV.p z).cells.isSome=true then .val (.ptr h.length 1 0 0) (h++[.row z.cells.length [.p z]]) else .stuck | none=>.stuck
 |.box _ x=>match (e x).cells with | some cs=>.val (.ptr h.length 1 0 0) (h++[.row cs.length [e x]]) | none=>.stuck
 |.build T ps=>tB P T (ps.toList.map λq=>(q.1,e q.2)) h
 |.buildSlice T n ps=>kN P T (match o.dst with | some d=>mu d | none=>false) n (ps.toList.map λq=>(q.1,e q.2)) h
 |.load T a=>oe P T (e a) h
 |.store T a x=>gK P T (e a) (e x) h
 |.nilCheck x=>match e x with | .p (.ptr sz xs i o)=>.val (.p (.ptr sz xs i o)) h | .ptr id ver i o=>(match gQ h id ver with | some _=>.val (.ptr id ver i o) h | none=>.stuck) | _=>.stuck
 |.binOp op T x y _=>B8 P op T (kV x||kV y) (e x) (e y) h
 |.unOp op _ x=>I2 op (e x) h
 |.convert src dst x=>oQ P src dst (e x) h
 |.makeInterface T x=>if gh P T=some false then match e x with | .p v=>.val (.p (.iface T v)) h | _=>.stuck else .stuck
 |.makeFunc fn first cap=>if (first.toList.map e).all AV.plain=true/\(cap.toList.map e).all AV.plain=true then .val (z8 fn (first.toList.map e) (cap.toList.map e)) h else .stuck
 |.makeSlice T l c=>qK P T (e l) (e c) h
 |.slice T x lo hi mx=>tz P T (e x) (lo.map e) (hi.map e) (mx.map e) h
 |.fieldAddr T x f=>lX P T (e x) f h
 |.field T x f=>tA P T (e x) f h
 |.indexAddr T x i=>ia P T (e x) (e i) h
 |.index T x i=>wL P T (e x) (e i) h
 |.extract t i=>oP (e t) i h
 |.call c =>
  match c.callee with
  |.value f=>fQ (e f) (c.args.toList.map e)
  |.builtin b=>rR P b c.argTypes (c.args.toList.map e) h
  |.invoke _ _=>.stuck
 |.defer c =>
  match c.callee with
  |.value f=>wM (e f) (c.args.toList.map e)
  |_=>.stuck
 |.panic x=>match e x with | .p (.iface t v)=>.panic (.iface t v) | _=>.stuck
 |.typeAssert x _ A ok=>kL P A ok (e x) h
 |.range T x=>AX P T (e x) h
 |.next i isStr=>Ee isStr (e i) h
 |.makeMap T r=>Gy P T (r.map e) h
 |.lookup T x k ok=>qT P T (e x) (e k) ok h
 |.mapUpdate T m k v=>qJ P T (e m) (e k) (e v) h
 |_=>.stuck
inductive AEnd where
 |ret (v:AV)
 |panic (v:PV)
inductive Ex where
 |normal
 |exit (id:Nat)
 |ret
 |panic (v:PV)
def qR (A:AAct) (d:Option Tmp) (want:Bool):Option Bool :=
 match d with
 |none=>some false
 |some d=>match A.tmps d with | .p (.bool b)=>some (b==want) | .p (.tuple _)=>some false | _=>none
def bC (ops:Array Oper) (A:AAct) (o:Oper):Option Bool :=
 match o.guard with
 |none=>some true
 |some (j,want)=>qR A ((ops[j]?).bind (·.dst)) want
def GQ (b:Bool) (X Y:Unit->Prop):Prop:=(b=true->X ())/\(b=false->Y ())
end Abs
end Go.Proofs.YtfafnkpfamgbbaaGreatDoor
