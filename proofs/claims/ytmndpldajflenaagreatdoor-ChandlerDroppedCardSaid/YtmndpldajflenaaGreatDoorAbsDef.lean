/- DEFINITIONS OF AN ABSTRACT MACHINE: immutable values, a heap of the call's own, and what a -/
import Derived.WalkKit
set_option linter.all false
namespace Go.Proofs.YtmndpldajflenaaGreatDoor
namespace Abs
abbrev qg:=@Array.ext
abbrev Rz:=@Array.ext_getElem?
abbrev JO:=@Array.foldl_toList
abbrev ji:=@Array.getD_eq_getD_getElem?
abbrev OA:=@Array.getElem?_append
abbrev Rw:=@Array.getElem?_eq_getElem
abbrev xM:=@Array.getElem?_eq_none
abbrev tQ:=@Array.getElem?_eq_some_iff
abbrev xL:=@Array.getElem?_modify
abbrev Rt:=@Array.getElem?_push
abbrev Ry:=@Array.getElem?_setIfInBounds
abbrev Rx:=@Array.getElem?_setIfInBounds_ne
abbrev wS:=@Array.length_toList
abbrev H8:=@Array.mem_toList_iff
abbrev C8:=@Array.size_eq_zero_iff
abbrev dQ:=@Bool.and_eq_true
abbrev qf:=@Bool.and_self
abbrev sE:=@Bool.eq_false_iff
abbrev sD:=@Bool.eq_iff_iff
abbrev eG:=@Bool.false_eq_true
abbrev l6:=@Bool.false_or
abbrev ko:=@Bool.not_and
abbrev HY:=@Bool.not_eq_true
abbrev C7:=@Bool.not_eq_true'
abbrev wR:=@Bool.not_false
abbrev nF:=@Bool.not_not
abbrev Mo:=@Bool.or_eq_false_iff
abbrev Mn:=@Bool.or_eq_true
abbrev cn:=@Bool.or_false
abbrev zS:=@Bool.true_and
abbrev sC:=@Bool.true_or
abbrev js:=@Function.comp_def
abbrev ud:=@Int.add_zero
abbrev C6:=@Int.ediv_le_ediv
abbrev sB:=@Int.eq_ofNat_of_zero_le
abbrev zR:=@Int.le_ediv_iff_mul_le
abbrev HX:=@Int.le_of_lt
abbrev o9:=@Int.le_refl
abbrev HW:=@Int.le_total
abbrev zQ:=@Int.le_trans
abbrev uc:=@Int.mul_assoc
abbrev zP:=@Int.mul_comm
abbrev zO:=@Int.mul_le_mul
abbrev sA:=@Int.mul_le_mul_of_nonneg_left
abbrev wQ:=@Int.mul_le_mul_of_nonneg_right
abbrev wP:=@Int.mul_nonneg
abbrev wO:=@Int.mul_zero
abbrev C5:=@Int.neg_mul
abbrev zN:=@Int.one_mul
abbrev kn:=@Int.toNat_natCast
abbrev C4:=@Int.zero_mul
abbrev kC:=@List.all_eq_true
abbrev HV:=@List.all_nil
abbrev bJ:=@List.any_cons
abbrev C3:=@List.any_eq_true
abbrev l5:=@List.any_map
abbrev cb:=@List.any_nil
abbrev dJ:=@List.append_assoc
abbrev C2:=@List.append_eq
abbrev bt:=@List.append_nil
abbrev Mm:=@List.append_of_mem
abbrev C1:=@List.concat_eq_append
abbrev zM:=@List.cons.inj
abbrev hZ:=@List.cons_append
abbrev Rv:=@List.drop_append_of_le_length
abbrev qe:=@List.drop_drop
abbrev zL:=@List.drop_eq_getElem_cons
abbrev HU:=@List.drop_of_length_le
abbrev qd:=@List.drop_zero
abbrev sy:=@List.eq_nil_of_length_eq_zero
abbrev C0:=@List.eq_nil_or_concat
abbrev Ru:=@List.eraseIdx_eq_take_drop_succ
abbrev mD:=@List.ext_getElem?
abbrev Ml:=@List.filter_append
abbrev ub:=@List.flatMap_append
abbrev mC:=@List.flatMap_cons
abbrev wN:=@List.flatMap_nil
abbrev Mk:=@List.flatten_cons
abbrev zK:=@List.foldl_append
abbrev o8:=@List.foldl_cons
abbrev cr:=@List.getD_eq_getElem?_getD
abbrev bp:=@List.getElem?_append_left
abbrev cG:=@List.getElem?_append_right
abbrev CZ:=@List.getElem?_cons_succ
abbrev zJ:=@List.getElem?_cons_zero
abbrev qc:=@List.getElem?_drop
abbrev bO:=@List.getElem?_eq_getElem
abbrev lC:=@List.getElem?_eq_none
abbrev aB:=@List.getElem?_eq_some_iff
abbrev cW:=@List.getElem?_map
abbrev ua:=@List.getElem?_mapIdx
abbrev eF:=@List.getElem?_of_mem
abbrev Mj:=@List.getElem?_replicate
abbrev HT:=@List.getElem?_set
abbrev db:=@List.getElem?_set_ne
abbrev fZ:=@List.getElem?_set_self
abbrev kB:=@List.getElem?_take
abbrev CY:=@List.getElem?_toArray
abbrev HS:=@List.getElem_mem
abbrev aL:=@List.length_append
abbrev dB:=@List.length_cons
abbrev xT:=@List.length_eq_one_iff
abbrev sK:=@List.length_eq_zero_iff
abbrev sJ:=@List.length_eraseIdx
abbrev dp:=@List.length_map
abbrev dL:=@List.length_nil
abbrev xS:=@List.length_pos_iff
abbrev sI:=@List.length_set
abbrev aV:=@List.length_singleton
abbrev CL:=@List.length_take
abbrev bD:=@List.map_append
abbrev Ia:=@List.map_congr_left
abbrev bK:=@List.map_cons
abbrev q6:=@List.map_map
abbrev cf:=@List.map_nil
abbrev CJ:=@List.map_set
abbrev ck:=@List.mem_append
abbrev ce:=@List.mem_cons
abbrev CI:=@List.mem_cons_of_mem
abbrev xR:=@List.mem_flatMap
abbrev cX:=@List.mem_map
abbrev aG:=@List.mem_of_getElem?
abbrev od:=@List.mem_of_mem_take
abbrev H':=@List.mem_or_eq_of_mem_set
abbrev xQ:=@List.mem_range
abbrev dT:=@List.mem_singleton
abbrev lc:=@List.nil_append
abbrev H9:=@List.nodup_cons
abbrev fD:=@List.not_mem_nil
abbrev vt:=@List.replicate_succ
abbrev H6:=@List.replicate_zero
abbrev xP:=@List.set_append_left
abbrev sH:=@List.set_append_right
abbrev oc:=@List.set_set
abbrev H5:=@List.singleton_append
abbrev sG:=@List.take_add_one
abbrev mE:=@List.take_append_drop
abbrev fa:=@List.take_left'
abbrev pw:=@List.take_length
abbrev fC:=@List.take_of_length_le
abbrev gW:=@Nat.add_assoc
abbrev dK:=@Nat.add_mul
abbrev jK:=@Nat.add_zero
abbrev CH:=@Nat.eq_or_lt_of_le
abbrev pu:=@Nat.eq_zero_or_pos
abbrev oa:=@Nat.le_of_ble_eq_true
abbrev CG:=@Nat.le_of_eq
abbrev H3:=@Nat.le_of_not_lt
abbrev ba:=@Nat.le_refl
abbrev iI:=@Nat.le_trans
abbrev gk:=@Nat.lt_of_lt_of_le
abbrev cx:=@Nat.lt_or_ge
abbrev jJ:=@Nat.lt_succ_self
abbrev H2:=@Nat.lt_trichotomy
abbrev CF:=@Nat.min_eq_left
abbrev H1:=@Nat.mod_eq_of_lt
abbrev vr:=@Nat.mod_lt
abbrev CE:=@Nat.mul_comm
abbrev fU:=@Nat.mul_le_mul_right
abbrev vq:=@Nat.ne_of_lt
abbrev sF:=@Nat.one_mul
abbrev xO:=@Nat.pow_le_pow_right
abbrev qZ:=@Nat.sub_self
abbrev gV:=@Nat.zero_add
abbrev de:=@Nat.zero_le
abbrev CD:=@Nat.zero_mul
abbrev n9:=@Option.bind_some
abbrev vp:=@Option.getD_none
abbrev fT:=@Option.getD_some
abbrev fp:=@Option.isSome_iff_exists
abbrev CC:=@Option.isSome_none
abbrev HZ:=@Option.isSome_some
abbrev bC:=@Option.map_eq_some_iff
abbrev jI:=@Option.map_some
abbrev lS:=@Option.some.inj
abbrev iH:=@Option.some.injEq
abbrev xN:=@Prod.mk.injEq
abbrev aS:=@Result.andThen_ok
inductive PV where
 |bool (b:Bool)
 |int (k:IntKind) (n:Int)
 |str (s:ByteArray)
 |agg (cs:List PV)
 |tuple (vs:List PV)
 |slice (sz:Nat) (xs:List PV) (full:Bool)
 |nilslice
 |ptr (sz:Nat) (xs:List PV) (i o:Nat)
 |nilptr
 |func (fn:Fn) (first cap:List PV)
 |nilfunc
 |iface (t:TypeId) (v:PV)
 |niliface
 |any
 deriving Inhabited
def PV.cells:PV->List PV
 |.agg cs=>cs
 |v=>[v]
inductive RK where
 |it|yl|mp|dk|bl
 deriving DecidableEq,Inhabited
inductive AV where
 |p (v:PV)
 |ptr (id ver i o:Nat)
 |slice (id ver off len:Nat)
 |agg (cs:List AV)
 |func (fn:Fn) (first cap:List AV)
 |tuple (vs:List AV)
 |ref (k:RK) (id:Nat)
 |iptr (t:TypeId) (id:Nat)
 |arr (id ver i o n:Nat)
 |undef
 deriving Inhabited
def AV.cells:AV->Option (List AV)
 |.p (.tuple _)=>none
 |.p v=>some (v.cells.map .p)
 |.agg cs=>some cs
 |.tuple _=>none
 |.undef=>none
 |v=>some [v]
def PV.isCell:PV->Bool
 |.agg _=>false
 |.tuple _=>false
 |_=>true
def AV.isCell:AV->Bool
 |.p v=>v.isCell
 |.agg _=>false
 |.tuple _=>false
 |.undef=>false
 |_=>true
def AV.plain:AV->Bool
 |.p _=>true
 |.ptr _ _ _ _=>true
 |.slice _ _ _ _=>true
 |.ref _ _=>true
 |.iptr _ _=>true
 |.arr _ _ _ _ _=>true
 |_=>false
def gp:List AV->Option (List PV)
 |[]=>some []
 |.p v::r=>match gp r with|some l=>some (v::l)|none=>none
 |_::_=>none
def pJ (cs:List AV):AV:=match gp cs with|some l=>.p (.agg l)|none=>.agg cs
def pX (cs:List AV):AV:=match gp cs with|some l=>.p (.tuple l)|none=>.tuple cs
def yA (fn:Fn) (first cap:List AV):AV:=
 match gp first,gp cap with|some a,some b=>.p (.func fn a b)|_,_=>.func fn first cap
inductive AObj where
 |row (sz:Nat) (xs:List AV)
 |strIter (s:ByteArray) (pos:Nat)
 |mp (es:List (PV×PV))
 |memo (f:PV->PV->Bool)
 |loop (n:Nat) (tmps:Nat->AV) (ps:Array Tmp) (assign body:Code) (st:LoopState) (pend:Option Code)
 |dblock
 |bld (T e:TypeId) (x:AV)
 |dead
abbrev Heap:=List AObj
def AObj.tag:AObj->Option RK
 |.strIter _ _=>some .it
 |.mp _=>some .mp
 |.memo _=>some .mp
 |.loop _ _ _ _ _ _ _=>some .yl
 |.dblock=>some .dk
 |.bld _ _ _=>some .bl
 |_=>none
inductive ADef where
 |fn (f:FuncId) (args:List AV)
 |collected (id:Nat)
inductive Rc where
 |no|rnd|none
 |pend (v:PV)
 |got (v:PV)
structure AAct where
 n:Nat
 bs:Nat
 rc:Rc
 tmps:Nat->AV
 h:Heap
 df:List ADef
def uf (f:Nat->AV) (t:Nat) (v:AV):Nat->AV:=λs=>if s=t then v else f s
theorem Dg(f)(t s)(v):uf f t v s=if s=t then v else f s:=rfl
def AAct.put (A:AAct) (dst:Option Tmp) (v:AV) (h:Heap):AAct:=
 match dst with
 |some d=>{ A with tmps:=uf A.tmps d v,h:=h }
 |none=>{ A with h:=h }
def o0:Value->Option PV
 |.bool b=>some (.bool b)
 |.int k n=>some (.int k n)
 |.string s=>some (.str s)
 |.pointer none=>some .nilptr
 |.slice none 0 0=>some .nilslice
 |.nilFunc=>some .nilfunc
 |.nilIface=>some .niliface
 |.map none=>some .any
 |.func (.func f) first cap=>if first.size=0/\cap.size=0 then some (.func (.func f) [] []) else none
 |_=>none
def ly:List Value->Option (List PV)
 |[]=>some []
 |v::r=>match o0 v,ly r with|some x,some l=>some (x::l)|_,_=>none
def mB:Value->Option PV
 |.agg cs=>match ly cs.toList with|some l=>some (.agg l)|none=>none
 |.tuple cs=>match ly cs.toList with|some l=>some (.tuple l)|none=>none
 |v=>o0 v
def AAct.eval (A:AAct):Operand->AV
 |.tmp t=>A.tmps t
 |.const v=>match mB v with|some x=>.p x|none=>.undef
 |.global _=>.undef
 |.func f=>.p (.func (.func f) [] [])
def Ef (P:Program) (T:TypeId):Bool:=
 match (P.types[T]?).map (λ(i:TypeInfo)=>i.desc) with
 |some (TypeDesc.named n _)=>n == "strings.Builder"
 |_=>false
def bn (P:Program) (T:TypeId):Option Bool:=
 match P.underlying T with
 |some (.struct _)=>some true
 |some (.array _ _)=>some true
 |some _=>some false
 |none=>none
def bL (P:Program) (T:TypeId):Option Nat:=(P.info? T).map (·.size)
def np (P:Program) (T:TypeId):Option Nat:=(P.info? T).map (·.bytes)
def aw (P:Program) (T:TypeId):Option PV:=((P.info? T).bind (·.zero)).bind mB
def qF (P:Program) (T:TypeId) (f:Nat):Option (Nat×TypeId):=
 match P.underlying T with
 |some (.struct fs)=>(fs[f]?).map λx=>(x.offset,x.type)
 |_=>none
def aP (P:Program) (T:TypeId):Option TypeId:=
 match P.underlying T with
 |some (.slice e)=>some e
 |_=>none
def cB (P:Program) (T:TypeId):Option (Nat×TypeId):=
 match P.underlying T with
 |some (.array n e)=>some (n,e)
 |_=>none
def eg (P:Program) (T:TypeId):Bool:=
 match P.underlying T with
 |some .string=>true
 |_=>false
def jW (P:Program) (T:TypeId):Option Bool:=
 match P.underlying T with
 |some (.interface _)=>some true
 |some _=>some false
 |none=>none
def lm (P:Program) (T:TypeId) (n:Nat):Bool:=
 match (P.info? T).bind (·.zero) with
 |some v=>v.cells.size==n
 |none=>false
def HC (P:Program) (T:TypeId):Option TypeId:=
 match P.underlying T with
 |some (.struct fs)=>(fs[1]?).bind λx=>aP P x.type
 |_=>none
def sub {α:Type} (o n:Nat) (l:List α):List α:=(l.drop o).take n
def jP {α:Type} (cs:List α) (o:Nat) (new:List α):List α:=cs.take o++new++cs.drop (o+new.length)
def AV.part (v:AV) (agg:Bool) (n o:Nat):Option AV:=
 match v.cells with
 |none=>none
 |some cs=>
  if agg then
   if cs.length=n/\o=0 then
    match v with
    |.p (.agg _)=>some v
    |.agg _=>some v
    |_=>none
   else if o+n<=cs.length then some (pJ (sub o n cs)) else none
  else cs[o]?
def ku (P:Program) (T:TypeId) (v:AV) (o:Nat):Option AV:=
 match bn P T,bL P T with
 |some a,some n=>v.part a n o
 |_,_=>none
def AV.withCells (v:AV) (o:Nat) (x:AV) (n:Nat):Option AV:=
 match v.cells,x.cells with
 |some cs,some new=>
  if new.length=n then
   if cs.length=n/\o=0 then some x
   else if o+n<=cs.length then some (pJ (jP cs o new)) else none
  else none
 |_,_=>none
inductive OR where
 |val (v:AV) (h:Heap)
 |skip (h:Heap)
 |call (f:FuncId) (args:List AV)
 |yld (l:Nat) (args:List AV)
 |dfr (d:ADef)
 |recover
 |panic (v:PV)
 |stuck
def ii (h:Heap):Option AV->OR
 |some v=>.val v h
 |none=>.stuck
def nx (P:Program) (T:TypeId) (x:AV) (h:Heap):OR:=
 match x with
 |.p (.ptr _ xs i o)=>match xs[i]? with|some v=>ii h (ku P T (.p v) o)|none=>.stuck
 |.ptr id ver i o=>
  match h[id]? with
  |some (.row _ xs)=>if xs.length=ver then match xs[i]? with|some v=>ii h (ku P T v o)|none=>.stuck else .stuck
  |_=>.stuck
 |_=>.stuck
def gC (P:Program) (T:TypeId) (x y:AV) (h:Heap):OR:=
 match x,bL P T with
 |.ptr id ver i o,some n=>
  match h[id]? with
  |some (.row sz xs)=>
   if xs.length=ver then
    match xs[i]? with
    |some v=>match v.withCells o y n with|some v'=>.skip (h.set id (.row sz (xs.set i v')))|none=>.stuck
    |none=>.stuck
   else .stuck
  |_=>.stuck
 |_,_=>.stuck
def dZ (h:Heap) (id ver:Nat):Option Nat:=
 match h[id]? with
 |some (.row sz xs)=>if xs.length=ver then some sz else none
 |_=>none
def lB (P:Program) (T:TypeId) (x:AV) (f:Nat) (h:Heap):OR:=
 match qF P T f with
 |none=>.stuck
 |some (off,t)=>
  match bL P t with
  |none=>.stuck
  |some n=>
   if n=0 then .stuck else
   match x with
   |.p (.ptr sz xs i o)=>.val (.p (.ptr sz xs i (o+off))) h
   |.ptr id ver i o=>match dZ h id ver with|some _=>.val (.ptr id ver i (o+off)) h|none=>.stuck
   |_=>.stuck
def su (P:Program) (T:TypeId) (x:AV) (f:Nat) (h:Heap):OR:=
 match qF P T f with
 |none=>.stuck
 |some (off,t)=>
  match x with
  |.p (.agg _)=>ii h (ku P t x off)
  |.agg _=>ii h (ku P t x off)
  |_=>.stuck
def gq (P:Program) (T:TypeId) (x ix:AV) (h:Heap):OR:=
 match ix with
 |.p (.int _ i)=>
  match x with
  |.p (.slice sz xs _)=>
   match aP P T with
   |some e=>if bL P e=some sz/\0<=i/\i<xs.length then .val (.p (.ptr sz xs i.toNat 0)) h else .stuck
   |none=>.stuck
  |.slice id ver off len=>
   match aP P T,h[id]? with
   |some e,some (.row sz xs)=>
    if bL P e=some sz/\xs.length=ver/\0<=i/\i<len then .val (.ptr id ver (off+i.toNat) 0) h else .stuck
   |_,_=>.stuck
  |.arr id ver j o n=>
   match aP P T,dZ h id ver with
   |some e,some _=>if bL P e=some 1/\0<=i/\i<n then .val (.ptr id ver j (o+i.toNat)) h else .stuck
   |_,_=>.stuck
  |.p (.ptr sz xs j o)=>
   match cB P T with
   |some (n,e)=>match bL P e with|some s=>if 0<=i/\i<n then .val (.p (.ptr sz xs j (o+i.toNat*s))) h else .stuck|none=>.stuck
   |none=>.stuck
  |.ptr id ver j o=>
   match cB P T with
   |some (n,e)=>
    match bL P e,dZ h id ver with
    |some s,some _=>if 0<=i/\i<n then .val (.ptr id ver j (o+i.toNat*s)) h else .stuck
    |_,_=>.stuck
   |none=>.stuck
  |_=>.stuck
 |_=>.stuck
def vh (P:Program) (T:TypeId) (x ix:AV) (h:Heap):OR:=
 match ix with
 |.p (.int _ i)=>
  match x with
  |.p (.str s)=>if eg P T=true/\0<=i then match s[i.toNat]? with|some b=>.val (.p (.int .u8 b.toNat)) h|none=>.stuck else .stuck
  |.p (.agg _)|.agg _=>
   match cB P T with
   |some (n,e)=>match bL P e with|some s=>if 0<=i/\i<n then ii h (ku P e x (i.toNat*s)) else .stuck|none=>.stuck
   |none=>.stuck
  |_=>.stuck
 |_=>.stuck
def lX:Option AV->Option (Option Int)
 |none=>some none
 |some (.p (.int _ i))=>some (some i)
 |_=>none
def ky (l r:Option Int) (len:Nat):Option (Nat×Nat):=
 if 0<=l.getD 0/\l.getD 0<=r.getD len/\r.getD len<=len then some ((l.getD 0).toNat,(r.getD len).toNat) else none
def sr (P:Program) (T:TypeId) (x:AV) (lo hi mx:Option AV) (h:Heap):OR:=
 match lX lo,lX hi,lX mx with
 |some l,some r,some m=>
  match x with
  |.p (.slice sz xs full)=>
   match aP P T,ky l r xs.length with
   |some e,some (a,b)=>
    if bL P e=some sz then
     match m with
     |none=>.val (.p (.slice sz ((xs.take b).drop a) (full&&b==xs.length))) h
     |some m=>if r=some m then .val (.p (.slice sz ((xs.take b).drop a) true)) h else .stuck
    else .stuck
   |_,_=>.stuck
  |.slice id ver off len=>
   match aP P T,h[id]?,ky l r len,m with
   |some e,some (.row sz xs),some (a,b),none=>
    if bL P e=some sz/\xs.length=ver then .val (.slice id ver (off+a) (b-a)) h else .stuck
   |some e,some (.row sz xs),_,some m=>
    if bL P e=some sz/\xs.length=ver/\r.isSome=true/\0<=l.getD 0/\l.getD 0<=r.getD 0/\r.getD 0<=m/\off+m<=ver then .val .undef h else .stuck
   |some e,some (.row sz xs),none,none=>
    if bL P e=some sz/\xs.length=ver/\r.isSome=true/\0<=l.getD 0/\l.getD 0<=r.getD 0/\off+r.getD 0<=ver then .val (.slice id ver (off+(l.getD 0).toNat) ((r.getD 0).toNat-(l.getD 0).toNat)) h else .stuck
   |_,_,_,_=>.stuck
  |.ptr id ver i o=>
   match cB P T,m with
   |some (n,e),none=>
    match ky l r n,dZ h id ver with
    |some (a,b),some _=>if bL P e=some 1 then .val (.arr id ver i (o+a) (b-a)) h else .stuck
    |_,_=>.stuck
   |_,_=>.stuck
  |.p (.str s)=>
   match ky l r s.size,m with
   |some (a,b),none=>if eg P T=true then .val (.p (.str (s.extract a b))) h else .stuck
   |_,_=>.stuck
  |.p .nilslice=>
   match aP P T,ky l r 0,m with
   |some e,some _,none=>if(bL P e).isSome=true then .val (.p .nilslice) h else .stuck
   |_,_,_=>.stuck
  |_=>.stuck
 |_,_,_=>.stuck
inductive CK where
 |bool|int|str
 deriving DecidableEq
def pq:CK->PV->PV->Option Bool
 |.bool,.bool a,.bool b=>some (a==b)
 |.int,.int j a,.int k b=>if j=k then some (a==b) else none
 |.str,.str a,.str b=>some (a==b)
 |_,_,_=>none
def dN:List CK->List PV->List PV->Option Bool
 |[],[],[]=>some true
 |k::ks,x::a,y::b=>match pq k x y,dN ks a b with|some s,some t=>some (s&&t)|_,_=>none
 |_,_,_=>none
def qx (P:Program) (rec:TypeId->Option (List CK)):List Field->Nat->Option (List CK)
 |[],_=>some []
 |f::fs,n=>
  if f.name ≠ "_" /\ f.offset=n then
   match rec f.type with
   |some ks=>if bL P f.type=some ks.length/\(bn P f.type).isSome=true then match qx P rec fs (n+ks.length) with|some r=>some (ks++r)|none=>none else none
   |none=>none
  else none
def gw (P:Program):Nat->TypeId->Option (List CK)
 |0,_=>none
 |d+1,T=>
  match P.underlying T with
  |some .bool=>some [.bool]
  |some (.int _)=>some [.int]
  |some .string=>some [.str]
  |some (.struct fs)=>if P.stoodInHeld T then none else qx P (gw P d) fs.toList 0
  |some (.array n e)=>match gw P d e with|some [k]=>if bL P e=some 1/\bn P e=some false then some (List.replicate n k) else none|_=>none
  |_=>none
def dw (P:Program) (T:TypeId):Option (List CK):=
 if P.eqGuardType P.depth T=false/\bn P T=some true then gw P 20 T else none
inductive TK where
 |bool|iface|slice|ptr|func|other
 deriving DecidableEq
def dV (P:Program) (T:TypeId):TK:=
 match P.underlying T with
 |some .bool=>.bool
 |some (.interface _)=>.iface
 |some (.slice _)=>.slice
 |some (.func _ _ _)=>.func
 |some (.pointer e)=>if bL P e=none\/bL P e=some 0 then .other else .ptr
 |_=>.other
def Fh (P:Program) (T:TypeId) (cst:Bool) (x y:AV):Option Bool:=
 match x,y with
 |.p (.bool a),.p (.bool b)=>if dV P T=.bool then some (a==b) else none
 |.p (.agg a),.p (.agg b)=>match dw P T with|some ks=>dN ks a b|none=>none
 |.p .niliface,.p .niliface=>if cst=true/\dV P T=.iface then some true else none
 |.p .niliface,.p (.iface _ _)=>if dV P T=.iface then some false else none
 |.p (.iface _ _),.p .niliface=>if dV P T=.iface then some false else none
 |.p .nilslice,.p .nilslice=>if dV P T=.slice then some true else none
 |.p .nilslice,.p (.slice _ xs _)=>if dV P T=.slice/\xs≠[] then some false else none
 |.p (.slice _ xs _),.p .nilslice=>if dV P T=.slice/\xs≠[] then some false else none
 |.p .nilptr,.p .nilptr=>if dV P T=.ptr then some true else none
 |.p .nilptr,.p (.ptr _ _ _ _)=>if dV P T=.ptr then some false else none
 |.p (.ptr _ _ _ _),.p .nilptr=>if dV P T=.ptr then some false else none
 |.p .nilfunc,.p .nilfunc=>if dV P T=.func then some true else none
 |.p (.func _ _ _),.p .nilfunc=>if dV P T=.func then some false else none
 |.func _ _ _,.p .nilfunc=>if dV P T=.func then some false else none
 |_,_=>none
def bj:Nat:=1099511627776
def x4 (op:BinOp) (a b:ByteArray):Option PV:=
 match op with
 |.eql=>some (.bool (a==b))
 |.neq=>some (.bool !(a==b))
 |.add=>if a.size+b.size<=bj then some (.str (a++b)) else none
 |.lss=>some (.bool (Op.bytesLess a.toList b.toList))
 |_=>none
def r9 (op:BinOp) (k:IntKind) (a b:Int):Option PV:=
 match op with
 |.add=>some (.int k (k.wrap (a+b)))
 |.sub=>some (.int k (k.wrap (a-b)))
 |.mul=>some (.int k (k.wrap (a*b)))
 |.quo=>if b=0 then none else some (.int k (k.wrap (a.tdiv b)))
 |.rem=>if b=0 then none else some (.int k (a.tmod b))
 |.eql=>some (.bool (a==b))
 |.neq=>some (.bool (a != b))
 |.lss=>some (.bool (a<b))
 |.leq=>some (.bool (a<=b))
 |.gtr=>some (.bool (b<a))
 |.geq=>some (.bool (b<=a))
 |.and=>some (.int k (k.wrap (BitVec.ofInt k.bits a&&& BitVec.ofInt k.bits b).toNat))
 |.or=>some (.int k (k.wrap (BitVec.ofInt k.bits a||| BitVec.ofInt k.bits b).toNat))
 |.andNot=>some (.int k (k.wrap (BitVec.ofInt k.bits a&&& ~~~BitVec.ofInt k.bits b).toNat))
 |_=>none
def fh (op:BinOp) (k:IntKind) (a b:Int):Option PV:=
 if b<0 then none else
 match op with
 |.shl=>some (.int k (k.wrap (a*2^(min b.toNat k.bits))))
 |.shr=>some (.int k (a.fdiv (2^(min b.toNat k.bits))))
 |_=>none
def vK:BinOp->Bool
 |.shl=>true
 |.shr=>true
 |_=>false
def rF (h:Heap):Option PV->OR
 |some v=>.val (.p v) h
 |none=>.stuck
def AS (P:Program) (op:BinOp) (T:TypeId) (cst:Bool) (x y:AV) (h:Heap):OR:=
 match x,y with
 |.p (.int k a),.p (.int k' b)=>if vK op=true then rF h (fh op k a b) else if k=k' then rF h (r9 op k a b) else .stuck
 |.p (.str a),.p (.str b)=>rF h (x4 op a b)
 |x,y=>
  match op with
  |.eql=>rF h ((Fh P T cst x y).map .bool)
  |.neq=>rF h ((Fh P T cst x y).map λt=>.bool !t)
  |_=>.stuck
def HG (op:UnOp) (x:AV) (h:Heap):OR:=
 match op,x with
 |.not,.p (.bool b)=>.val (.p (.bool !b)) h
 |.neg,.p (.int k a)=>.val (.p (.int k (k.wrap (-a)))) h
 |_,_=>.stuck
def dx (P:Program) (src dst:TypeId):Option IntKind:=
 match P.underlying src,P.underlying dst with
 |some _,some (.int k)=>some k
 |_,_=>none
def r8:List PV->Option (List Int)
 |[]=>some []
 |.int .u8 n::r=>(r8 r).map (n::·)
 |_::_=>none
def xt (P:Program) (T:TypeId):Bool:=
 match aP P T with
 |some e=>(match P.underlying e with|some (.int .u8)=>true|_=>false)
 |none=>false
def n6 (P:Program) (src dst:TypeId) (x:AV) (h:Heap):OR:=
 match x with
 |.p (.int _ n)=>match dx P src dst with|some k=>.val (.p (.int k (k.wrap n))) h|none=>.stuck
 |.p (.str s)=>if eg P src=true/\eg P dst=true then .val (.p (.str s)) h else .stuck
 |.p (.slice 1 (x::xs) _)=>if xt P src=true/\eg P dst=true then(match r8 (x::xs) with|some ns=>.val (.p (.str ⟨(ns.map λn=>UInt8.ofNat n.toNat).toArray⟩)) h|none=>.stuck) else .stuck
 |_=>.stuck
def tN (place:Nat->Option (Nat×Nat)):List (Nat×AV)->List AV->Option (List AV)
 |[],cs=>some cs
 |(i,v)::r,cs=>
  match place i,v.cells with
  |some (off,n),some new=>if new.length=n/\off+n<=cs.length then tN place r (jP cs off new) else none
  |_,_=>none
def bP (P:Program) (T:TypeId):Option (List (Nat×Nat)):=
 match P.underlying T with
 |some (.struct fs)=>fs.toList.mapM λf=>(P.info? f.type).map λi=>(f.offset,i.size)
 |_=>none
def sv (P:Program) (T:TypeId) (ps:List (Nat×AV)) (h:Heap):OR:=
 match aw P T with
 |some (.agg z)=>
  match bP P T with
  |some pl=>match tN (λi=>pl[i]?) ps (z.map .p) with|some cs=>.val (pJ cs) h|none=>.stuck
  |none=>
   match cB P T with
   |some (_,e)=>
    match bL P e with
    |some s=>match tN (λi=>some (i*s,s)) ps (z.map .p) with|some cs=>.val (pJ cs) h|none=>.stuck
    |none=>.stuck
   |none=>.stuck
 |_=>.stuck
def qQ:Nat->Nat->List (Nat×AV)->Option (List AV)
 |_,_,[]=>some []
 |i,sz,(j,v)::r=>if i=j/\v.cells.map (·.length)=some sz then match qQ (i+1) sz r with|some l=>some (v::l)|none=>none else none
def kl (P:Program) (T:TypeId) (mu:Bool) (n:Nat) (ps:List (Nat×AV)) (h:Heap):OR:=
 match aP P T with
 |some e=>
  match bL P e with
  |some sz=>
   match qQ 0 sz ps with
   |some xs=>
    if xs.length=n/\sz≠0/\n*sz<=16777216/\lm P e sz=true then
     match mu,gp xs with
     |false,some l=>.val (.p (.slice sz l true)) h
     |_,_=>.val (.slice h.length n 0 n) (h++[.row sz xs])
    else .stuck
   |none=>.stuck
  |none=>.stuck
 |none=>.stuck
def nZ (x:AV) (i:Nat) (h:Heap):OR:=
 match x with
 |.p (.tuple vs)=>match vs[i]? with|some v=>.val (.p v) h|none=>.stuck
 |.tuple vs=>match vs[i]? with|some v=>.val v h|none=>.stuck
 |_=>.stuck
def vg (P:Program) (T:TypeId) (x:AV) (h:Heap):OR:=
 match x with
 |.p (.str s)=>if eg P T=true then .val (.p (.int .i64 s.size)) h else .stuck
 |.p (.slice _ xs _)=>if(aP P T).isSome=true then .val (.p (.int .i64 xs.length)) h else .stuck
 |.p .nilslice=>if(aP P T).isSome=true then .val (.p (.int .i64 0)) h else .stuck
 |.slice id ver _ len=>if(aP P T).isSome=true/\(dZ h id ver).isSome=true then .val (.p (.int .i64 len)) h else .stuck
 |.p (.agg _)=>match cB P T with|some (n,_)=>.val (.p (.int .i64 n)) h|none=>.stuck
 |.arr id ver _ _ n=>if(aP P T).isSome=true/\(dZ h id ver).isSome=true then .val (.p (.int .i64 n)) h else .stuck
 |_=>.stuck
def gj (h:Heap) (sz:Nat):AV->Option (List AV)
 |.p .nilslice=>some []
 |.p (.slice sz' xs _)=>if sz'=sz then some (xs.map .p) else none
 |.p (.str s)=>if sz=1 then some (s.data.toList.map λb=>.p (.int .u8 b.toNat)) else none
 |.slice id ver off len=>
  match h[id]? with
  |some (.row sz' xs)=>if sz'=sz/\xs.length=ver/\off+len<=xs.length then some (sub off len xs) else none
  |_=>none
 |_=>none
def ao:Nat:=274877906944
def km (P:Program) (T U:TypeId) (x y:AV) (h:Heap):OR:=
 match aP P T with
 |some e=>
  if(aP P U).isSome=false/\eg P U=false then .stuck else
  match bL P e,np P e with
  |some sz,some bytes=>
   match gj h sz y with
   |some ys=>
    if sz≠0/\bytes<=256/\lm P e sz=true then
     match x with
     |.p .nilslice=>if ys.length<=ao then if ys=[] then .val (.p .nilslice) h else .val (.slice h.length ys.length 0 ys.length) (h++[.row sz ys]) else .stuck
     |.p (.slice sz' xs true)=>
      if sz'=sz/\xs.length+ys.length<=ao then
       if ys=[] then .val x h else .val (.slice h.length (xs.length+ys.length) 0 (xs.length+ys.length)) (h++[.row sz (xs.map .p++ys)])
      else .stuck
     |.slice id ver off len=>
      match h[id]? with
      |some (.row sz' xs)=>
       if sz'=sz/\xs.length=ver/\off=0/\len=ver/\xs.length+ys.length<=ao then
        .val (.slice id (xs.length+ys.length) 0 (xs.length+ys.length)) (h.set id (.row sz (xs++ys)))
       else if sz'=sz/\xs.length=ver/\off=0/\len+ys.length<=ver then
        .val (.slice id ver 0 (len+ys.length)) (h.set id (.row sz (xs.take len++ys++xs.drop (len+ys.length))))
       else .stuck
      |_=>.stuck
     |_=>.stuck
    else .stuck
   |none=>.stuck
  |_,_=>.stuck
 |none=>.stuck
def pU (P:Program) (T:TypeId) (l c:AV) (h:Heap):OR:=
 match aP P T,l,c with
 |some e,.p (.int .i64 l),.p (.int .i64 c)=>
  match bL P e,np P e,aw P e with
  |some sz,some bytes,some z=>
   if sz≠0/\bytes<=256/\z.cells.length=sz/\(AV.p z).cells.isSome=true/\0<=l/\l<=c/\c<=ao then .val (.slice h.length l.toNat 0 l.toNat) (h++[.row sz (List.replicate l.toNat (.p z))]) else .stuck
  |_,_,_=>.stuck
 |_,_,_=>.stuck
def zB (P:Program) (T:TypeId) (x:AV) (h:Heap):OR:=
 match aP P T,x with
 |some e,.slice id ver off len=>
  match h[id]?,bL P e,aw P e with
  |some (.row sz xs),some sz',some z=>
   if sz'=sz/\xs.length=ver/\off+len<=ver/\z.cells.length=sz/\sz≠0/\(AV.p z).cells.isSome=true then
    .val (.p (.tuple [])) (h.set id (.row sz (xs.take off++List.replicate len (.p z)++xs.drop (off+len))))
   else .stuck
  |_,_,_=>.stuck
 |_,_=>.stuck
def vZ (h:Heap) (sz len:Nat) (y:AV):Option (List AV):=
 match y with
 |.slice id ver off n=>
  match h[id]? with
  |some (.row sz' ys)=>if sz'=sz/\ys.length=ver/\off+n<=ver then some (sub off (Nat.min n len) ys) else none
  |_=>none
 |.p (.slice sz' xs full)=>match gj h sz (.p (.slice sz' xs full)) with|some ys=>if ys.length<=len then some ys else none|none=>none
 |_=>none
def CW (P:Program) (T:TypeId) (x y:AV) (h:Heap):OR:=
 match aP P T,x with
 |some e,.slice id ver off len=>
  match h[id]?,bL P e with
  |some (.row sz xs),some sz'=>
   if sz'=sz/\xs.length=ver/\off+len<=ver then
    match vZ h sz len y with
    |some ys=>.val (.p (.int .i64 (ys.length:Int))) (h.set id (.row sz (xs.take off++ys++xs.drop (off+ys.length))))
    |none=>.stuck
   else .stuck
  |_,_=>.stuck
 |_,_=>.stuck
def mi (P:Program) (b:Builtin) (ts:Array TypeId) (args:List AV) (h:Heap):OR:=
 match b,args with
 |.len,[x]=>if ts.size=1 then vg P (ts.getD 0 0) x h else .stuck
 |.append,[x,y]=>if ts.size=2 then km P (ts.getD 0 0) (ts.getD 1 0) x y h else .stuck
 |.min,[.p (.int j a),.p (.int _ b)]=>.val (.p (.int j (if b<a then b else a))) h
 |.max,[.p (.int j a),.p (.int _ b)]=>.val (.p (.int j (if a<b then b else a))) h
 |.recover,[]=>.recover
 |.clear,[x]=>if ts.size=1 then zB P (ts.getD 0 0) x h else .stuck
 |.copy,[x,y]=>if ts.size=2 then CW P (ts.getD 0 0) x y h else .stuck
 |_,_=>.stuck
def fO (f:AV) (args:List AV):OR:=
 match f with
 |.p (.func (.func g) first cap)=>.call g (first.map .p++args++cap.map .p)
 |.func (.func g) first cap=>.call g (first++args++cap)
 |.ref .yl l=>.yld l args
 |_=>.stuck
def vi (f:AV) (args:List AV):OR:=
 match fO f args with
 |.call g l=>.dfr (.fn g l)
 |_=>.stuck
def kx:Operand->Bool
 |.const _=>true
 |_=>false
def Aj (P:Program) (t:TypeId) (name:String):Option FuncId:=
 match ((P.info? t).map (λ(i:TypeInfo)=>i.methods)).bind λms=>ms.find? (·.name==name) with
 |some m=>if m.path.isEmpty=true then(match m.func,P.underlying t with|some (f,true),some (.pointer _)=>some f|_,_=>none) else none
 |none=>none
def AR (P:Program) (name:String) (x:AV) (args:List AV):OR:=
 match x with
 |.iptr t id=>match Aj P t name with|some f=>.call f (.ptr id 1 0 0::args)|none=>.stuck
 |_=>.stuck
def kj (P:Program) (A:TypeId) (ok:Bool) (x:AV) (h:Heap):OR:=
 match jW P A,x with
 |some false,.p (.iface t v)=>if t=A then .val (.p (if ok then .tuple [v,.bool true] else v)) h else if ok=true then(match aw P A with|some z=>.val (.p (.tuple [z,.bool false])) h|none=>.stuck) else .stuck
 |some false,.iptr t id=>if t=A then .val (if ok then .tuple [.ptr id 1 0 0,.p (.bool true)] else .ptr id 1 0 0) h else if ok=true then(match aw P A with|some z=>.val (.p (.tuple [z,.bool false])) h|none=>.stuck) else .stuck
 |_,_=>.stuck
def zA (P:Program) (T:TypeId) (x:AV) (h:Heap):OR:=
 match x with
 |.p (.str s)=>if eg P T=true then .val (.ref .it h.length) (h++[.strIter s 0]) else .stuck
 |_=>.stuck
def CV (isStr:Bool) (x:AV) (h:Heap):OR:=
 match isStr,x with
 |true,.ref .it id=>
  match h[id]? with
  |some (.strIter s pos)=>
   if pos<s.size then .val (.p (.tuple [.bool true,.int .i64 pos,.int .i32 (Utf8.decode s pos).1])) (h.set id (.strIter s (pos+(Utf8.decode s pos).2)))
   else .val (.p (.tuple [.bool false])) h
  |_=>.stuck
 |_,_=>.stuck
def EF:PV->CK
 |.int _ _=>.int
 |.str _=>.str
 |_=>.bool
def jn:PV->PV->Option Bool
 |.int j a,.int k b=>if j=k then some (a==b) else none
 |.str a,.str b=>some (a==b)
 |.agg a,.agg b=>dN (a.map EF) a b
 |_,_=>none
def xi (P:Program) (T:TypeId):Option (TypeId×TypeId):=match P.underlying T with|some (.map k e)=>some (k,e)|_=>none
inductive KK where
 |int|str|no|agg (ks:List CK)
def xm (P:Program) (K:TypeId):KK:=match P.underlying K with
 |some (.int _)=>.int
 |some .string=>.str
 |some (.struct _)=>match gw P 20 K with|some ks=>.agg ks|none=>.no
 |_=>.no
def tj (P:Program) (K:TypeId) (k:PV):Bool:=match xm P K,k with|.int,.int _ _=>true|.str,.str _=>true|.agg ks,.agg a=>(dN ks a a).isSome|_,_=>false
def kR (k:PV):List (PV×PV)->Option (Option PV)
 |[]=>some none
 |(q,v)::r=>match jn k q with|some true=>some (some v)|some false=>kR k r|none=>none
def mU (k v:PV):List (PV×PV)->Option (List (PV×PV))
 |[]=>some [(k,v)]
 |(q,u)::r=>match jn k q with|some true=>some ((k,v)::r)|some false=>(mU k v r).map ((q,u)::·)|none=>none
def Fg (_:Program) (_:TypeId) (r:Option AV) (h:Heap):OR:=
 match r with
 |none=>.val (.ref .mp h.length) (h++[.mp []])
 |some _=>.stuck
def Ak (ok:Bool) (v:PV) (b:Bool) (h:Heap):OR:=.val (.p (if ok then .tuple [v,.bool b] else v)) h
def p9 (P:Program) (T:TypeId) (x k:AV) (ok:Bool) (h:Heap):OR:=
 match xi P T,x,k with
 |some (K,E),.ref .mp id,.p k=>
  match h[id]?,aw P E with
  |some (.mp es),some z=>
   if tj P K k=true then
    match kR k es with
    |some (some v)=>Ak ok v true h
    |some none=>Ak ok z false h
    |none=>.stuck
   else .stuck
  |_,_=>.stuck
 |_,_,_=>.stuck
def pT (P:Program) (T:TypeId) (x k v:AV) (h:Heap):OR:=
 match xi P T,x,k,v with
 |some (K,_),.ref .mp id,.p k,.p v=>
  match h[id]? with
  |some (.mp es)=>if tj P K k=true then(match mU k v es with|some es'=>.skip (h.set id (.mp es'))|none=>.stuck) else .stuck
  |some (.memo f)=>if tj P K k=true/\f k v=true then .skip h else .stuck
  |_=>.stuck
 |_,_,_,_=>.stuck
def bh (P:Program) (mu:Nat->Bool) (o:Oper) (e:Operand->AV) (h:Heap):OR:=
 match o.op with
 |.move x=>.val (e x) h
 |.assign x=>.val (e x) h
 |.pick c a b=>match e c with|.p (.bool t)=>.val (if t then e a else e b) h|_=>.stuck
 |.alloc T=>if Ef P T=true then(match aw P T,HC P T with|some (.agg [.nilptr,.nilslice]),some e=>.val (.ref .bl h.length) (h++[.bld T e (.p .nilslice)])|_,_=>.stuck) else match aw P T with|some z=>if(AV.p z).cells.isSome=true then .val (.ptr h.length 1 0 0) (h++[.row z.cells.length [.p z]]) else .stuck|none=>.stuck
 |.box _ x=>match (e x).cells with|some cs=>.val (.ptr h.length 1 0 0) (h++[.row cs.length [e x]])|none=>.stuck
 |.build T ps=>sv P T (ps.toList.map λq=>(q.1,e q.2)) h
 |.buildSlice T n ps=>kl P T (match o.dst with|some d=>mu d|none=>false) n (ps.toList.map λq=>(q.1,e q.2)) h
 |.load T a=>nx P T (e a) h
 |.store T a x=>gC P T (e a) (e x) h
 |.nilCheck x=>match e x with|.p (.ptr sz xs i o)=>.val (.p (.ptr sz xs i o)) h|.iptr t id=>.val (.iptr t id) h|.ptr id ver i o=>(match dZ h id ver with|some _=>.val (.ptr id ver i o) h|none=>.stuck)|_=>.stuck
 |.binOp op T x y _=>AS P op T (kx x||kx y) (e x) (e y) h
 |.unOp op _ x=>HG op (e x) h
 |.convert src dst x=>n6 P src dst (e x) h
 |.makeInterface T x=>if jW P T=some false then match e x with|.p v=>.val (.p (.iface T v)) h|.ptr id ver i o=>(if ver=1/\i=0/\o=0 then .val (.iptr T id) h else .stuck)|_=>.stuck else .stuck
 |.makeFunc fn first cap=>if(first.toList.map e).all AV.plain=true/\(cap.toList.map e).all AV.plain=true then .val (yA fn (first.toList.map e) (cap.toList.map e)) h else .stuck
 |.makeSlice T l c=>pU P T (e l) (e c) h
 |.slice T x lo hi mx=>sr P T (e x) (lo.map e) (hi.map e) (mx.map e) h
 |.fieldAddr T x f=>lB P T (e x) f h
 |.field T x f=>su P T (e x) f h
 |.indexAddr T x i=>gq P T (e x) (e i) h
 |.index T x i=>vh P T (e x) (e i) h
 |.extract t i=>nZ (e t) i h
 |.call c=>
  match c.callee with
  |.value f=>fO (e f) (c.args.toList.map e)
  |.builtin b=>mi P b c.argTypes (c.args.toList.map e) h
  |.invoke r name=>AR P name (e r) (c.args.toList.map e)
 |.defer c=>
  match c.callee with
  |.value f=>vi (e f) (c.args.toList.map e)
  |_=>.stuck
 |.panic x=>match e x with|.p (.iface t v)=>.panic (.iface t v)|_=>.stuck
 |.typeAssert x _ A ok=>kj P A ok (e x) h
 |.range T x=>zA P T (e x) h
 |.next i isStr=>CV isStr (e i) h
 |.makeMap T r=>Fg P T (r.map e) h
 |.lookup T x k ok=>p9 P T (e x) (e k) ok h
 |.mapUpdate T m k v=>pT P T (e m) (e k) (e v) h
 |_=>.stuck
inductive AEnd where
 |ret (v:AV)
 |panic (v:PV)
inductive Ex where
 |normal
 |exit (id:Nat)
 |ret
 |panic (v:PV)
def p0 (A:AAct) (d:Option Tmp) (want:Bool):Option Bool:=
 match d with
 |none=>some false
 |some d=>match A.tmps d with|.p (.bool b)=>some (b==want)|.p (.tuple _)=>some false|_=>none
def bo (ops:Array Oper) (A:AAct) (o:Oper):Option Bool:=
 match o.guard with
 |none=>some true
 |some (j,want)=>p0 A ((ops[j]?).bind (·.dst)) want
def FA (b:Bool) (X Y:Unit->Prop):Prop:=(b=true->X ())/\(b=false->Y ())
theorem zm{P Q:Prop}(q:Q)(h:Q->P:=by intro q;simp only[go_sem,simprocAttr];exact q):P:=h q
theorem zn{A P Q:Prop}(a:A)(q:Q)(h:A->Q->P:=by intro a q;simp only[a,go_sem,simprocAttr];exact q):P:=h a q
theorem zo{A B P Q:Prop}(a:A)(b:B)(q:Q)(h:A->B->Q->P:=by intro a b q;simp only[a,b,go_sem,simprocAttr];exact q):P:=h a b q
theorem zp{A B C P Q:Prop}(a:A)(b:B)(c:C)(q:Q)(h:A->B->C->Q->P:=by intro a b c q;simp only[a,b,c,go_sem,simprocAttr];exact q):P:=h a b c q
end Abs
end Go.Proofs.YtmndpldajflenaaGreatDoor
