/- CONTRACTS of functions and laws. No conditions but those in the heads. -/
import Derived.WalkKit
import Derived.KernelRfl
import Derived.Lib.LaidTab
import Derived.Lib.ItoaNum
set_option linter.all false
namespace Go.Proofs.YtgafommgcfhkkaaGreatDoor
namespace Abs
abbrev tk:=@Array.ext
abbrev Xq:=@Array.ext_getElem?
abbrev OJ:=@Array.foldl_toList
abbrev ku:=@Array.getD_eq_getD_getElem?
abbrev T0:=@Array.getElem?_append
abbrev Xn:=@Array.getElem?_eq_getElem
abbrev BV:=@Array.getElem?_eq_none
abbrev xC:=@Array.getElem?_eq_some_iff
abbrev BU:=@Array.getElem?_modify
abbrev Xl:=@Array.getElem?_push
abbrev Xp:=@Array.getElem?_setIfInBounds
abbrev Xo:=@Array.getElem?_setIfInBounds_ne
abbrev AZ:=@Array.length_toList
abbrev MB:=@Array.mem_toList_iff
abbrev MA:=@Array.size_eq_zero_iff
abbrev eI:=@Bool.and_eq_true
abbrev tj:=@Bool.and_self
abbrev RE:=@Bool.eq_false_iff
abbrev km:=@Bool.eq_iff_iff
abbrev fD:=@Bool.false_eq_true
abbrev oo:=@Bool.false_or
abbrev mT:=@Bool.not_and
abbrev Mx:=@Bool.not_eq_true
abbrev DG:=@Bool.not_eq_true'
abbrev uK:=@Bool.not_false
abbrev qz:=@Bool.not_not
abbrev RD:=@Bool.or_eq_false_iff
abbrev RC:=@Bool.or_eq_true
abbrev dd:=@Bool.or_false
abbrev o0:=@Bool.true_and
abbrev oZ:=@Bool.true_or
abbrev gS:=@Function.comp_def
abbrev uJ:=@Int.add_zero
abbrev Hg:=@Int.ediv_le_ediv
abbrev na:=@Int.eq_ofNat_of_zero_le
abbrev DF:=@Int.le_ediv_iff_mul_le
abbrev Mw:=@Int.le_of_lt
abbrev lP:=@Int.le_refl
abbrev Hf:=@Int.le_total
abbrev xS:=@Int.le_trans
abbrev v7:=@Int.mul_assoc
abbrev xR:=@Int.mul_comm
abbrev pG:=@Int.mul_le_mul
abbrev v6:=@Int.mul_le_mul_of_nonneg_left
abbrev xQ:=@Int.mul_le_mul_of_nonneg_right
abbrev pF:=@Int.mul_nonneg
abbrev AY:=@Int.mul_zero
abbrev He:=@Int.neg_mul
abbrev DE:=@Int.one_mul
abbrev gX:=@Int.toNat_natCast
abbrev Mv:=@Int.zero_add
abbrev Hd:=@Int.zero_mul
abbrev kl:=@List.all_eq_true
abbrev ti:=@List.all_nil
abbrev bZ:=@List.any_cons
abbrev Mu:=@List.any_eq_true
abbrev oY:=@List.any_map
abbrev cO:=@List.any_nil
abbrev dD:=@List.append_assoc
abbrev Hc:=@List.append_eq
abbrev bI:=@List.append_nil
abbrev RB:=@List.append_of_mem
abbrev AX:=@List.concat_eq_append
abbrev Hb:=@List.cons.inj
abbrev ga:=@List.cons_append
abbrev Xm:=@List.drop_append_of_le_length
abbrev vZ:=@List.drop_drop
abbrev vY:=@List.drop_eq_getElem_cons
abbrev Mt:=@List.drop_of_length_le
abbrev qy:=@List.drop_zero
abbrev qx:=@List.eq_nil_of_length_eq_zero
abbrev AW:=@List.eq_nil_or_concat
abbrev Ms:=@List.eraseIdx_eq_take_drop_succ
abbrev pE:=@List.ext_getElem?
abbrev Mr:=@List.filter_append
abbrev vX:=@List.flatMap_append
abbrev mS:=@List.flatMap_cons
abbrev xP:=@List.flatMap_nil
abbrev DD:=@List.flatten_cons
abbrev vW:=@List.foldl_append
abbrev pD:=@List.foldl_cons
abbrev da:=@List.getD_eq_getElem?_getD
abbrev bJ:=@List.getElem?_append_left
abbrev dB:=@List.getElem?_append_right
abbrev AU:=@List.getElem?_cons_succ
abbrev Ha:=@List.getElem?_cons_zero
abbrev sc:=@List.getElem?_drop
abbrev bL:=@List.getElem?_eq_getElem
abbrev vV:=@List.getElem?_eq_none
abbrev aC:=@List.getElem?_eq_some_iff
abbrev cX:=@List.getElem?_map
abbrev DB:=@List.getElem?_mapIdx
abbrev fN:=@List.getElem?_of_mem
abbrev AT:=@List.getElem?_replicate
abbrev Mq:=@List.getElem?_set
abbrev eS:=@List.getElem?_set_ne
abbrev jp:=@List.getElem?_set_self
abbrev om:=@List.getElem?_take
abbrev G':=@List.getElem?_toArray
abbrev G9:=@List.getElem_mem
abbrev ak:=@List.length_append
abbrev bc:=@List.length_cons
abbrev GT:=@List.length_eq_one_iff
abbrev pJ:=@List.length_eq_zero_iff
abbrev wi:=@List.length_eraseIdx
abbrev dQ:=@List.length_map
abbrev bS:=@List.length_nil
abbrev zH:=@List.length_pos_iff
abbrev wh:=@List.length_set
abbrev aK:=@List.length_singleton
abbrev wg:=@List.length_take
abbrev aS:=@List.map_append
abbrev MC:=@List.map_congr_left
abbrev bf:=@List.map_cons
abbrev g8:=@List.map_map
abbrev bx:=@List.map_nil
abbrev we:=@List.map_set
abbrev B0:=@List.map_take
abbrev cn:=@List.mem_append
abbrev br:=@List.mem_cons
abbrev wd:=@List.mem_cons_of_mem
abbrev wc:=@List.mem_flatMap
abbrev cA:=@List.mem_map
abbrev aB:=@List.mem_of_getElem?
abbrev rb:=@List.mem_of_mem_take
abbrev BZ:=@List.mem_or_eq_of_mem_set
abbrev sq:=@List.mem_range
abbrev dW:=@List.mem_singleton
abbrev jb:=@List.nil_append
abbrev GS:=@List.nodup_cons
abbrev dP:=@List.not_mem_nil
abbrev GR:=@List.replicate_succ
abbrev GQ:=@List.replicate_zero
abbrev ue:=@List.set_append_left
abbrev ra:=@List.set_append_right
abbrev sn:=@List.set_set
abbrev BY:=@List.singleton_append
abbrev wb:=@List.take_add_one
abbrev ja:=@List.take_append_drop
abbrev eX:=@List.take_left'
abbrev nS:=@List.take_length
abbrev dt:=@List.take_of_length_le
abbrev lc:=@Nat.add_assoc
abbrev eW:=@Nat.add_mul
abbrev kx:=@Nat.add_zero
abbrev pI:=@Nat.eq_or_lt_of_le
abbrev q9:=@Nat.eq_zero_or_pos
abbrev pH:=@Nat.le_of_ble_eq_true
abbrev GP:=@Nat.le_of_eq
abbrev Mz:=@Nat.le_of_not_lt
abbrev ba:=@Nat.le_refl
abbrev fP:=@Nat.le_trans
abbrev iy:=@Nat.lt_of_lt_of_le
abbrev dO:=@Nat.lt_or_ge
abbrev dc:=@Nat.lt_succ_self
abbrev GO:=@Nat.lt_trichotomy
abbrev GN:=@Nat.min_eq_left
abbrev My:=@Nat.mod_eq_of_lt
abbrev zG:=@Nat.mod_lt
abbrev BX:=@Nat.mul_comm
abbrev gp:=@Nat.mul_le_mul_right
abbrev zF:=@Nat.ne_of_lt
abbrev wa:=@Nat.one_mul
abbrev mX:=@Nat.pow_le_pow_right
abbrev ud:=@Nat.sub_self
abbrev gZ:=@Nat.zero_add
abbrev cG:=@Nat.zero_le
abbrev GM:=@Nat.zero_mul
abbrev iv:=@Option.bind_some
abbrev zE:=@Option.getD_none
abbrev gY:=@Option.getD_some
abbrev iM:=@Option.isSome_iff_exists
abbrev BW:=@Option.isSome_none
abbrev q8:=@Option.isSome_some
abbrev bg:=@Option.map_eq_some_iff
abbrev i8:=@Option.map_some
abbrev kw:=@Option.some.inj
abbrev iu:=@Option.some.injEq
abbrev zD:=@Prod.mk.injEq
abbrev bN:=@Result.andThen_ok
inductive PV where
 |bool (b:Bool)
 |int (k:IntKind) (n:Int)
 |str (s:ByteArray)
 |agg (cs:List PV)
 |tuple (vs:List PV)
 |slice (sz:Nat) (xs:List PV) (full:Bool)
 |nilslice
 |ptr (sz:Nat) (xs:List PV) (i o:Nat)
 |nilptr
 |func (fn:Fn) (first cap:List PV)
 |nilfunc
 |iface (t:TypeId) (v:PV)
 |niliface
 |any
 deriving Inhabited
def PV.cells:PV->List PV
 |.agg cs=>cs
 |v=>[v]
inductive RK where
 |it|yl|mp|dk|bl
 deriving DecidableEq,Inhabited
inductive AV where
 |p (v:PV)
 |ptr (id ver i o:Nat)
 |slice (id ver off len:Nat)
 |agg (cs:List AV)
 |func (fn:Fn) (first cap:List AV)
 |tuple (vs:List AV)
 |ref (k:RK) (id:Nat)
 |undef
 deriving Inhabited
def AV.cells:AV->Option (List AV)
 |.p (.tuple _)=>none
 |.p v=>some (v.cells.map .p)
 |.agg cs=>some cs
 |.tuple _=>none
 |.undef=>none
 |v=>some [v]
def PV.isCell:PV->Bool
 |.agg _=>false
 |.tuple _=>false
 |_=>true
def AV.isCell:AV->Bool
 |.p v=>v.isCell
 |.agg _=>false
 |.tuple _=>false
 |.undef=>false
 |_=>true
def AV.plain:AV->Bool
 |.p _=>true
 |.ptr _ _ _ _=>true
 |.slice _ _ _ _=>true
 |.ref _ _=>true
 |_=>false
def iP:List AV->Option (List PV)
 |[]=>some []
 |.p v::r=>match iP r with|some l=>some (v::l)|none=>none
 |_::_=>none
def sG (cs:List AV):AV:=match iP cs with|some l=>.p (.agg l)|none=>.agg cs
def s4 (cs:List AV):AV:=match iP cs with|some l=>.p (.tuple l)|none=>.tuple cs
def CC (fn:Fn) (first cap:List AV):AV:=
 match iP first,iP cap with|some a,some b=>.p (.func fn a b)|_,_=>.func fn first cap
inductive AObj where
 |row (sz:Nat) (xs:List AV)
 |strIter (s:ByteArray) (pos:Nat)
 |mp (es:List (PV×PV))
 |memo (f:PV->PV->Bool)
 |loop (n:Nat) (tmps:Nat->AV) (ps:Array Tmp) (assign body:Code) (st:LoopState) (pend:Option Code)
 |dblock
 |bld (T e:TypeId) (x:AV)
 |dead
abbrev Heap:=List AObj
def AObj.tag:AObj->Option RK
 |.strIter _ _=>some .it
 |.mp _=>some .mp
 |.memo _=>some .mp
 |.loop _ _ _ _ _ _ _=>some .yl
 |.dblock=>some .dk
 |.bld _ _ _=>some .bl
 |_=>none
inductive ADef where
 |fn (f:FuncId) (args:List AV)
 |collected (id:Nat)
inductive Rc where
 |no|rnd|none
 |pend (v:PV)
 |got (v:PV)
structure AAct where
 n:Nat
 bs:Nat
 rc:Rc
 tmps:Nat->AV
 h:Heap
 df:List ADef
def xW (f:Nat->AV) (t:Nat) (v:AV):Nat->AV:=λs=>if s=t then v else f s
def Hk(f)(t s)(v):xW f t v s=if s=t then v else f s:=rfl
def AAct.put (A:AAct) (dst:Option Tmp) (v:AV) (h:Heap):AAct:=
 match dst with
 |some d=>{ A with tmps:=xW A.tmps d v,h:=h }
 |none=>{ A with h:=h }
def rW:Value->Option PV
 |.bool b=>some (.bool b)
 |.int k n=>some (.int k n)
 |.string s=>some (.str s)
 |.pointer none=>some .nilptr
 |.slice none 0 0=>some .nilslice
 |.nilFunc=>some .nilfunc
 |.nilIface=>some .niliface
 |.map none=>some .any
 |.func (.func f) first cap=>if first.size=0/\cap.size=0 then some (.func (.func f) [] []) else none
 |_=>none
def oa:List Value->Option (List PV)
 |[]=>some []
 |v::r=>match rW v,oa r with|some x,some l=>some (x::l)|_,_=>none
def pA:Value->Option PV
 |.agg cs=>match oa cs.toList with|some l=>some (.agg l)|none=>none
 |.tuple cs=>match oa cs.toList with|some l=>some (.tuple l)|none=>none
 |v=>rW v
def AAct.eval (A:AAct):Operand->AV
 |.tmp t=>A.tmps t
 |.const v=>match pA v with|some x=>.p x|none=>.undef
 |.global _=>.undef
 |.func f=>.p (.func (.func f) [] [])
def Iy (P:Program) (T:TypeId):Bool:=
 match (P.types[T]?).map (λ(i:TypeInfo)=>i.desc) with
 |some (TypeDesc.named n _)=>n == "strings.Builder"
 |_=>false
def dp (P:Program) (T:TypeId):Option Bool:=
 match P.underlying T with
 |some (.struct _)=>some true
 |some (.array _ _)=>some true
 |some _=>some false
 |none=>none
def du (P:Program) (T:TypeId):Option Nat:=(P.info? T).map (·.size)
def rZ (P:Program) (T:TypeId):Option Nat:=(P.info? T).map (·.bytes)
def bW (P:Program) (T:TypeId):Option PV:=((P.info? T).bind (·.zero)).bind pA
def tO (P:Program) (T:TypeId) (f:Nat):Option (Nat×TypeId):=
 match P.underlying T with
 |some (.struct fs)=>(fs[f]?).map λx=>(x.offset,x.type)
 |_=>none
def bM (P:Program) (T:TypeId):Option TypeId:=
 match P.underlying T with
 |some (.slice e)=>some e
 |_=>none
def ik (P:Program) (T:TypeId):Option (Nat×TypeId):=
 match P.underlying T with
 |some (.array n e)=>some (n,e)
 |_=>none
def fW (P:Program) (T:TypeId):Bool:=
 match P.underlying T with
 |some .string=>true
 |_=>false
def qK (P:Program) (T:TypeId):Option Bool:=
 match P.underlying T with
 |some (.interface _)=>some true
 |some _=>some false
 |none=>none
def pw (P:Program) (T:TypeId) (n:Nat):Bool:=
 match (P.info? T).bind (·.zero) with
 |some v=>v.cells.size==n
 |none=>false
def Mb (P:Program) (T:TypeId):Option TypeId:=
 match P.underlying T with
 |some (.struct fs)=>(fs[1]?).bind λx=>bM P x.type
 |_=>none
def sub {α:Type} (o n:Nat) (l:List α):List α:=(l.drop o).take n
def lY {α:Type} (cs:List α) (o:Nat) (new:List α):List α:=cs.take o++new++cs.drop (o+new.length)
def AV.part (v:AV) (agg:Bool) (n o:Nat):Option AV:=
 match v.cells with
 |none=>none
 |some cs=>
  if agg then
   if cs.length=n/\o=0 then
    match v with
    |.p (.agg _)=>some v
    |.agg _=>some v
    |_=>none
   else if o+n<=cs.length then some (sG (sub o n cs)) else none
  else cs[o]?
def m6 (P:Program) (T:TypeId) (v:AV) (o:Nat):Option AV:=
 match dp P T,du P T with
 |some a,some n=>v.part a n o
 |_,_=>none
def AV.withCells (v:AV) (o:Nat) (x:AV) (n:Nat):Option AV:=
 match v.cells,x.cells with
 |some cs,some new=>
  if new.length=n then
   if cs.length=n/\o=0 then some x
   else if o+n<=cs.length then some (sG (lY cs o new)) else none
  else none
 |_,_=>none
inductive OR where
 |val (v:AV) (h:Heap)
 |skip (h:Heap)
 |call (f:FuncId) (args:List AV)
 |yld (l:Nat) (args:List AV)
 |dfr (d:ADef)
 |recover
 |panic (v:PV)
 |stuck
def jY (h:Heap):Option AV->OR
 |some v=>.val v h
 |none=>.stuck
def qo (P:Program) (T:TypeId) (x:AV) (h:Heap):OR:=
 match x with
 |.p (.ptr _ xs i o)=>match xs[i]? with|some v=>jY h (m6 P T (.p v) o)|none=>.stuck
 |.ptr id ver i o=>
  match h[id]? with
  |some (.row _ xs)=>if xs.length=ver then match xs[i]? with|some v=>jY h (m6 P T v o)|none=>.stuck else .stuck
  |_=>.stuck
 |_=>.stuck
def iZ (P:Program) (T:TypeId) (x y:AV) (h:Heap):OR:=
 match x,du P T with
 |.ptr id ver i o,some n=>
  match h[id]? with
  |some (.row sz xs)=>
   if xs.length=ver then
    match xs[i]? with
    |some v=>match v.withCells o y n with|some v'=>.skip (h.set id (.row sz (xs.set i v')))|none=>.stuck
    |none=>.stuck
   else .stuck
  |_=>.stuck
 |_,_=>.stuck
def jh (h:Heap) (id ver:Nat):Option Nat:=
 match h[id]? with
 |some (.row sz xs)=>if xs.length=ver then some sz else none
 |_=>none
def oe (P:Program) (T:TypeId) (x:AV) (f:Nat) (h:Heap):OR:=
 match tO P T f with
 |none=>.stuck
 |some (off,t)=>
  match du P t with
  |none=>.stuck
  |some n=>
   if n=0 then .stuck else
   match x with
   |.p (.ptr sz xs i o)=>.val (.p (.ptr sz xs i (o+off))) h
   |.ptr id ver i o=>match jh h id ver with|some _=>.val (.ptr id ver i (o+off)) h|none=>.stuck
   |_=>.stuck
def vN (P:Program) (T:TypeId) (x:AV) (f:Nat) (h:Heap):OR:=
 match tO P T f with
 |none=>.stuck
 |some (off,t)=>
  match x with
  |.p (.agg _)=>jY h (m6 P t x off)
  |.agg _=>jY h (m6 P t x off)
  |_=>.stuck
def jL (P:Program) (T:TypeId) (x ix:AV) (h:Heap):OR:=
 match ix with
 |.p (.int _ i)=>
  match x with
  |.p (.slice sz xs _)=>
   match bM P T with
   |some e=>if du P e=some sz/\0<=i/\i<xs.length then .val (.p (.ptr sz xs i.toNat 0)) h else .stuck
   |none=>.stuck
  |.slice id ver off len=>
   match bM P T,h[id]? with
   |some e,some (.row sz xs)=>
    if du P e=some sz/\xs.length=ver/\0<=i/\i<len then .val (.ptr id ver (off+i.toNat) 0) h else .stuck
   |_,_=>.stuck
  |.p (.ptr sz xs j o)=>
   match ik P T with
   |some (n,e)=>match du P e with|some s=>if 0<=i/\i<n then .val (.p (.ptr sz xs j (o+i.toNat*s))) h else .stuck|none=>.stuck
   |none=>.stuck
  |.ptr id ver j o=>
   match ik P T with
   |some (n,e)=>
    match du P e,jh h id ver with
    |some s,some _=>if 0<=i/\i<n then .val (.ptr id ver j (o+i.toNat*s)) h else .stuck
    |_,_=>.stuck
   |none=>.stuck
  |_=>.stuck
 |_=>.stuck
def zw (P:Program) (T:TypeId) (x ix:AV) (h:Heap):OR:=
 match ix with
 |.p (.int _ i)=>
  match x with
  |.p (.str s)=>if fW P T=true/\0<=i then match s[i.toNat]? with|some b=>.val (.p (.int .u8 b.toNat)) h|none=>.stuck else .stuck
  |.p (.agg _)|.agg _=>
   match ik P T with
   |some (n,e)=>match du P e with|some s=>if 0<=i/\i<n then jY h (m6 P e x (i.toNat*s)) else .stuck|none=>.stuck
   |none=>.stuck
  |_=>.stuck
 |_=>.stuck
def oU:Option AV->Option (Option Int)
 |none=>some none
 |some (.p (.int _ i))=>some (some i)
 |_=>none
def oW (l r:Option Int) (len:Nat):Option (Nat×Nat):=
 if 0<=l.getD 0/\l.getD 0<=r.getD len/\r.getD len<=len then some ((l.getD 0).toNat,(r.getD len).toNat) else none
def vM (P:Program) (T:TypeId) (x:AV) (lo hi mx:Option AV) (h:Heap):OR:=
 match oU lo,oU hi,oU mx with
 |some l,some r,some m=>
  match x with
  |.p (.slice sz xs full)=>
   match bM P T,oW l r xs.length with
   |some e,some (a,b)=>
    if du P e=some sz then
     match m with
     |none=>.val (.p (.slice sz ((xs.take b).drop a) (full&&b==xs.length))) h
     |some m=>if r=some m then .val (.p (.slice sz ((xs.take b).drop a) true)) h else .stuck
    else .stuck
   |_,_=>.stuck
  |.slice id ver off len=>
   match bM P T,h[id]?,oW l r len,m with
   |some e,some (.row sz xs),some (a,b),none=>
    if du P e=some sz/\xs.length=ver then .val (.slice id ver (off+a) (b-a)) h else .stuck
   |some e,some (.row sz xs),_,some m=>
    if du P e=some sz/\xs.length=ver/\r.isSome=true/\0<=l.getD 0/\l.getD 0<=r.getD 0/\r.getD 0<=m/\off+m<=ver then .val .undef h else .stuck
   |some e,some (.row sz xs),none,none=>
    if du P e=some sz/\xs.length=ver/\r.isSome=true/\0<=l.getD 0/\l.getD 0<=r.getD 0/\off+r.getD 0<=ver then .val (.slice id ver (off+(l.getD 0).toNat) ((r.getD 0).toNat-(l.getD 0).toNat)) h else .stuck
   |_,_,_,_=>.stuck
  |.p (.str s)=>
   match oW l r s.size,m with
   |some (a,b),none=>if fW P T=true then .val (.p (.str (s.extract a b))) h else .stuck
   |_,_=>.stuck
  |.p .nilslice=>
   match bM P T,oW l r 0,m with
   |some e,some _,none=>if(du P e).isSome=true then .val (.p .nilslice) h else .stuck
   |_,_,_=>.stuck
  |_=>.stuck
 |_,_,_=>.stuck
inductive CK where
 |bool|int|str
 deriving DecidableEq
def qu:CK->PV->PV->Option Bool
 |.bool,.bool a,.bool b=>some (a==b)
 |.int,.int j a,.int k b=>if j=k then some (a==b) else none
 |.str,.str a,.str b=>some (a==b)
 |_,_,_=>none
def fx:List CK->List PV->List PV->Option Bool
 |[],[],[]=>some true
 |k::ks,x::a,y::b=>match qu k x y,fx ks a b with|some s,some t=>some (s&&t)|_,_=>none
 |_,_,_=>none
def yz (P:Program) (rec:TypeId->Option (List CK)):List Field->Nat->Option (List CK)
 |[],_=>some []
 |f::fs,n=>
  if f.name ≠ "_" /\ f.offset=n then
   match rec f.type with
   |some ks=>if du P f.type=some ks.length/\(dp P f.type).isSome=true then match yz P rec fs (n+ks.length) with|some r=>some (ks++r)|none=>none else none
   |none=>none
  else none
def oC (P:Program):Nat->TypeId->Option (List CK)
 |0,_=>none
 |d+1,T=>
  match P.underlying T with
  |some .bool=>some [.bool]
  |some (.int _)=>some [.int]
  |some .string=>some [.str]
  |some (.struct fs)=>if P.stoodInHeld T then none else yz P (oC P d) fs.toList 0
  |_=>none
def yX (P:Program) (T:TypeId):Option (List CK):=
 if P.eqGuardType P.depth T=false/\dp P T=some true then oC P 20 T else none
inductive TK where
 |bool|iface|slice|ptr|func|other
 deriving DecidableEq
def fd (P:Program) (T:TypeId):TK:=
 match P.underlying T with
 |some .bool=>.bool
 |some (.interface _)=>.iface
 |some (.slice _)=>.slice
 |some (.func _ _ _)=>.func
 |some (.pointer e)=>if du P e=none\/du P e=some 0 then .other else .ptr
 |_=>.other
def JP (P:Program) (T:TypeId) (cst:Bool) (x y:AV):Option Bool:=
 match x,y with
 |.p (.bool a),.p (.bool b)=>if fd P T=.bool then some (a==b) else none
 |.p (.agg a),.p (.agg b)=>match yX P T with|some ks=>fx ks a b|none=>none
 |.p .niliface,.p .niliface=>if cst=true/\fd P T=.iface then some true else none
 |.p .niliface,.p (.iface _ _)=>if fd P T=.iface then some false else none
 |.p (.iface _ _),.p .niliface=>if fd P T=.iface then some false else none
 |.p .nilslice,.p .nilslice=>if fd P T=.slice then some true else none
 |.p .nilslice,.p (.slice _ xs _)=>if fd P T=.slice/\xs≠[] then some false else none
 |.p (.slice _ xs _),.p .nilslice=>if fd P T=.slice/\xs≠[] then some false else none
 |.p .nilptr,.p .nilptr=>if fd P T=.ptr then some true else none
 |.p .nilptr,.p (.ptr _ _ _ _)=>if fd P T=.ptr then some false else none
 |.p (.ptr _ _ _ _),.p .nilptr=>if fd P T=.ptr then some false else none
 |.p .nilfunc,.p .nilfunc=>if fd P T=.func then some true else none
 |.p (.func _ _ _),.p .nilfunc=>if fd P T=.func then some false else none
 |.func _ _ _,.p .nilfunc=>if fd P T=.func then some false else none
 |_,_=>none
def aM:Nat:=1099511627776
def Ca (op:BinOp) (a b:ByteArray):Option PV:=
 match op with
 |.eql=>some (.bool (a==b))
 |.neq=>some (.bool !(a==b))
 |.add=>if a.size+b.size<=aM then some (.str (a++b)) else none
 |.lss=>some (.bool (Op.bytesLess a.toList b.toList))
 |_=>none
def vt (op:BinOp) (k:IntKind) (a b:Int):Option PV:=
 match op with
 |.add=>some (.int k (k.wrap (a+b)))
 |.sub=>some (.int k (k.wrap (a-b)))
 |.mul=>some (.int k (k.wrap (a*b)))
 |.quo=>if b=0 then none else some (.int k (k.wrap (a.tdiv b)))
 |.rem=>if b=0 then none else some (.int k (a.tmod b))
 |.eql=>some (.bool (a==b))
 |.neq=>some (.bool (a != b))
 |.lss=>some (.bool (a<b))
 |.leq=>some (.bool (a<=b))
 |.gtr=>some (.bool (b<a))
 |.geq=>some (.bool (b<=a))
 |.and=>some (.int k (k.wrap (BitVec.ofInt k.bits a&&& BitVec.ofInt k.bits b).toNat))
 |.or=>some (.int k (k.wrap (BitVec.ofInt k.bits a||| BitVec.ofInt k.bits b).toNat))
 |.andNot=>some (.int k (k.wrap (BitVec.ofInt k.bits a&&& ~~~BitVec.ofInt k.bits b).toNat))
 |_=>none
def gG (op:BinOp) (k:IntKind) (a b:Int):Option PV:=
 if b<0 then none else
 match op with
 |.shl=>some (.int k (k.wrap (a*2^(min b.toNat k.bits))))
 |.shr=>some (.int k (a.fdiv (2^(min b.toNat k.bits))))
 |_=>none
def zV:BinOp->Bool
 |.shl=>true
 |.shr=>true
 |_=>false
def uR (h:Heap):Option PV->OR
 |some v=>.val (.p v) h
 |none=>.stuck
def EL (P:Program) (op:BinOp) (T:TypeId) (cst:Bool) (x y:AV) (h:Heap):OR:=
 match x,y with
 |.p (.int k a),.p (.int k' b)=>if zV op=true then uR h (gG op k a b) else if k=k' then uR h (vt op k a b) else .stuck
 |.p (.str a),.p (.str b)=>uR h (Ca op a b)
 |x,y=>
  match op with
  |.eql=>uR h ((JP P T cst x y).map .bool)
  |.neq=>uR h ((JP P T cst x y).map λt=>.bool !t)
  |_=>.stuck
def Mg (op:UnOp) (x:AV) (h:Heap):OR:=
 match op,x with
 |.not,.p (.bool b)=>.val (.p (.bool !b)) h
 |.neg,.p (.int k a)=>.val (.p (.int k (k.wrap (-a)))) h
 |_,_=>.stuck
def qP (P:Program) (src dst:TypeId):Option IntKind:=
 match P.underlying src,P.underlying dst with
 |some _,some (.int k)=>some k
 |_,_=>none
def rM:List PV->Option (List Int)
 |[]=>some []
 |.int .u8 n::r=>(rM r).map (n::·)
 |_::_=>none
def Bu (P:Program) (T:TypeId):Bool:=
 match bM P T with
 |some e=>(match P.underlying e with|some (.int .u8)=>true|_=>false)
 |none=>false
def qX (P:Program) (src dst:TypeId) (x:AV) (h:Heap):OR:=
 match x with
 |.p (.int _ n)=>match qP P src dst with|some k=>.val (.p (.int k (k.wrap n))) h|none=>.stuck
 |.p (.str s)=>if fW P src=true/\fW P dst=true then .val (.p (.str s)) h else .stuck
 |.p (.slice 1 (x::xs) _)=>if Bu P src=true/\fW P dst=true then(match rM (x::xs) with|some ns=>.val (.p (.str ⟨(ns.map λn=>UInt8.ofNat n.toNat).toArray⟩)) h|none=>.stuck) else .stuck
 |_=>.stuck
def xx (place:Nat->Option (Nat×Nat)):List (Nat×AV)->List AV->Option (List AV)
 |[],cs=>some cs
 |(i,v)::r,cs=>
  match place i,v.cells with
  |some (off,n),some new=>if new.length=n/\off+n<=cs.length then xx place r (lY cs off new) else none
  |_,_=>none
def eL (P:Program) (T:TypeId):Option (List (Nat×Nat)):=
 match P.underlying T with
 |some (.struct fs)=>fs.toList.mapM λf=>(P.info? f.type).map λi=>(f.offset,i.size)
 |_=>none
def vO (P:Program) (T:TypeId) (ps:List (Nat×AV)) (h:Heap):OR:=
 match bW P T with
 |some (.agg z)=>
  match eL P T with
  |some pl=>match xx (λi=>pl[i]?) ps (z.map .p) with|some cs=>.val (sG cs) h|none=>.stuck
  |none=>
   match ik P T with
   |some (_,e)=>
    match du P e with
    |some s=>match xx (λi=>some (i*s,s)) ps (z.map .p) with|some cs=>.val (sG cs) h|none=>.stuck
    |none=>.stuck
   |none=>.stuck
 |_=>.stuck
def tY:Nat->Nat->List (Nat×AV)->Option (List AV)
 |_,_,[]=>some []
 |i,sz,(j,v)::r=>if i=j/\v.cells.map (·.length)=some sz then match tY (i+1) sz r with|some l=>some (v::l)|none=>none else none
def mQ (P:Program) (T:TypeId) (mu:Bool) (n:Nat) (ps:List (Nat×AV)) (h:Heap):OR:=
 match bM P T with
 |some e=>
  match du P e with
  |some sz=>
   match tY 0 sz ps with
   |some xs=>
    if xs.length=n/\sz≠0/\n*sz<=16777216/\pw P e sz=true then
     match mu,iP xs with
     |false,some l=>.val (.p (.slice sz l true)) h
     |_,_=>.val (.slice h.length n 0 n) (h++[.row sz xs])
    else .stuck
   |none=>.stuck
  |none=>.stuck
 |none=>.stuck
def qW (x:AV) (i:Nat) (h:Heap):OR:=
 match x with
 |.p (.tuple vs)=>match vs[i]? with|some v=>.val (.p v) h|none=>.stuck
 |.tuple vs=>match vs[i]? with|some v=>.val v h|none=>.stuck
 |_=>.stuck
def BN (P:Program) (T:TypeId) (x:AV) (h:Heap):OR:=
 match x with
 |.p (.str s)=>if fW P T=true then .val (.p (.int .i64 s.size)) h else .stuck
 |.p (.slice _ xs _)=>if(bM P T).isSome=true then .val (.p (.int .i64 xs.length)) h else .stuck
 |.p .nilslice=>if(bM P T).isSome=true then .val (.p (.int .i64 0)) h else .stuck
 |.slice id ver _ len=>if(bM P T).isSome=true/\(jh h id ver).isSome=true then .val (.p (.int .i64 len)) h else .stuck
 |.p (.agg _)=>match ik P T with|some (n,_)=>.val (.p (.int .i64 n)) h|none=>.stuck
 |_=>.stuck
def mn (h:Heap) (sz:Nat):AV->Option (List AV)
 |.p .nilslice=>some []
 |.p (.slice sz' xs _)=>if sz'=sz then some (xs.map .p) else none
 |.p (.str s)=>if sz=1 then some (s.data.toList.map λb=>.p (.int .u8 b.toNat)) else none
 |.slice id ver off len=>
  match h[id]? with
  |some (.row sz' xs)=>if sz'=sz/\xs.length=ver/\off+len<=xs.length then some (sub off len xs) else none
  |_=>none
 |_=>none
def ai:Nat:=274877906944
def vP (P:Program) (T U:TypeId) (x y:AV) (h:Heap):OR:=
 match bM P T with
 |some e=>
  if(bM P U).isSome=false/\fW P U=false then .stuck else
  match du P e,rZ P e with
  |some sz,some bytes=>
   match mn h sz y with
   |some ys=>
    if sz≠0/\bytes<=256/\pw P e sz=true then
     match x with
     |.p .nilslice=>if ys.length<=ai then if ys=[] then .val (.p .nilslice) h else .val (.slice h.length ys.length 0 ys.length) (h++[.row sz ys]) else .stuck
     |.p (.slice sz' xs true)=>
      if sz'=sz/\xs.length+ys.length<=ai then
       if ys=[] then .val x h else .val (.slice h.length (xs.length+ys.length) 0 (xs.length+ys.length)) (h++[.row sz (xs.map .p++ys)])
      else .stuck
     |.slice id ver off len=>
      match h[id]? with
      |some (.row sz' xs)=>
       if sz'=sz/\xs.length=ver/\off=0/\len=ver/\xs.length+ys.length<=ai then
        .val (.slice id (xs.length+ys.length) 0 (xs.length+ys.length)) (h.set id (.row sz (xs++ys)))
       else if sz'=sz/\xs.length=ver/\off=0/\len+ys.length<=ver then
        .val (.slice id ver 0 (len+ys.length)) (h.set id (.row sz (xs.take len++ys++xs.drop (len+ys.length))))
       else .stuck
      |_=>.stuck
     |_=>.stuck
    else .stuck
   |none=>.stuck
  |_,_=>.stuck
 |none=>.stuck
def sT (P:Program) (T:TypeId) (l c:AV) (h:Heap):OR:=
 match bM P T,l,c with
 |some e,.p (.int .i64 l),.p (.int .i64 c)=>
  match du P e,rZ P e,bW P e with
  |some sz,some bytes,some z=>
   if sz≠0/\bytes<=256/\z.cells.length=sz/\(AV.p z).cells.isSome=true/\0<=l/\l<=c/\c<=ai then .val (.slice h.length l.toNat 0 l.toNat) (h++[.row sz (List.replicate l.toNat (.p z))]) else .stuck
  |_,_,_=>.stuck
 |_,_,_=>.stuck
def Ds (P:Program) (T:TypeId) (x:AV) (h:Heap):OR:=
 match bM P T,x with
 |some e,.slice id ver off len=>
  match h[id]?,du P e,bW P e with
  |some (.row sz xs),some sz',some z=>
   if sz'=sz/\xs.length=ver/\off+len<=ver/\z.cells.length=sz/\sz≠0/\(AV.p z).cells.isSome=true then
    .val (.p (.tuple [])) (h.set id (.row sz (xs.take off++List.replicate len (.p z)++xs.drop (off+len))))
   else .stuck
  |_,_,_=>.stuck
 |_,_=>.stuck
def Ad (h:Heap) (sz len:Nat) (y:AV):Option (List AV):=
 match y with
 |.slice id ver off n=>
  match h[id]? with
  |some (.row sz' ys)=>if sz'=sz/\ys.length=ver/\off+n<=ver then some (sub off (Nat.min n len) ys) else none
  |_=>none
 |.p (.slice sz' xs full)=>match mn h sz (.p (.slice sz' xs full)) with|some ys=>if ys.length<=len then some ys else none|none=>none
 |_=>none
def G7 (P:Program) (T:TypeId) (x y:AV) (h:Heap):OR:=
 match bM P T,x with
 |some e,.slice id ver off len=>
  match h[id]?,du P e with
  |some (.row sz xs),some sz'=>
   if sz'=sz/\xs.length=ver/\off+len<=ver then
    match Ad h sz len y with
    |some ys=>.val (.p (.int .i64 (ys.length:Int))) (h.set id (.row sz (xs.take off++ys++xs.drop (off+ys.length))))
    |none=>.stuck
   else .stuck
  |_,_=>.stuck
 |_,_=>.stuck
def tZ (P:Program) (b:Builtin) (ts:Array TypeId) (args:List AV) (h:Heap):OR:=
 match b,args with
 |.len,[x]=>if ts.size=1 then BN P (ts.getD 0 0) x h else .stuck
 |.append,[x,y]=>if ts.size=2 then vP P (ts.getD 0 0) (ts.getD 1 0) x y h else .stuck
 |.min,[.p (.int j a),.p (.int _ b)]=>.val (.p (.int j (if b<a then b else a))) h
 |.max,[.p (.int j a),.p (.int _ b)]=>.val (.p (.int j (if a<b then b else a))) h
 |.recover,[]=>.recover
 |.clear,[x]=>if ts.size=1 then Ds P (ts.getD 0 0) x h else .stuck
 |.copy,[x,y]=>if ts.size=2 then G7 P (ts.getD 0 0) x y h else .stuck
 |_,_=>.stuck
def ip (f:AV) (args:List AV):OR:=
 match f with
 |.p (.func (.func g) first cap)=>.call g (first.map .p++args++cap.map .p)
 |.func (.func g) first cap=>.call g (first++args++cap)
 |.ref .yl l=>.yld l args
 |_=>.stuck
def zx (f:AV) (args:List AV):OR:=
 match ip f args with
 |.call g l=>.dfr (.fn g l)
 |_=>.stuck
def m7:Operand->Bool
 |.const _=>true
 |_=>false
def mO (P:Program) (A:TypeId) (ok:Bool) (x:AV) (h:Heap):OR:=
 match qK P A,x with
 |some false,.p (.iface t v)=>if t=A then .val (.p (if ok then .tuple [v,.bool true] else v)) h else if ok=true then(match bW P A with|some z=>.val (.p (.tuple [z,.bool false])) h|none=>.stuck) else .stuck
 |_,_=>.stuck
def Dr (P:Program) (T:TypeId) (x:AV) (h:Heap):OR:=
 match x with
 |.p (.str s)=>if fW P T=true then .val (.ref .it h.length) (h++[.strIter s 0]) else .stuck
 |_=>.stuck
def G6 (isStr:Bool) (x:AV) (h:Heap):OR:=
 match isStr,x with
 |true,.ref .it id=>
  match h[id]? with
  |some (.strIter s pos)=>
   if pos<s.size then .val (.p (.tuple [.bool true,.int .i64 pos,.int .i32 (Utf8.decode s pos).1])) (h.set id (.strIter s (pos+(Utf8.decode s pos).2)))
   else .val (.p (.tuple [.bool false])) h
  |_=>.stuck
 |_,_=>.stuck
def I1:PV->CK
 |.int _ _=>.int
 |.str _=>.str
 |_=>.bool
def lf:PV->PV->Option Bool
 |.int j a,.int k b=>if j=k then some (a==b) else none
 |.str a,.str b=>some (a==b)
 |.agg a,.agg b=>fx (a.map I1) a b
 |_,_=>none
def Dc (P:Program) (T:TypeId):Option CK:=match P.underlying T with|some .bool=>some .bool|some (.int _)=>some .int|some .string=>some .str|_=>none
def yh (P:Program):List Field->Nat->Option (List CK)
 |[],_=>some []
 |f::fs,n=>if f.name ≠ "_" /\ f.offset=n then(match Dc P f.type,yh P fs (n+1) with|some k,some r=>some (k::r)|_,_=>none) else none
def Bm (P:Program) (T:TypeId):Option (TypeId×TypeId):=match P.underlying T with|some (.map k e)=>some (k,e)|_=>none
inductive KK where
 |int|str|no|agg (ks:List CK)
def D9 (P:Program) (K:TypeId):KK:=match P.underlying K with
 |some (.int _)=>.int
 |some .string=>.str
 |some (.struct fs)=>if P.stoodInHeld K then .no else match yh P fs.toList 0 with|some ks=>.agg ks|none=>.no
 |_=>.no
def wW (P:Program) (K:TypeId) (k:PV):Bool:=match D9 P K,k with|.int,.int _ _=>true|.str,.str _=>true|.agg ks,.agg a=>(fx ks a a).isSome|_,_=>false
def nD (k:PV):List (PV×PV)->Option (Option PV)
 |[]=>some none
 |(q,v)::r=>match lf k q with|some true=>some (some v)|some false=>nD k r|none=>none
def p4 (k v:PV):List (PV×PV)->Option (List (PV×PV))
 |[]=>some [(k,v)]
 |(q,u)::r=>match lf k q with|some true=>some ((k,v)::r)|some false=>(p4 k v r).map ((q,u)::·)|none=>none
def JO (_:Program) (_:TypeId) (r:Option AV) (h:Heap):OR:=
 match r with
 |none=>.val (.ref .mp h.length) (h++[.mp []])
 |some _=>.stuck
def D4 (ok:Bool) (v:PV) (b:Bool) (h:Heap):OR:=.val (.p (if ok then .tuple [v,.bool b] else v)) h
def td (P:Program) (T:TypeId) (x k:AV) (ok:Bool) (h:Heap):OR:=
 match Bm P T,x,k with
 |some (K,E),.ref .mp id,.p k=>
  match h[id]?,bW P E with
  |some (.mp es),some z=>
   if wW P K k=true then
    match nD k es with
    |some (some v)=>D4 ok v true h
    |some none=>D4 ok z false h
    |none=>.stuck
   else .stuck
  |_,_=>.stuck
 |_,_,_=>.stuck
def sS (P:Program) (T:TypeId) (x k v:AV) (h:Heap):OR:=
 match Bm P T,x,k,v with
 |some (K,_),.ref .mp id,.p k,.p v=>
  match h[id]? with
  |some (.mp es)=>if wW P K k=true then(match p4 k v es with|some es'=>.skip (h.set id (.mp es'))|none=>.stuck) else .stuck
  |some (.memo f)=>if wW P K k=true/\f k v=true then .skip h else .stuck
  |_=>.stuck
 |_,_,_,_=>.stuck
def cv (P:Program) (mu:Nat->Bool) (o:Oper) (e:Operand->AV) (h:Heap):OR:=
 match o.op with
 |.move x=>.val (e x) h
 |.assign x=>.val (e x) h
 |.pick c a b=>match e c with|.p (.bool t)=>.val (if t then e a else e b) h|_=>.stuck
 |.alloc T=>if Iy P T=true then(match bW P T,Mb P T with|some (.agg [.nilptr,.nilslice]),some e=>.val (.ref .bl h.length) (h++[.bld T e (.p .nilslice)])|_,_=>.stuck) else match bW P T with|some z=>if(AV.p z).cells.isSome=true then .val (.ptr h.length 1 0 0) (h++[.row z.cells.length [.p z]]) else .stuck|none=>.stuck
 |.box _ x=>match (e x).cells with|some cs=>.val (.ptr h.length 1 0 0) (h++[.row cs.length [e x]])|none=>.stuck
 |.build T ps=>vO P T (ps.toList.map λq=>(q.1,e q.2)) h
 |.buildSlice T n ps=>mQ P T (match o.dst with|some d=>mu d|none=>false) n (ps.toList.map λq=>(q.1,e q.2)) h
 |.load T a=>qo P T (e a) h
 |.store T a x=>iZ P T (e a) (e x) h
 |.nilCheck x=>match e x with|.p (.ptr sz xs i o)=>.val (.p (.ptr sz xs i o)) h|.ptr id ver i o=>(match jh h id ver with|some _=>.val (.ptr id ver i o) h|none=>.stuck)|_=>.stuck
 |.binOp op T x y _=>EL P op T (m7 x||m7 y) (e x) (e y) h
 |.unOp op _ x=>Mg op (e x) h
 |.convert src dst x=>qX P src dst (e x) h
 |.makeInterface T x=>if qK P T=some false then match e x with|.p v=>.val (.p (.iface T v)) h|_=>.stuck else .stuck
 |.makeFunc fn first cap=>if(first.toList.map e).all AV.plain=true/\(cap.toList.map e).all AV.plain=true then .val (CC fn (first.toList.map e) (cap.toList.map e)) h else .stuck
 |.makeSlice T l c=>sT P T (e l) (e c) h
 |.slice T x lo hi mx=>vM P T (e x) (lo.map e) (hi.map e) (mx.map e) h
 |.fieldAddr T x f=>oe P T (e x) f h
 |.field T x f=>vN P T (e x) f h
 |.indexAddr T x i=>jL P T (e x) (e i) h
 |.index T x i=>zw P T (e x) (e i) h
 |.extract t i=>qW (e t) i h
 |.call c=>
  match c.callee with
  |.value f=>ip (e f) (c.args.toList.map e)
  |.builtin b=>tZ P b c.argTypes (c.args.toList.map e) h
  |.invoke _ _=>.stuck
 |.defer c=>
  match c.callee with
  |.value f=>zx (e f) (c.args.toList.map e)
  |_=>.stuck
 |.panic x=>match e x with|.p (.iface t v)=>.panic (.iface t v)|_=>.stuck
 |.typeAssert x _ A ok=>mO P A ok (e x) h
 |.range T x=>Dr P T (e x) h
 |.next i isStr=>G6 isStr (e i) h
 |.makeMap T r=>JO P T (r.map e) h
 |.lookup T x k ok=>td P T (e x) (e k) ok h
 |.mapUpdate T m k v=>sS P T (e m) (e k) (e v) h
 |_=>.stuck
inductive AEnd where
 |ret (v:AV)
 |panic (v:PV)
inductive Ex where
 |normal
 |exit (id:Nat)
 |ret
 |panic (v:PV)
def s6 (A:AAct) (d:Option Tmp) (want:Bool):Option Bool:=
 match d with
 |none=>some false
 |some d=>match A.tmps d with|.p (.bool b)=>some (b==want)|.p (.tuple _)=>some false|_=>none
def bU (ops:Array Oper) (A:AAct) (o:Oper):Option Bool:=
 match o.guard with
 |none=>some true
 |some (j,want)=>s6 A ((ops[j]?).bind (·.dst)) want
def J5 (b:Bool) (X Y:Unit->Prop):Prop:=(b=true->X ())/\(b=false->Y ())
def w_{P:Prop}(h:P:=by first|rfl|exact .inl rfl|exact⟨_,_,rfl,rfl,.inr ⟨rfl,1,rfl⟩,.inl rfl,.inl rfl,trivial⟩|exact⟨_,_,rfl,rfl,.inr ⟨rfl,1,rfl⟩,.inl rfl,trivial⟩|exact⟨_,_,rfl,rfl,.inl rfl,.inl rfl,trivial⟩|exact .inl (.inl rfl)|exact .inl (.inr ⟨rfl,1,rfl⟩)|exact .inr ⟨_,_,rfl,rfl,.inl rfl,.inl rfl,trivial⟩|exact .inr ⟨_,_,rfl,rfl,.inr ⟨rfl,1,rfl⟩,.inl rfl,trivial⟩|exact⟨1,rfl⟩|(simp;done)|(refine .inr ⟨_,_,rfl,rfl,?_⟩;repeat' (first|exact trivial|exact .inl rfl|exact .inr ⟨rfl,1,rfl⟩|refine⟨?_,?_⟩))):P:=h
def l_{A}{o:Option A}{b c}(h:o=some b)(e:b=c:=by kernel_rfl):o=some c:=h.trans (congrArg some e)
def zm {P Q:Prop}(q:Q)(h:Q->P:=by intro q;simp only[go_sem,simprocAttr];exact q):P:=h q
def zn {A P Q:Prop}(a:A)(q:Q)(h:A->Q->P:=by intro a q;simp only[a,go_sem,simprocAttr];exact q):P:=h a q
def zo {A B P Q:Prop}(a:A)(b:B)(q:Q)(h:A->B->Q->P:=by intro a b q;simp only[a,b,go_sem,simprocAttr];exact q):P:=h a b q
def zp {A B C P Q:Prop}(a:A)(b:B)(c:C)(q:Q)(h:A->B->C->Q->P:=by intro a b c q;simp only[a,b,c,go_sem,simprocAttr];exact q):P:=h a b c q
def s_ {A B C D P Q:Prop}(a:A)(b:B)(c:C)(d:D)(q:Q)(h:A->B->C->D->Q->P:=by intro a b c d q;simp only[a,b,c,d,go_sem,simprocAttr];exact q):P:=h a b c d q
def t_ {A B C D E P Q:Prop}(a:A)(b:B)(c:C)(d:D)(e:E)(q:Q)(h:A->B->C->D->E->Q->P:=by intro a b c d e q;simp only[a,b,c,d,e,go_sem,simprocAttr];exact q):P:=h a b c d e q
inductive RepP (M:Nat->Prop) (w:World):Value->PV->Prop
 |bool (b:Bool):RepP M w (.bool b) (.bool b)
 |int (k:IntKind) (n:Int):RepP M w (.int k n) (.int k n)
 |str (s:ByteArray):RepP M w (.string s) (.str s)
 |agg {C:Array Value} {cs:List PV} (hn:C.size=cs.length) (hs:∀c,c∈cs->c.isCell=true)
   (h:∀(i:Nat) (c:PV),cs[i]?=some c->RepP M w (C.getD i undef) c):RepP M w (.agg C) (.agg cs)
 |tuple {C:Array Value} {cs:List PV} (hn:C.size=cs.length)
   (h:∀(i:Nat) (c:PV),cs[i]?=some c->RepP M w (C.getD i undef) c):RepP M w (.tuple C) (.tuple cs)
 |slice {b off len cap sz:Nat} {xs:List PV} {full:Bool} (f:Nat->Value) (hlen:len=xs.length) (hcap:len<=cap) (hfull:full=true->cap=len)
   (hsz:∀x,x∈xs->x.cells.length=sz/\∀c,c∈x.cells->c.isCell=true)
   (hM:xs.length*sz≠0->¬M b)
   (hc:∀k,k<xs.length*sz->w.cell? ⟨b,off+k,none⟩=some (f k))
   (hr:∀(i j:Nat) (x c:PV),xs[i]?=some x->x.cells[j]?=some c->RepP M w (f (i*sz+j)) c) :
   RepP M w (.slice (some ⟨b,off,none⟩) len cap) (.slice sz xs full)
 |empty {a:Option Addr} {cap sz:Nat} {full:Bool} (hfull:full=true->cap=0):RepP M w (.slice a 0 cap) (.slice sz [] full)
 |nilslice:RepP M w (.slice none 0 0) .nilslice
 |ptr {b off sz:Nat} {xs:List PV} {i o at_:Nat} (f:Nat->Value) (hat:at_=off+i*sz+o)
   (hsz:∀x,x∈xs->x.cells.length=sz/\∀c,c∈x.cells->c.isCell=true)
   (hM:xs.length*sz≠0->¬M b)
   (hc:∀k,k<xs.length*sz->w.cell? ⟨b,off+k,none⟩=some (f k))
   (hr:∀(i j:Nat) (x c:PV),xs[i]?=some x->x.cells[j]?=some c->RepP M w (f (i*sz+j)) c) :
   RepP M w (.pointer (some ⟨b,at_,none⟩)) (.ptr sz xs i o)
 |nilptr:RepP M w (.pointer none) .nilptr
 |func {fn:Fn} {F C:Array Value} {first cap:List PV} (hf:F.size=first.length) (hc:C.size=cap.length)
   (h1:∀(i:Nat) (c:PV),first[i]?=some c->RepP M w (F.getD i undef) c)
   (h2:∀(i:Nat) (c:PV),cap[i]?=some c->RepP M w (C.getD i undef) c):RepP M w (.func fn F C) (.func fn first cap)
 |nilfunc:RepP M w .nilFunc .nilfunc
 |iface {t:TypeId} {v:Value} {q:PV} (h:RepP M w v q):RepP M w (.iface t v) (.iface t q)
 |niliface:RepP M w .nilIface .niliface
 |any {a:Option Addr}:RepP M w (.pointer a) .any
 |anyMap {r:Option Nat}:RepP M w (.map r) .any
def Own (m:List (Option Nat)) (b:Nat):Prop:=some b∈m
def Avoid (M0:Nat->Prop) (m:List (Option Nat)) (b:Nat):Prop:=M0 b\/Own m b
structure Mem where
 m:List (Option Nat)
 h:Heap
 w:World
def ei (S:Mem) (id ver:Nat) (X:Nat->Option Nat->Prop):Prop:=
 S.h[id]?=some .dead\/∃sz xs,S.h[id]?=some (.row sz xs)/\ver<=xs.length/\(xs.length=ver->X sz (S.m.getD id none))
def ZC (v:Value) (i o sz:Nat) (μ:Option Nat):Prop:=∃b,μ=some b/\v=.pointer (some ⟨b,i*sz+o,none⟩)
def sliceAt (w:World) (v:Value) (ver off len sz:Nat) (μ:Option Nat):Prop:=
 (len=0/\ver≠0/\off=ver/\∃a cap,v=.slice a 0 cap) \/
 (∃b cap T n,μ=some b/\v=.slice (some ⟨b,off*sz,none⟩) len cap/\(len<=cap/\off+len<=ver)/\w.shape? b=some (T,n)/\(off+cap)*sz<=n/\ver<=off+cap) \/
 (μ=none/\v=.slice none 0 0/\len=0)
def yj:RK->Nat->Value
 |.it,b=>.pointer (some ⟨b,0,none⟩)
 |.yl,b=>.func (.yield b) #[] #[]
 |.mp,b=>.map (some b)
 |.dk,b=>.pointer (some ⟨b,0,none⟩)
 |.bl,b=>.pointer (some ⟨b,0,none⟩)
def dw (M0:Nat->Prop) (S:Mem) (v:Value):AV->Prop
 |.p q=>RepP (Avoid M0 S.m) S.w v q
 |.ptr id ver i o=>(∃a,v=.pointer a)/\ei S id ver (ZC v i o)
 |.slice id ver off len=>(∃a n c,v=.slice a n c)/\ei S id ver (sliceAt S.w v ver off len)
 |.ref k id=>(∃b,v=yj k b)/\(S.h[id]?=some .dead\/(∃o,S.h[id]?=some o/\o.tag=some k)/\∃b,S.m.getD id none=some b/\v=yj k b)
 |.undef=>True
 |_=>False
def eD (R:Value->AV->Prop) (C:Array Value) (cs:List AV):Prop:=
 C.size=cs.length/\∀(i:Nat) (c:AV),cs[i]?=some c->R (C.getD i undef) c
def cb (M0:Nat->Prop) (S:Mem) (v:Value):AV->Prop
 |.func fn first cap=>∃F C,v=.func fn F C/\eD (dw M0 S) F first/\eD (dw M0 S) C cap
 |a=>dw M0 S v a
def eE (M0:Nat->Prop) (S:Mem) (v:Value):AV->Prop
 |.agg cs=>∃C,v=.agg C/\(∀c,c∈cs->c.isCell=true)/\eD (cb M0 S) C cs
 |a=>cb M0 S v a
def Rep (M0:Nat->Prop) (S:Mem) (v:Value):AV->Prop
 |.tuple cs=>∃C,v=.tuple C/\eD (eE M0 S) C cs
 |a=>eE M0 S v a
def i7 (R:Value->AV->Prop):List MapEntry->List (PV×PV)->Prop
 |[],[]=>True
 |e::C,p::es=>R e.key (.p p.1)/\R e.val (.p p.2)/\i7 R C es
 |_,_=>False
def i7.mono{R e}(h:∀v a,R v a->e v a):∀{C} {es},i7 R C es->i7 e C es
 |[],[],_=>trivial
 |_::_,_::_,k=>⟨h _ _ k.1,h _ _ k.2.1,i7.mono h k.2.2⟩
 |[],_::_,k=>k.elim
 |_::_,[],k=>k.elim
def i7.monoP{R e}(h:∀v (q),R v (.p q)->e v (.p q)):∀{C} {es},i7 R C es->i7 e C es
 |[],[],_=>trivial
 |_::_,_::_,k=>⟨h _ _ k.1,h _ _ k.2.1,i7.monoP h k.2.2⟩
 |[],_::_,k=>k.elim
 |_::_,[],k=>k.elim
def qr (f:PV->PV->Bool):Prop:=∀k q v u,f k v=true->f q u=true->∃b,lf k q=some b/\(b=true->k=q)
def ObjOk (P:Program) (M0:Nat->Prop) (S:Mem) (μ:Option Nat):AObj->Prop
 |.row sz xs=>(μ=none/\xs=[])\/∃b T C,μ=some b/\S.w.heap[b]?=some (.cells C T (0,0))/\xs.length*sz<=C.size /\
   ∀(i:Nat) (x:AV),xs[i]?=some x->∃cs,x.cells=some cs/\cs.length=sz/\∀(j:Nat) (c:AV),cs[j]?=some c->c.isCell=true/\cb M0 S (C.getD (i*sz+j) undef) c
 |.strIter s pos=>∃b,μ=some b/\S.w.heap[b]?=some (.stringIter s pos)
 |.mp es=>∃b C clk,μ=some b/\S.w.heap[b]?=some (.map C clk)/\i7 (cb M0 S) C.toList es
 |.memo f=>qr f/\∃es:List (PV×PV),(∀p,p∈es->f p.1 p.2=true)/\∃b C clk,μ=some b/\S.w.heap[b]?=some (.map C clk)/\i7 (cb M0 S) C.toList es
 |.loop n tmps ps assign body st pend=>∃b r,μ=some b/\S.w.heap[b]?=some (.loop r)/\r.tmps.size=n/\(∀t,Rep M0 S (r.tmps.getD t undef) (tmps t)) /\
   r.params=ps/\r.assign=assign/\r.body=body/\r.state=st/\r.pending=pend/\∃fn,P.funcs[r.fn]?=some fn
 |.dblock=>∃b,μ=some b/\S.w.heap[b]?=some (.deferred (some []))
 |.bld T e x=>∃b p v,μ=some b/\S.w.heap[b]?=some (.cells #[p,v] T (0,0))/\(p=.pointer none\/p=.pointer (some ⟨b,0,none⟩))/\(x=.p .nilslice\/∃j n,x=.slice j n 0 n)/\dw M0 S v x /\
   ∀a n c,v=.slice (some a) n c->∃N,S.w.shape? a.block=some (e,N)
 |.dead=>True
def Nz (P:Program) (b:Nat):Prop:=
 P.globalNamed "internal/strconv.uint64pow10" = some b\/P.globalNamed "strconv.ErrSyntax" = some b\/P.globalNamed "strconv.ErrRange" = some b
def vU (P:Program) (w:World):Prop:=
 (∀b,P.globalNamed "internal/strconv.uint64pow10" = some b->Lib.TabIs P w "internal/strconv.uint64pow10" .u64 Lib.pow10Tab) /\
 (∀b,P.globalNamed "strconv.ErrSyntax" = some b->∃tp p,w.var? P "strconv.ErrSyntax" = some #[.iface tp p]) /\
 (∀b,P.globalNamed "strconv.ErrRange" = some b->∃tp p,w.var? P "strconv.ErrRange" = some #[.iface tp p])
def vU.same{P}{w w'}(h:vU P w)(l:∀b,Nz P b->w'.heap[b]?=w.heap[b]?):vU P w':=by
 have i:∀n b,P.globalNamed n=some b->w'.heap[b]?=w.heap[b]?->w'.var? P n=w.var? P n:=by
  intro n b e q;simp only[World.var?,e,iv,q]
 refine⟨λb e=>?_,λb e=>?_,λb e=>?_⟩
 .have:=h.1 b e;unfold Lib.TabIs at this |-;rwa [i _ b e (l b (.inl e))]
 .obtain⟨j,p,h⟩:=h.2.1 b e;exact⟨j,p,by rwa [i _ b e (l b (.inr (.inl e)))]⟩
 .obtain⟨j,p,h⟩:=h.2.2 b e;exact⟨j,p,by rwa [i _ b e (l b (.inr (.inr e)))]⟩
def Hj{P}{w:World}{n}{b}{x}(e:P.globalNamed n=some b)(h:w.var? P n=some x):b<w.heap.size:=by
 simp only[World.var?,e,iv]at h;grind
def vU.lt{P}{w}(h:vU P w){b}(e:Nz P b):b<w.heap.size:=by
 rcases e with e|e|e
 .exact Hj e (h.1 b e)
 .obtain⟨_,_,h⟩:=h.2.1 b e;exact Hj e h
 .obtain⟨_,_,h⟩:=h.2.2 b e;exact Hj e h
def Glob (P:Program) (S:Mem):Prop:=vU P S.w/\∀b,Nz P b->¬Own S.m b
structure HOk (P:Program) (M0:Nat->Prop) (S:Mem):Prop where
 len:S.m.length=S.h.length
 lt:∀b,Own S.m b->b<S.w.heap.size
 m0:∀b,M0 b->b<S.w.heap.size/\¬Own S.m b
 inj:∀(i j b:Nat),S.m[i]?=some (some b)->S.m[j]?=some (some b)->i=j
 obj:∀id o,S.h[id]?=some o->ObjOk P M0 S (S.m.getD id none) o
 gl:Glob P S
structure Fr (m:List (Option Nat)) (w w':World):Prop where
 os:w'.os=w.os
 tape:w'.tape=w.tape
 output:w'.output=w.output
 size:w.heap.size<=w'.heap.size
 block:∀b,b<w.heap.size->¬Own m b->w'.heap[b]?=w.heap[b]?
 shape:∀b,b<w.heap.size->w'.shape? b=w.shape? b
def ObjEv (μ:Option Nat) (o:AObj) (μ':Option Nat) (o':AObj):Prop:=
 o'=.dead \/
 (∃sz xs xs',o=.row sz xs/\o'=.row sz xs'/\((xs'.length=xs.length/\μ'=μ)\/xs.length<xs'.length)) \/
 (o.tag≠none/\o'.tag=o.tag/\μ'=μ)
structure Ev (base:Nat) (S S':Mem):Prop where
 fr:Fr S.m S.w S'.w
 sub:∀b,Own S'.m b->Own S.m b\/S.w.heap.size<=b
 obj:∀id o,id<base->S.h[id]?=some o->∃o',S'.h[id]?=some o'/\ObjEv (S.m.getD id none) o (S'.m.getD id none) o'
def Glob.fr{P}{S i}(h:Glob P S)(q:∀b,b<S.w.heap.size->¬Own S.m b->i.w.heap[b]?=S.w.heap[b]?)(j:∀b,Own i.m b->Own S.m b\/S.w.heap.size<=b):Glob P i:=
 ⟨h.1.same λb e=>q b (h.1.lt e) (h.2 b e),λb e l=>(j b l).elim (h.2 b e) λk=>by have:=h.1.lt e;omega⟩
def Ev.glob{P}{base}{S i}(e:Ev base S i)(h:Glob P S):Glob P i:=h.fr e.fr.block e.sub
def Fr.refl(m)(w):Fr m w w:=⟨rfl,rfl,rfl,ba _,λ_ _ _=>rfl,λ_ _=>rfl⟩
def ObjEv.refl(μ)(o):ObjEv μ o μ o:=by
 cases o with
 |row sz xs=>grind[ObjEv]
 |dead=>exact .inl rfl
 |_=>exact .inr (.inr ⟨by simp[AObj.tag],rfl,rfl⟩)
def ObjEv.trans{μ q i}{o u j}(h:ObjEv μ o q u)(k:ObjEv q u i j):ObjEv μ o i j:=by
 rcases k with rfl|⟨sz,xs,xs',rfl,rfl,k⟩|⟨k1,v,rfl⟩
 .exact .inl rfl
 .rcases h with h|⟨z,ys,y,rfl,h,h'⟩|⟨e,l,h⟩
  .cases h
  .grind[ObjEv]
  .exact absurd l.symm e
 .rcases h with rfl|⟨_,_,_,rfl,rfl,_⟩|⟨e,l,h⟩
  .exact absurd rfl k1
  .exact absurd rfl k1
  grind[ObjEv]
def Ev.refl(base)(S):Ev base S S:=⟨Fr.refl _ _,λ_ h=>.inl h,λ_ o _ h=>⟨o,h,ObjEv.refl _ _⟩⟩
def Ev.trans{base:Nat}{S T U:Mem}(h:Ev base S T)(k:Ev base T U):Ev base S U where
 fr:=
  {os:=k.fr.os.trans h.fr.os
   tape:=k.fr.tape.trans h.fr.tape
   output:=k.fr.output.trans h.fr.output
   size:=fP h.fr.size k.fr.size
   block:=λb e y=>by
    have D:=h.fr.block b e y;have C:¬Own T.m b:=λl=>by
     rcases h.sub b l with h'|h'
     .exact y h'
     .omega
    exact(k.fr.block b (iy e h.fr.size) C).trans D
   shape:=λb e=>(k.fr.shape b (iy e h.fr.size)).trans (h.fr.shape b e) }
 sub:=λb e=>by
  rcases k.sub b e with h'|h'
  .exact h.sub b h'
  .exact .inr (fP h.fr.size h')
 obj:=λid o i l=>by
  obtain⟨z,u,A⟩:=h.obj id o i l;obtain⟨q,j,v⟩:=k.obj id z i u;exact⟨q,j,A.trans v⟩
def Ev.mono{base e}{S T}(h:Ev base S T)(l:e<=base):Ev e S T:=
 ⟨h.fr,h.sub,λid o j i=>h.obj id o (by omega) i⟩
def RepP.mono{M G}{w w'}{v}{q}(h:RepP M w v q)
  (R:∀b,b<w.heap.size->¬M b->w'.heap[b]?=w.heap[b]?) (S:∀b,G b->M b\/w.heap.size<=b):RepP G w' v q:=by
 have cells:∀(b off n:Nat) (f:Nat->Value),(n≠0->¬M b)->(∀k,k<n->w.cell? ⟨b,off+k,none⟩=some (f k)) ->
   (n≠0->¬G b)/\∀k,k<n->w'.cell? ⟨b,off+k,none⟩=some (f k):=by
  intro b off n f z y;by_cases j:n=0
  .grind
  .have K:b<w.heap.size:=World.block_lt_of_cell? (a:=⟨b,off+0,none⟩) w (y 0 (by omega));refine⟨λ_ A=>?_,λk N=>?_⟩
   .grind
   .rw[<-y k N];simp only[World.cell?,R b K (z j)]
 induction h with
 |bool b=>exact .bool b
 |int k n=>exact .int k n
 |str s=>exact .str s
 |agg j O _ i=>exact .agg j O i
 |tuple j _ i=>exact .tuple j i
 |slice f D E u l A C _ i=>
  obtain⟨z,y⟩:=cells _ _ _ f A C
  exact .slice f D E u l z y i
 |empty F=>exact .empty F
 |nilslice=>exact .nilslice
 |ptr f L l A C _ i=>
  obtain⟨z,y⟩:=cells _ _ _ f A C
  exact .ptr f L l z y i
 |nilptr=>exact .nilptr
 |func F C _ _ J I=>exact .func F C J I
 |nilfunc=>exact .nilfunc
 |iface _ i=>exact .iface i
 |niliface=>exact .niliface
 |any=>exact .any
 |anyMap=>exact .anyMap
def RepP.less{M e}{w}{v}{q}(h:RepP M w v q)(j:∀b,e b->M b):RepP e w v q:=
 h.mono (λ_ _ _=>rfl) (λb i=>.inl (j b i))
def fb (n:Nat):AV->Prop
 |.ptr id _ _ _=>id<n
 |.slice id _ _ _=>id<n
 |.ref _ id=>id<n
 |_=>True
def gn (n:Nat):AV->Prop
 |.func _ first cap=>(∀c,c∈first->fb n c)/\∀c,c∈cap->fb n c
 |a=>fb n a
def iD (n:Nat):AV->Prop
 |.agg cs=>∀c,c∈cs->gn n c
 |a=>gn n a
def below (n:Nat):AV->Prop
 |.tuple cs=>∀c,c∈cs->iD n c
 |a=>iD n a
def Ev.live{base}{S A}(e:Ev base S A){id l}{X}(h:ei S id l X)(q:id<base)
  {Y} (z:∀sz,X sz (S.m.getD id none)->Y sz (S.m.getD id none)):ei A id l Y:=by
 rcases h with h|⟨sz,xs,h,G,hx⟩
 .obtain⟨D,j,i⟩:=e.obj id _ q h;rcases i with rfl|⟨_,_,_,i,_⟩|⟨i,_⟩
  .exact .inl j
  .cases i
  .exact absurd rfl i
 .obtain⟨D,j,i⟩:=e.obj id _ q h;rcases i with rfl|⟨F,ys,y,i,rfl,u⟩|⟨i,_⟩
  .exact .inl j
  .grind[ei]
  .exact absurd rfl i
def Ev.avoid{base}{S i}(e:Ev base S i)(M0)(b)(h:Avoid M0 i.m b):Avoid M0 S.m b\/S.w.heap.size<=b:=by
 rcases h with h|h
 .grind[Avoid]
 .rcases e.sub b h with h'|h'
  .grind[Avoid]
  omega
def Ev.repP{base}{S i}(e:Ev base S i){M0}{v}{q}(h:RepP (Avoid M0 S.m) S.w v q):RepP (Avoid M0 i.m) i.w v q:=
 h.mono (λb u l=>e.fr.block b u (λj=>l (.inr j))) (e.avoid M0)
def tu{w:World}{b T n}(h:w.shape? b=some (T,n)):b<w.heap.size:=by
 unfold World.shape? at h;grind
def Ev.rep0{base}{S F}(e:Ev base S F){M0}{v}{a}(h:dw M0 S v a)(y:fb base a):dw M0 F v a:=by
 cases a with
 |p q=>exact e.repP h
 |ptr id D i o=>exact⟨h.1,e.live h.2 y λ_ hx=>hx⟩
 |slice id D off len=>
  refine⟨h.1,e.live h.2 y λsz hx=>?_⟩;rcases hx with hx|⟨b,cap,T,n,J,u,C,A,z⟩|hx
  .exact .inl hx
  .exact .inr (.inl ⟨b,cap,T,n,J,u,C,(e.fr.shape b (tu A)).trans A,z⟩)
  grind[sliceAt]
 |ref k id=>
  refine⟨h.1,?_⟩;rcases h.2 with u|⟨⟨o,u,z⟩,b,C,A⟩
  .obtain⟨G,j,l⟩:=e.obj id _ y u;rcases l with rfl|⟨_,_,_,l,_⟩|⟨l,_⟩
   .exact .inl j
   .cases l
   .exact absurd rfl l
  .obtain⟨G,j,l⟩:=e.obj id _ y u;rcases l with rfl|⟨_,_,_,rfl,_⟩|⟨L,I,E⟩
   .exact .inl j
   .cases z
   grind
 |agg cs=>exact h.elim
 |func fn f c=>exact h.elim
 |tuple K=>exact h.elim
 |undef=>exact trivial
def eD.imp{R e}{C}{cs}(h:eD R C cs)(j:∀v c,c∈cs->R v c->e v c):eD e C cs:=
 ⟨h.1,λi c hi=>j _ c (aB hi) (h.2 i c hi)⟩
def Ev.repS{base}{S q}(e:Ev base S q){M0}{v}{a}(h:cb M0 S v a)(i:gn base a):cb M0 q v a:=by
 cases a with
 |func fn f c=>
  obtain⟨F,C,rfl,y,u⟩:=h
  exact⟨F,C,rfl,y.imp λv c l j=>e.rep0 j (i.1 c l),u.imp λv c l j=>e.rep0 j (i.2 c l)⟩
 |_=>first|exact False.elim h|exact Ev.rep0 e (M0:=M0) (v:=v) (a:=.p _) h i|exact Ev.rep0 e (M0:=M0) (v:=v) (a:=.ptr _ _ _ _) h i|exact Ev.rep0 e (M0:=M0) (v:=v) (a:=.slice _ _ _ _) h i|exact Ev.rep0 e (M0:=M0) (v:=v) (a:=.ref _ _) h i|exact Ev.rep0 e (M0:=M0) (v:=v) (a:=.agg _) h i|exact Ev.rep0 e (M0:=M0) (v:=v) (a:=.tuple _) h i|exact Ev.rep0 e (M0:=M0) (v:=v) (a:=.undef) h i|exact Ev.rep0 e (M0:=M0) (v:=v) (a:=.func _ _ _) h i
def Ev.repA{base}{S j}(e:Ev base S j){M0}{v}{a}(h:eE M0 S v a)(i:iD base a):eE M0 j v a:=by
 cases a with
 |agg cs=>
  obtain⟨C,rfl,y,u⟩:=h
  exact⟨C,rfl,y,u.imp λv c q l=>e.repS l (i c q)⟩
 |_=>first|exact False.elim h|exact Ev.repS e (M0:=M0) (v:=v) (a:=.p _) h i|exact Ev.repS e (M0:=M0) (v:=v) (a:=.ptr _ _ _ _) h i|exact Ev.repS e (M0:=M0) (v:=v) (a:=.slice _ _ _ _) h i|exact Ev.repS e (M0:=M0) (v:=v) (a:=.ref _ _) h i|exact Ev.repS e (M0:=M0) (v:=v) (a:=.agg _) h i|exact Ev.repS e (M0:=M0) (v:=v) (a:=.tuple _) h i|exact Ev.repS e (M0:=M0) (v:=v) (a:=.undef) h i|exact Ev.repS e (M0:=M0) (v:=v) (a:=.func _ _ _) h i
def Ev.rep{base}{S j}(e:Ev base S j){M0}{v}{a}(h:Rep M0 S v a)(i:below base a):Rep M0 j v a:=by
 cases a with
 |tuple cs=>
  obtain⟨C,rfl,u⟩:=h
  exact⟨C,rfl,u.imp λv c q l=>e.repA l (i c q)⟩
 |_=>first|exact False.elim h|exact Ev.repA e (M0:=M0) (v:=v) (a:=.p _) h i|exact Ev.repA e (M0:=M0) (v:=v) (a:=.ptr _ _ _ _) h i|exact Ev.repA e (M0:=M0) (v:=v) (a:=.slice _ _ _ _) h i|exact Ev.repA e (M0:=M0) (v:=v) (a:=.ref _ _) h i|exact Ev.repA e (M0:=M0) (v:=v) (a:=.agg _) h i|exact Ev.repA e (M0:=M0) (v:=v) (a:=.tuple _) h i|exact Ev.repA e (M0:=M0) (v:=v) (a:=.undef) h i|exact Ev.repA e (M0:=M0) (v:=v) (a:=.func _ _ _) h i
def wT{S}{id e}{X}(h:ei S id e X):id<S.h.length:=by
 rcases h with h|⟨_,_,h,_⟩
 .grind
 grind
def iO{M0}{S}{v}{a}(h:dw M0 S v a):fb S.h.length a:=by
 cases a with
 |ptr id e i o=>exact wT h.2
 |slice id e off len=>exact wT h.2
 |ref k id=>
  rcases h.2 with j|⟨⟨_,j,_⟩,_⟩<;>exact(aC.1 j).1
 |_=>exact trivial
def eD.mem{R}{C}{cs}(h:eD R C cs){c}(e:c∈cs):∃v,R v c:=by
 obtain⟨i,hi⟩:=fN e;exact⟨_,h.2 i c hi⟩
def gq{M0}{S}{v}{a}(h:cb M0 S v a):gn S.h.length a:=by
 cases a with
 |func fn f c=>
  obtain⟨F,C,rfl,y,u⟩:=h
  exact⟨λc l=>let ⟨_,j⟩:=y.mem l;iO j,λc l=>let ⟨_,j⟩:=u.mem l;iO j⟩
 |p q=>exact trivial
 |ptr id e i o=>exact iO (M0:=M0) (v:=v) (show dw M0 S v (.ptr id e i o) from h)
 |slice id e off len=>exact iO (M0:=M0) (v:=v) (show dw M0 S v (.slice id e off len) from h)
 |ref k id=>exact iO (M0:=M0) (v:=v) (show dw M0 S v (.ref k id) from h)
 |agg cs=>exact trivial
 |tuple cs=>exact trivial
 |undef=>exact trivial
def jC{M0}{S}{v}{a}(h:eE M0 S v a):iD S.h.length a:=by
 cases a with
 |agg cs=>
  obtain⟨C,rfl,_,j⟩:=h
  exact λc i=>let ⟨_,e⟩:=j.mem i;gq e
 |_=>first|exact False.elim h|exact gq (M0:=M0) (S:=S) (v:=v) (a:=.p _) h|exact gq (M0:=M0) (S:=S) (v:=v) (a:=.ptr _ _ _ _) h|exact gq (M0:=M0) (S:=S) (v:=v) (a:=.slice _ _ _ _) h|exact gq (M0:=M0) (S:=S) (v:=v) (a:=.ref _ _) h|exact gq (M0:=M0) (S:=S) (v:=v) (a:=.agg _) h|exact gq (M0:=M0) (S:=S) (v:=v) (a:=.tuple _) h|exact gq (M0:=M0) (S:=S) (v:=v) (a:=.undef) h|exact gq (M0:=M0) (S:=S) (v:=v) (a:=.func _ _ _) h
def E'{M0}{S}{v}{a}(h:Rep M0 S v a):below S.h.length a:=by
 cases a with
 |tuple cs=>
  obtain⟨C,rfl,j⟩:=h
  exact λc i=>let ⟨_,e⟩:=j.mem i;jC e
 |_=>first|exact False.elim h|exact jC (M0:=M0) (S:=S) (v:=v) (a:=.p _) h|exact jC (M0:=M0) (S:=S) (v:=v) (a:=.ptr _ _ _ _) h|exact jC (M0:=M0) (S:=S) (v:=v) (a:=.slice _ _ _ _) h|exact jC (M0:=M0) (S:=S) (v:=v) (a:=.ref _ _) h|exact jC (M0:=M0) (S:=S) (v:=v) (a:=.agg _) h|exact jC (M0:=M0) (S:=S) (v:=v) (a:=.tuple _) h|exact jC (M0:=M0) (S:=S) (v:=v) (a:=.undef) h|exact jC (M0:=M0) (S:=S) (v:=v) (a:=.func _ _ _) h
def Ev.keep{S i}(e:Ev S.h.length S i){M0}{v}{a}(h:Rep M0 S v a):Rep M0 i v a:=e.rep h (E' h)
def Ev.keepS{S i}(e:Ev S.h.length S i){M0}{v}{a}(h:cb M0 S v a):cb M0 i v a:=e.repS h (gq h)
def jt (M0:Nat->Prop) (S:Mem) (g:Nat->Value) (cs:List AV):Prop:=
 ∀(j:Nat) (c:AV),cs[j]?=some c->c.isCell=true/\cb M0 S (g j) c
def qF{M0}{S}{v}{c}(e:c.isCell=true)(h:cb M0 S v c):Rep M0 S v c:=by
 cases c with
 |agg cs=>simp[AV.isCell]at e
 |tuple cs=>simp[AV.isCell]at e
 |undef=>simp[AV.isCell]at e
 |_=>exact h
def qG{M0}{S}{v}{c}(h:eE M0 S v c):Rep M0 S v c:=by
 cases c with
 |tuple cs=>exact False.elim h
 |_=>exact h
def pV{M0}{S}{v}{c}(e:c.isCell=true)(h:cb M0 S v c):v.oneCell'=true:=by
 cases c with
 |p q=>
  have h':RepP (Avoid M0 S.m) S.w v q:=h
  cases h' with
  |agg=>simp[AV.isCell,PV.isCell]at e
  |tuple=>simp[AV.isCell,PV.isCell]at e
  |_=>rfl
 |ptr id j i o=>obtain⟨⟨a,rfl⟩,_⟩:=h;rfl
 |slice id j off len=>obtain⟨⟨a,_,_,rfl⟩,_⟩:=h;rfl
 |ref k id=>obtain⟨⟨a,rfl⟩,_⟩:=h;cases k<;>rfl
 |func fn f c=>obtain⟨F,C,rfl,_⟩:=h;rfl
 |agg cs=>simp[AV.isCell]at e
 |tuple cs=>simp[AV.isCell]at e
 |undef=>simp[AV.isCell]at e
def getD_some{α:Type}{C:Array α}{i}{d x}(h:C[i]?=some x):C.getD i d=x:=by
 simp_all
def kB{M0}{S}{v}{x}{cs}(h:Rep M0 S v x)(hx:x.cells=some cs) :
  v.cells.size=cs.length/\jt M0 S (λj=>v.cells.getD j undef) cs:=by
 have one:∀{c:AV},c.isCell=true->cb M0 S v c->v.cells=#[v]:=by
  intro c u i;have:=pV u i;cases v<;>first|rfl|simp[Value.oneCell']at this
 have single:∀{c:AV},c.isCell=true->cb M0 S v c->v.cells.size=[c].length/\jt M0 S (λj=>v.cells.getD j undef) [c]:=by
  intro c u i;rw[one u i];refine⟨rfl,λj d e=>?_⟩
  cases j with
  |zero=>simp_all
  |succ j=>simp at e
 cases x with
 |p q=>
  cases q with
  |agg l=>
   simp[AV.cells,PV.cells]at hx;subst hx;have h':RepP (Avoid M0 S.m) S.w v (.agg l):=h
   cases h' with
   |agg A z i=>
    refine⟨by simpa[Value.cells]using A,λj c e=>?_⟩;simp only[cX,bg]at e;obtain⟨q,y,rfl⟩:=e
    exact⟨z q (aB y),i j q y⟩
  |tuple l=>simp[AV.cells]at hx
  |_=>(simp[AV.cells,PV.cells]at hx;subst hx;exact single rfl h)
 |agg l=>
  simp[AV.cells]at hx;subst hx;obtain⟨C,rfl,F,E,D⟩:=h
  exact⟨E,λj c e=>⟨F c (aB e),D j c e⟩⟩
 |tuple l=>simp[AV.cells]at hx
 |undef=>simp[AV.cells]at hx
 |_=>(simp[AV.cells]at hx;subst hx;exact single rfl h)
def kD:∀{cs} {l},iP cs=some l->cs=l.map .p
 |[],l,h=>by simp[iP]at h;subst h;rfl
 |c::r,l,h=>by
  cases c with
  |p v=>
   simp only[iP]at h;split at h
   .rename_i i e;cases h;rw[kD e];rfl
   .cases h
  |_=>simp[iP]at h
def yw{M0}{S}{C}{cs}(q:C.size=cs.length)(h:jt M0 S (λj=>C.getD j undef) cs):eE M0 S (.agg C) (sG cs):=by
 unfold sG
 cases u:iP cs with
 |some l=>
  have:=kD u;subst this;refine .agg (by simpa using q) (λc e=>?_) (λi c hi=>?_)
  .obtain⟨i,hi⟩:=fN e;exact(h i (.p c) (by simp[hi])).1
  .exact(h i (.p c) (by simp[hi])).2
 |none=>exact⟨C,rfl,λc e=>(let ⟨i,hi⟩:=fN e;(h i c hi).1),q,λi c hi=>(h i c hi).2⟩
def Kw{M0}{S}{C}{cs}(h:eD (eE M0 S) C cs):Rep M0 S (.tuple C) (s4 cs):=by
 unfold s4
 cases e:iP cs with
 |some l=>
  have:=kD e;subst this
  exact .tuple (by simpa using h.1) (λi c hi=>h.2 i (.p c) (by simp[hi]))
 |none=>exact⟨C,rfl,h⟩
def aR{M0}{S}{v}{q}(h:RepP (Avoid M0 S.m) S.w v q):Rep M0 S v (.p q):=h
variable {P:Program}
def lX{T}{g}(h:dp P T=some g)(w):(isAgg T).run P w=.ok g w:=by
 unfold dp at h;unfold isAgg
 cases e:P.underlying T with
 |none=>simp[e]at h
 |some d=>
  rw[Sem.run_bind,run_underlying e w];cases d<;>simp[e]at h<;>subst h<;>rfl
def cj{T}{n}(h:du P T=some n)(w):(sizeOf T).run P w=.ok n w:=by
 unfold du at h
 cases hi:P.info? T with
 |none=>simp[hi]at h
 |some i=>simp[hi]at h;subst h;simp[sizeOf,typeInfo,hi]
def ww{T}{n}(h:rZ P T=some n)(w):∃i,(typeInfo T).run P w=.ok i w/\i.bytes=n:=by
 unfold rZ at h
 cases hi:P.info? T with
 |none=>simp[hi]at h
 |some i=>simp[hi]at h;exact⟨i,by simp[typeInfo,hi],h⟩
def gI(b o n):(⟨b,o,none⟩:Addr).add n=⟨b,o+n,none⟩:=by
 unfold Addr.add;simp
def HD{T}{g}{n}(l:dp P T=some g)(e:du P T=some n)(w)(b at_)(f)
  (q:g=true->∀j,j<n->w.cell? ⟨b,at_+j,none⟩=some (f j)) (u:g=false->w.cell? ⟨b,at_,none⟩=some (f 0)) :
  (loadVar T ⟨b,at_,none⟩).run P w=.ok (if g then .agg ((List.range n).map f).toArray else f 0) w:=by
 unfold loadVar;rw[Sem.run_bind,lX l w]
 cases g with
 |true=>
  have:=run_loadCells (P:=P) w ⟨b,at_,none⟩ n f (λj i=>by rw[gI];grind)
  simp[Sem.run_bind,cj e w,this]
 |false=>simp[u rfl]
def jN(f)(n j)(h:j<n):(((List.range n).map f).toArray).getD j undef=f j:=by
 simp[h]
def I3{M0}{S}{g}{cs}(h:jt M0 S g cs)(o n):jt M0 S (λj=>g (o+j)) (sub o n cs):=by
 grind[jt,sub]
def y'{v:AV}{cs}(h:v.cells=some cs):(∃l,v=.p (.agg l))\/(∃l,v=.agg l)\/v.isCell=true/\cs=[v]:=by
 cases v with
 |p q=>
  cases q with
  |agg l=>simp
  |tuple l=>simp[AV.cells]at h
  |_=>(simp[AV.cells,PV.cells]at h;subst h;exact .inr (.inr ⟨rfl,rfl⟩))
 |agg l=>simp
 |tuple l=>simp[AV.cells]at h
 |undef=>simp[AV.cells]at h
 |_=>(simp[AV.cells]at h;grind[AV.isCell])
def HX{M0}{S}{g}{x y:AV}{cs}{C}{n o}(hx:x.cells=some cs)(h:jt M0 S g cs)(u:x.part C n o=some y) :
  (∀j,j<n->C=true->o+j<cs.length)/\(C=false->o<cs.length)/\Rep M0 S (if C then .agg ((List.range n).map λj=>g (o+j)).toArray else g o) y:=by
 unfold AV.part at u;rw[hx]at u
 cases C with
 |false=>
  simp only[fD,↓reduceIte]at u;obtain⟨I,G⟩:=h o y u
  exact⟨λ_ _ e=>by simp at e,λ_=>(aC.1 u).1,qF I G⟩
 |true=>
  simp only[↓reduceIte]at u |-;refine⟨?_,λe=>by simp at e,?_⟩
  .grind
  .split at u
   .rename_i A;obtain⟨F,rfl⟩:=A;subst F;simp only[gZ];rcases y' hx with⟨l,rfl⟩|⟨l,rfl⟩|⟨z,_⟩
    .cases u;simp[AV.cells,PV.cells]at hx;subst hx;refine aR (.agg (by simp) (λc A=>?_) (λi c hi=>?_))
     .obtain⟨i,hi⟩:=fN A;exact(h i (.p c) (by simp[hi])).1
     .have v:=(aC.1 hi).1;rw[jN _ _ _ (by simpa using v)];exact(h i (.p c) (by simp[hi])).2
    .cases u;simp[AV.cells]at hx;subst hx;refine⟨_,rfl,λc A=>(let ⟨i,hi⟩:=fN A;(h i c hi).1),by simp,λi c hi=>?_⟩;have v:=(aC.1 hi).1;rw[jN _ _ _ v];exact(h i c hi).2
    .cases x with
     |p q=>cases q<;>first|grind|(simp[AV.isCell,PV.isCell]at z;done)
     |agg l=>simp[AV.isCell]at z
     |_=>simp at u
   .split at u
    .rename_i J;cases u;refine qG (yw (by simp[sub];omega) λj c D=>?_);have v:=(aC.1 D).1;have E:j<n:=by simp[sub]at v;omega
     show c.isCell=true/\cb M0 S (((List.range n).map λj=>g (o+j)).toArray.getD j undef) c;rw[jN _ _ _ E];exact I3 h o n j c D
    .cases u
def wJ{m}{b x}:Own (m++[some x]) b↔Own m b\/b=x:=by
 simp[Own]
def iq(w:World)(o)(b)(h:b<w.heap.size):(w.alloc o).heap[b]?=w.heap[b]?:=by
 show (w.heap.push o)[b]?=_;grind
def cg(w:World)(o):(w.alloc o).heap[w.heap.size]?=some o:=by
 show (w.heap.push o)[w.heap.size]?=some o;simp
def Kd(w:World)(o)(b)(h:b<w.heap.size):(w.alloc o).shape? b=w.shape? b:=by
 unfold World.shape?;rw[iq w o b h]
def Fr.alloc(m)(w)(o):Fr m w (w.alloc o):=
 ⟨rfl,rfl,rfl,by simp,λb e _=>iq w o b e,λb e=>Kd w o b e⟩
def Fr.drew(m)(w):Fr m w w.drew:=⟨rfl,rfl,rfl,ba _,λ_ _ _=>rfl,λ_ _=>rfl⟩
def Fr.trans{m m'}{a b c}(h:Fr m a b)(k:Fr m' b c)(i:∀x,x<a.heap.size->Own m' x->Own m x):Fr m a c:=
 ⟨k.os.trans h.os,k.tape.trans h.tape,k.output.trans h.output,fP h.size k.size,
  λx hx e=>(k.block x (iy hx h.size) (λj=>e (i x hx j))).trans (h.block x hx e),
  λx hx=>(k.shape x (iy hx h.size)).trans (h.shape x hx)⟩
def ObjOk.keep{M0}{S F}(e:Ev S.h.length S F){μ}{o}(h:ObjOk P M0 S μ o)
  (y:∀b,μ=some b->F.w.heap[b]?=S.w.heap[b]?):ObjOk P M0 F μ o:=by
 cases o with
 |row sz xs=>
  rcases h with h|⟨b,T,C,l,q,u,D⟩
  .exact .inl h
  .refine .inr ⟨b,T,C,l,(y b l).trans q,u,λi x hx=>?_⟩;obtain⟨cs,A,E,J⟩:=D i x hx
   exact⟨cs,A,E,λj c G=>⟨(J j c G).1,e.keepS (J j c G).2⟩⟩
 |strIter s p=>
  grind[ObjOk]
 |mp es=>
  obtain⟨b,C,z,l,q,u⟩:=h
  exact⟨b,C,z,l,(y b l).trans q,u.mono λv a=>e.keepS⟩
 |memo f=>
  obtain⟨L,es,M,b,C,z,l,q,u⟩:=h
  exact⟨L,es,M,b,C,z,l,(y b l).trans q,u.mono λv a=>e.keepS⟩
 |loop n tmps ps assign body O pend=>
  obtain⟨b,r,l,q,u,D,A⟩:=h
  exact⟨b,r,l,(y b l).trans q,u,λt=>e.keep (D t),A⟩
 |dblock=>
  grind[ObjOk]
 |bld T R x=>
  obtain⟨b,p,v,l,q,u,D,A,E⟩:=h
  exact⟨b,p,v,l,(y b l).trans q,u,D,e.rep0 A (iO A),λa n c K=>let ⟨N,I⟩:=E a n c K;⟨N,(e.fr.shape _ (tu I)).trans I⟩⟩
 |dead=>exact trivial
def Mem.new (S:Mem) (o:AObj) (ob:Obj):Mem:=⟨S.m++[some S.w.heap.size],S.h++[o],S.w.alloc ob⟩
def Ev.new(base:Nat)(M0:Nat->Prop){S:Mem}(j:HOk P M0 S)(q:base<=S.h.length)(o:AObj)(ob:Obj):Ev base S (S.new o ob) where
 fr:=Fr.alloc _ _ _
 sub:=λb h=>by
  rcases wJ.1 h with h|rfl
  .exact .inl h
  simp
 obj:=λid e l i=>by
  refine⟨e,?_,?_⟩
  .grind[Mem.new]
  .have:(S.new o ob).m.getD id none=S.m.getD id none:=by
    show (S.m++[some S.w.heap.size]).getD id none=_;have:=j.len;simp[bJ (show id<S.m.length by omega)]
   rw[this];exact ObjEv.refl _ _
def HOk.new{M0:Nat->Prop}{S:Mem}(u:HOk P M0 S){o:AObj}{ob:Obj}(M:ObjOk P M0 (S.new o ob) (some S.w.heap.size) o):HOk P M0 (S.new o ob) where
 len:=by simp[Mem.new,u.len]
 lt:=λb h=>by
  have:(S.new o ob).w.heap.size=S.w.heap.size+1:=by simp[Mem.new]
  rcases wJ.1 h with h|rfl
  .have:=u.lt b h;omega
  .omega
 m0:=λb h=>by
  obtain⟨F,E⟩:=u.m0 b h;refine⟨by simp[Mem.new];omega,λC=>?_⟩;rcases wJ.1 C with C|rfl
  .exact E C
  .omega
 inj:=λi j b hi O=>by
  have v:=u.len;have y:∀k,(S.new o ob).m[k]?=some (some b)->(S.m[k]?=some (some b)/\b<S.w.heap.size)\/(k=S.m.length/\b=S.w.heap.size):=by
   intro k N;have q:(S.m++[some S.w.heap.size])[k]?=some (some b):=N;rcases dO k S.m.length with h|h
   .rw[bJ h]at q;exact .inl ⟨q,u.lt b (aB q)⟩
   .grind
  rcases y i hi with⟨F,E⟩|⟨F,E⟩<;>rcases y j O with⟨L,R⟩|⟨L,R⟩
  .exact u.inj i j b F L
  .omega
  .omega
  .omega
 obj:=λid J I=>by
  have v:=u.len;have l:(S.h++[o])[id]?=some J:=I;rcases dO id S.h.length with h|h
  .rw[bJ h]at l;have e:=Ev.new S.h.length M0 u (ba _) o ob;have D:(S.new o ob).m.getD id none=S.m.getD id none:=by
    show (S.m++[some S.w.heap.size]).getD id none=_;simp[bJ (show id<S.m.length by omega)]
   rw[D];refine(u.obj id J l).keep e λb A=>iq _ _ _ ?_;refine u.lt b ?_;grind[Own]
  grind[ObjOk,Mem.new]
 gl:=(Ev.new 0 M0 u (cG _) o ob).glob u.gl
def Mem.drew (S:Mem):Mem:=⟨S.m,S.h,S.w.drew⟩
def Ev.drew(base)(S):Ev base S S.drew:=⟨Fr.drew _ _,λ_ h=>.inl h,λ_ o _ h=>⟨o,h,ObjEv.refl _ _⟩⟩
def HOk.drew{M0}{S}(e:HOk P M0 S):HOk P M0 S.drew:=
 ⟨e.len,e.lt,e.m0,e.inj,λid o h=>(e.obj id o h).keep (Ev.drew _ S) λ_ _=>rfl,(Ev.drew 0 S).glob e.gl⟩
variable {P:Program}
def Kf(w:World)(b)(C)(T)(fr)(j:w.heap[b]?=some (.cells C T fr)):w.setRow b C=w:=by
 have i:w.heap[b]'((xC.1 j).1)=.cells C T fr:=(xC.1 j).2;unfold World.setRow
 cases w with
 |mk l tape e os output=>
  congr 1
  grind
def lJ (C:Array Value) (o:Nat):List Value->Array Value
 |[]=>C
 |v::r=>lJ (C.setIfInBounds o v) (o+1) r
def jV:∀(e) (C) (o),(lJ C o e).size=C.size
 |[],_,_=>rfl
 |v::r,C,o=>by rw[lJ,jV r];simp
def j5:∀(e) (C) (o k),o+e.length<=C.size ->
  (lJ C o e).getD k undef=if o<=k/\k<o+e.length then e.getD (k-o) undef else C.getD k undef
 |[],C,o,k,_=>by
  grind[lJ]
 |v::r,C,o,k,h=>by
  have h':o+(r.length+1)<=C.size:=by simpa using h
  rw[lJ,j5 r (C.setIfInBounds o v) (o+1) k (by simp;omega)];by_cases j:o+1<=k/\k<o+1+r.length
  .grind
  .rw[if_neg j];by_cases i:k=o
   .simp_all;omega
   .rw[if_neg (by simp;omega)];simp[Ne.symm i]
def kA(b)(T):∀(q) (off i) (C) (w),w.heap[b]?=some (.cells C T (0,0))->off+i+q.length<=C.size ->
  (∀v∈q,v.oneCell'=true)->(storeCells ⟨b,off,none⟩ q i).run P w=.ok () (w.setRow b (lJ C (off+i) q))
 |[],off,i,C,w,j,_,_=>by
  rw[lJ,Kf w b C T _ j]
  rfl
 |v::r,off,i,C,w,j,A,y=>by
  have D:off+i+(r.length+1)<=C.size:=by simpa using A
  have e:w.cell? ⟨b,off+i,none⟩=some C[off+i]:=by simp[World.cell?,j,show off+i<C.size by omega]
  have l:w.frozen? ⟨b,off+i,none⟩=false:=by simp[World.frozen?,j]
  have u:(store ((⟨b,off,none⟩:Addr).add i) v).run P w=.ok () (w.setRow b (C.setIfInBounds (off+i) v)):=by
   rw[gI,run_store P w _ v _ (y v (by simp)),e];simp[l,setCell_eq_setRow w b (off+i) C T (0,0) v j]
  have z:=kA b T r off (i+1) (C.setIfInBounds (off+i) v) (w.setRow b (C.setIfInBounds (off+i) v)) (setRow_heap w b C _ T _ j) (by simp;omega) (λx hx=>y x (by simp[hx]));simp only[storeCells,Sem.run_bind,u,bN,z,setRow_setRow,lJ,lc]
def Mem.set (S:Mem) (id:Nat) (o:AObj) (b:Nat) (C:Array Value):Mem:=⟨S.m,S.h.set id o,S.w.setRow b C⟩
def oy{m}{id b}(h:m.getD id none=some b):Own m b/\m[id]?=some (some b):=by
 grind[Own]
def tt(w:World)(b)(C e)(T)(fr)(i:w.heap[b]?=some (.cells C T fr))(j:e.size=C.size)(x) :
  (w.setRow b e).shape? x=w.shape? x:=by
 unfold World.shape?;by_cases h:x=b
 .subst h;rw[setRow_heap w x C e T fr i,i];simp[j]
 .rw[setRow_other w b x e h]
def Ev.set(base:Nat){S:Mem}{id sz b:Nat}{xs xs':List AV}{C q:Array Value}{T:TypeId}(i:S.h[id]?=some (.row sz xs))(y:S.m.getD id none=some b)
  (z:S.w.heap[b]?=some (.cells C T (0,0))) (A:q.size=C.size) (u:xs.length<=xs'.length):Ev base S (S.set id (.row sz xs') b q) where
 fr:=⟨rfl,rfl,rfl,by simp[Mem.set],
  λx _ v=>setRow_other _ _ _ _ (λe=>v (e▸(oy y).1)),
  λx _=>tt _ _ _ _ _ _ z A x⟩
 sub:=λ_ h=>.inl h
 obj:=λj o D l=>by
  by_cases h:j=id
  .grind[Mem.set,ObjEv]
  .exact⟨o,by grind[Mem.set],ObjEv.refl _ _⟩
def eO (M0:Nat->Prop) (S:Mem) (sz:Nat) (C:Array Value) (xs:List AV):Prop:=
 ∀(i:Nat) (x:AV),xs[i]?=some x->∃cs,x.cells=some cs/\cs.length=sz/\∀(j:Nat) (c:AV),cs[j]?=some c->c.isCell=true/\cb M0 S (C.getD (i*sz+j) undef) c
def eO.keep{M0}{S u}(e:Ev S.h.length S u){sz}{C}{xs}(h:eO M0 S sz C xs):eO M0 u sz C xs:=
 λi x hx=>let ⟨cs,y,v,q⟩:=h i x hx;⟨cs,y,v,λj c l=>⟨(q j c l).1,e.keepS (q j c l).2⟩⟩
def HOk.set{M0}{S}(i:HOk P M0 S){id sz b}{xs xs'}{C q}{T}(u:S.h[id]?=some (.row sz xs))(y:S.m.getD id none=some b)
  (E:S.w.heap[b]?=some (.cells C T (0,0))) (G:q.size=C.size) (v:xs.length<=xs'.length) (l:xs'.length*sz<=q.size) (A:eO M0 S sz q xs') :
  HOk P M0 (S.set id (.row sz xs') b q):=by
 have e:=Ev.set S.h.length u y E G v;refine⟨by simp[Mem.set,i.len],λx hx=>?_,λx hx=>?_,i.inj,λj o D=>?_,e.glob i.gl⟩
 .have:=i.lt x hx;simp_all[Mem.set]
 .obtain⟨J,I⟩:=i.m0 x hx;simp_all[Mem.set,Own]
 .by_cases h:j=id
  .subst h;have:o=.row sz xs':=by
    have:(S.h.set j (.row sz xs'))[j]?=some o:=D;simp[(aC.1 u).1]at this;exact this.symm
   subst this;refine .inr ⟨b,T,q,y,setRow_heap _ _ _ _ _ _ E,l,A.keep e⟩
  .have F:S.h[j]?=some o:=by
    have:(S.h.set id (.row sz xs'))[j]?=some o:=D;rwa [eS (Ne.symm h)]at this
   refine(i.obj j o F).keep e λx hx=>setRow_other _ _ _ _ λz=>h ?_;subst z;exact i.inj j id x (oy hx).2 (oy y).2
def Mem.regrow (S:Mem) (id:Nat) (o:AObj) (ob:Obj):Mem:=⟨S.m.set id (some S.w.heap.size),S.h.set id o,S.w.alloc ob⟩
def D0{m}{id x b}(h:Own (m.set id (some x)) b):Own m b\/b=x:=by
 grind[Own]
def Ev.regrow(base:Nat){S:Mem}{id sz:Nat}{xs xs':List AV}{ob:Obj}(e:S.h[id]?=some (.row sz xs))(i:xs.length<xs'.length) :
  Ev base S (S.regrow id (.row sz xs') ob) where
 fr:=Fr.alloc _ _ _
 sub:=λb h=>by
  rcases D0 h with h|rfl
  .exact .inl h
  simp
 obj:=λj o q l=>by
  by_cases h:j=id
  .grind[Mem.regrow,ObjEv]
  .refine⟨o,by grind[Mem.regrow],?_⟩;have:(S.regrow id (.row sz xs') ob).m.getD j none=S.m.getD j none:=by
    simp[Mem.regrow,da,eS (Ne.symm h)]
   rw[this];exact ObjEv.refl _ _
def HOk.regrow{M0}{S}(l:HOk P M0 S){id sz}{xs xs'}{C}{T}(z:S.h[id]?=some (.row sz xs))
  (A:xs.length<xs'.length) (q:xs'.length*sz<=C.size) (F:eO M0 S sz C xs'):HOk P M0 (S.regrow id (.row sz xs') (.cells C T)):=by
 have e:=Ev.regrow S.h.length (ob:=.cells C T) z A;have u:=(aC.1 z).1;have N:=l.len;refine⟨by simp[Mem.regrow,l.len],λx hx=>?_,λx hx=>?_,λi j x hi D=>?_,λj o D=>?_,e.glob l.gl⟩
 .rcases D0 hx with h|rfl
  .have:=l.lt x h;simp[Mem.regrow];omega
  .simp[Mem.regrow]
 .obtain⟨I,E⟩:=l.m0 x hx;refine⟨by simp[Mem.regrow];omega,λK=>?_⟩;rcases D0 K with h|rfl
  .exact E h
  .omega
 .have y:∀k:Nat,(S.m.set id (some S.w.heap.size))[k]?=some (some x)->(k≠id/\S.m[k]?=some (some x)/\x<S.w.heap.size)\/(k=id/\x=S.w.heap.size):=by
   intro k v;by_cases h:k=id
   .grind
   .rw[eS (Ne.symm h)]at v;exact .inl ⟨h,v,l.lt x (aB v)⟩
  rcases y i hi with⟨I,E,R⟩|⟨I,E⟩<;>rcases y j D with⟨M,G,O⟩|⟨M,G⟩
  .exact l.inj i j x E G
  .omega
  .omega
  .omega
 .by_cases h:j=id
  .subst h;have:o=.row sz xs':=by
    have:(S.h.set j (.row sz xs'))[j]?=some o:=D;simp[u]at this;exact this.symm
   subst this;refine .inr ⟨S.w.heap.size,T,C,?_,cg _ _,q,F.keep e⟩;grind[Mem.regrow]
  .have J:S.h[j]?=some o:=by
    have:(S.h.set id (.row sz xs'))[j]?=some o:=D;rwa [eS (Ne.symm h)]at this
   have L:(S.regrow id (.row sz xs') (.cells C T)).m.getD j none=S.m.getD j none:=by
    simp[Mem.regrow,da,eS (Ne.symm h)]
   rw[L];exact(l.obj j o J).keep e λx hx=>iq _ _ _ (l.lt x (oy hx).1)
variable {P:Program} {M0:Nat->Prop} {S:Mem}
def aU (P:Program) (M0:Nat->Prop) (S:Mem) (s:Sem Value):OR->Prop
 |.val v h=>∃(S':Mem) (v':Value),S'.h=h/\s.run P S.w=.ok v' S'.w/\Ev S.h.length S S'/\HOk P M0 S'/\Rep M0 S' v' v
 |.stuck=>True
 |_=>False
def Dx (P:Program) (M0:Nat->Prop) (S:Mem) (s:Sem Unit):OR->Prop
 |.skip h=>∃S':Mem,S'.h=h/\s.run P S.w=.ok () S'.w/\Ev S.h.length S S'/\HOk P M0 S'
 |.stuck=>True
 |_=>False
def aU.pure(i:HOk P M0 S){s}{v}{v'}(e:s.run P S.w=.ok v' S.w)(h:Rep M0 S v' v):aU P M0 S s (.val v S.h):=
 ⟨S,v',rfl,e,Ev.refl _ _,i,h⟩
def aU.opt(e:HOk P M0 S){s}{v}(h:∀x,v=some x->∃v',s.run P S.w=.ok v' S.w/\Rep M0 S v' x):aU P M0 S s (jY S.h v):=by
 cases v with
 |none=>exact trivial
 |some x=>obtain⟨v',j,i⟩:=h x rfl;exact aU.pure e j i
def dM{id e sz}{xs}{X}(h:ei S id e X)(i:S.h[id]?=some (.row sz xs))(j:xs.length=e):X sz (S.m.getD id none):=by
 rcases h with h|⟨l,xs',h,_,hx⟩
 .grind
 grind
def gK(j:HOk P M0 S){id sz b}{xs}(e:S.h[id]?=some (.row sz xs))(i:S.m.getD id none=some b) :
  ∃C T,S.w.heap[b]?=some (.cells C T (0,0))/\xs.length*sz<=C.size/\eO M0 S sz C xs:=by
 have:=j.obj id _ e;rw[i]at this;rcases this with⟨h,_⟩|⟨b',T,C,v,u,q,l⟩
 .cases h
 grind[eO]
def kP{w:World}{b}{C}{T}{fr}(h:w.heap[b]?=some (.cells C T fr))(k)(e:k<C.size):w.cell? ⟨b,k,none⟩=some (C.getD k undef):=by
 simp[World.cell?,h,e]
def j3{i n sz j:Nat}(hi:i<n)(l:j<sz):i*sz+j<n*sz:=by
 have e:(i+1)*sz<=n*sz:=gp sz hi;grind
def Bg{x}{sz}(h:x.cells.length=sz/\∀c,c∈x.cells->c.isCell=true):(AV.p x).cells=some (x.cells.map .p):=by
 cases x with
 |tuple l=>have:=h.2 (.tuple l) (by simp[PV.cells]);simp[PV.isCell]at this
 |_=>rfl
def wv(i){T}{x y}{cs}{o b at_}(hx:x.cells=some cs)(q:jt M0 S i cs)
  (l:∀j,o+j<cs.length->S.w.cell? ⟨b,at_+j,none⟩=some (i (o+j))) (u:m6 P T x o=some y) :
  ∃v',(loadVar T ⟨b,at_,none⟩).run P S.w=.ok v' S.w/\Rep M0 S v' y:=by
 unfold m6 at u;split at u
 .rename_i F n v z;obtain⟨E,D,C⟩:=HX hx q u;exact⟨_,HD v z S.w b at_ (λj=>i (o+j)) (λe j A=>l j (E j A e)) (λe=>by simpa using l 0 (D e)),by simpa using C⟩
 .cases u
def Vo(G:HOk P M0 S){T}{x}{v}(hx:Rep M0 S v x):aU P M0 S (Instr.loadAt T v) (qo P T x S.h):=by
 unfold qo;split
 .rename_i sz xs i o;split
  .rename_i y u;have h:RepP (Avoid M0 S.m) S.w v (.ptr sz xs i o):=hx
   cases h with
   |ptr f M K hM X U=>
    rename_i b off at_;refine aU.opt G λz F=>?_;have hi:=(aC.1 u).1;have e:=K y (aB u);have D:jt M0 S (λj=>f (i*sz+j)) (y.cells.map .p):=by
     intro j c E;simp only[cX,bg]at E;obtain⟨q,N,rfl⟩:=E;exact⟨e.2 q (aB N),U i j y q u N⟩
    have O:(y.cells.map AV.p).length=sz:=by simpa using e.1
    obtain⟨v',J,I⟩:=wv (P:=P) (λj=>f (i*sz+j)) (b:=b) (at_:=at_) (Bg e) D (λj E=>by
     rw[<-X (i*sz+(o+j)) (j3 hi (by omega)),M]
     simp only[lc]) F
    exact⟨v',by simpa[Instr.loadAt,Instr.sureAddr]using J,I⟩
  simp[aU]
 .rename_i id a0 i o;split
  .rename_i sz xs A;split
   .rename_i R;split
    .rename_i y u;refine aU.opt G λz F=>?_;obtain⟨b,V,rfl⟩:=dM hx.2 A R;obtain⟨C,T',Y,l,L⟩:=gK G A V;obtain⟨cs,h5,h6,Z⟩:=L i y u;have hi:=(aC.1 u).1;obtain⟨v',J,I⟩:=wv (P:=P) (λj=>C.getD (i*sz+j) undef) (b:=b) (at_:=i*sz+o) h5 Z (λj E=>by
      rw[lc]
      exact kP Y _ (iy (j3 hi (by omega)) l)) F
     exact⟨v',by simpa[Instr.loadAt,Instr.sureAddr]using J,I⟩
    simp[aU]
   simp[aU]
  simp[aU]
 simp[aU]
def KN(cs):(sG cs).cells=some cs:=by
 unfold sG
 cases e:iP cs with
 |some l=>rw[kD e];rfl
 |none=>rfl
def tD{α}(cs new:List α)(o j)(h:o+new.length<=cs.length) :
  (lY cs o new)[j]?=if o<=j/\j<o+new.length then new[j-o]? else cs[j]?:=by
 unfold lY;have e:(cs.take o).length=o:=by simp;omega
 grind
def pT{α}(cs new:List α)(o)(h:o+new.length<=cs.length):(lY cs o new).length=cs.length:=by
 grind[lY]
def iN(C:Array Value)(j):C.toList.getD j undef=C.getD j undef:=by
 simp[da]
def RU(hS:HOk P M0 S){T}{x y}{v u}(hx:Rep M0 S v x)(hy:Rep M0 S u y):Dx P M0 S (Instr.storeAt T v u) (iZ P T x y S.h):=by
 unfold iZ;split
 .rename_i id a1 i o n hn;split
  .rename_i sz xs E;split
   .rename_i hv;split
    .rename_i e Z;split
     .rename_i e' l;obtain⟨b,R,rfl⟩:=dM hx.2 E hv;obtain⟨C,T',U,Y,M⟩:=gK hS E R;obtain⟨cs,h5,h6,h7⟩:=M i e Z;have hi:=(aC.1 Z).1;unfold AV.withCells at l;rw[h5]at l
      cases D:y.cells with
      |none=>simp[D]at l
      |some new=>
       simp only[D]at l;split at l
       .rename_i a0;obtain⟨a3,J⟩:=kB hy D;have a4:o+n<=sz:=by
         split at l
         .omega
         .grind
        have N:e'.cells=some (lY cs o new)/\(lY cs o new).length=sz:=by
         split at l
         .simp_all[AV.cells,lY]
         .split at l
          .cases l;exact⟨KN _,by grind[lY]⟩
          .cases l
        have a2:u.cells.toList.length=n:=by simp;omega
        have a6:i*sz+sz<=xs.length*sz:=by
         have:(i+1)*sz<=xs.length*sz:=gp sz hi;rwa [eW,wa]at this
        have q:i*sz+o+u.cells.toList.length<=C.size:=by omega
        have O:∀z∈u.cells.toList,z.oneCell'=true:=by
         intro z hz;obtain⟨j,I⟩:=fN hz;have L:=(aC.1 I).1;have V:j<new.length:=by omega
         obtain⟨h8,h9⟩:=J j new[j] (by simp[V]);have:u.cells.getD j undef=z:=by rw[<-iN,da,I];rfl
         simp only[this]at h9;exact pV h8 h9
        have F:=kA (P:=P) b T' u.cells.toList (i*sz+o) 0 C S.w U (by omega) O;simp only[kx]at F;refine⟨S.set id (.row sz (xs.set i e')) b (lJ C (i*sz+o) u.cells.toList),rfl,?_,Ev.set _ E R U (jV _ _ _) (by simp),HOk.set hS E R U (jV _ _ _) (by simp) (by simp[jV];omega) ?_⟩
        .unfold Instr.storeAt storeVar;simp only[Instr.sureAddr,Sem.run_bind,Sem.run_pure,bN,cj hn];grind[Mem.set,lJ]
        .intro k z G;by_cases K:k=i
         .subst K;rw[jp hi]at G;cases G;refine⟨_,N.1,N.2,λj c A=>?_⟩;have L:=(aC.1 A).1;rw[tD _ _ _ _ (by omega)]at A;rw[j5 _ _ _ _ q];split at A
          .rename_i I;rw[if_pos (by omega)];have:=J (j-o) c A;rw[show k*sz+j-(k*sz+o)=j-o by omega,iN];exact this
          grind
         .rw[eS (Ne.symm K)]at G;obtain⟨X,g1,g2,g3⟩:=M k z G;refine⟨X,g1,g2,λj c A=>?_⟩;have L:=(aC.1 A).1;have a5:=(aC.1 G).1;rw[j5 _ _ _ _ q,if_neg ?_]
          .grind
          .intro hh;rcases dO k i with h'|h'
           .have:(k+1)*sz<=i*sz:=gp sz h';grind
           .have:(i+1)*sz<=k*sz:=gp sz (by omega);grind
       .cases l
     simp[Dx]
    simp[Dx]
   simp[Dx]
  simp[Dx]
 simp[Dx]
def AD{T}{f off}{t}(h:tO P T f=some (off,t)) :
  ∃i e,P.underlying T=some (.struct i)/\i[f]?=some e/\e.offset=off/\e.type=t:=by
 unfold tO at h;grind
def nE{h}{id i sz}(e:jh h id i=some sz):∃xs,h[id]?=some (.row sz xs)/\xs.length=i:=by
 unfold jh at e;grind
def wS{id e i l sz}{xs}{b}(j:S.h[id]?=some (.row sz xs))(u:xs.length=e)(q:S.m.getD id none=some b) :
  Rep M0 S (.pointer (some ⟨b,i*sz+l,none⟩)) (.ptr id e i l):=
 ⟨⟨_,rfl⟩,.inr ⟨sz,xs,j,by omega,λ_=>⟨b,q,rfl⟩⟩⟩
def IP(z:HOk P M0 S){T}{x}{v}{f}(hx:Rep M0 S v x):aU P M0 S (Instr.fieldAt T v f) (oe P T x f S.h):=by
 unfold oe;split
 .exact trivial
 .rename_i off t G;obtain⟨M,K,A,q,rfl,rfl⟩:=AD G;split
  .exact trivial
  .rename_i n j;split
   .exact trivial
   .rename_i l;have run:∀(b at_:Nat),(Instr.fieldAt T (.pointer (some ⟨b,at_,none⟩)) f).run P S.w=.ok (.pointer (some ⟨b,at_+K.offset,none⟩)) S.w:=by
     intro b at_;simp[Instr.fieldAt,run_underlying A,q,Instr.sureAddr,fieldPlace,cj j,l,gI]
    split
    .rename_i sz xs i o;have h:RepP (Avoid M0 S.m) S.w v (.ptr sz xs i o):=hx
     cases h with
     |ptr g u C J I D=>
      refine aU.pure z (run _ _) (aR (.ptr g ?_ C J I D));rw[u,lc]
    .rename_i id L i o;split
     .rename_i sz F;obtain⟨xs,e,y⟩:=nE F;obtain⟨b,E,rfl⟩:=dM hx.2 e y;refine aU.pure z (run _ _) ?_;rw[lc];exact wS e y E
     simp[aU]
    simp[aU]
def di{T e}(h:bM P T=some e):P.underlying T=some (.slice e):=by
 unfold bM at h;grind
def oM{T e}{n}(h:ik P T=some (n,e)):P.underlying T=some (.array n e):=by
 unfold ik at h;grind
def toNat_lt{i:Int}{n:Nat}(e:0<=i)(h:i<n):i.toNat<n:=by omega
def jR{v}{k}{i}(h:Rep M0 S v (.p (.int k i))):v=.int k i:=by
 have h':RepP (Avoid M0 S.m) S.w v (.int k i):=h
 cases h' with
 |int k n=>rfl
def qU{v}{b}(h:Rep M0 S v (.p (.bool b))):v=.bool b:=by
 have h':RepP (Avoid M0 S.m) S.w v (.bool b):=h
 cases h' with
 |bool b=>rfl
def IA(J:HOk P M0 S){T}{x X}{v V}(hx:Rep M0 S v x)(hi:Rep M0 S V X):aU P M0 S (Instr.indexAt T v V) (jL P T x X S.h):=by
 unfold jL;split
 .rename_i k i;have:=jR hi;subst this;split
  .rename_i sz xs full;split
   .rename_i e A;split
    .rename_i C;obtain⟨u,D,l⟩:=C;have z:=di A;have h:RepP (Avoid M0 S.m) S.w v (.slice sz xs full):=hx
     cases h with
     |slice f I Y E G N q K=>
      rename_i b off len cap;subst I;refine aU.pure J (v':=.pointer (some ⟨b,off+i.toNat*sz,none⟩)) ?_ (aR (.ptr f (by omega) G N q K))
      simp[Instr.indexAt,asIntOf,run_underlying z,D,l,cj u,gI]
     |empty E=>grind
    simp[aU]
   simp[aU]
  .rename_i id O off len;split
   .rename_i e sz xs A y;split
    .rename_i C;obtain⟨u,F,D,l⟩:=C;have z:=di A;have M:=dM hx.2 y F;rcases M with⟨Z,_⟩|⟨b,cap,T',n,L,rfl,a1,a0,U⟩|⟨_,_,Z⟩
     .omega
     .refine aU.pure J (v':=.pointer (some ⟨b,(off+i.toNat)*sz+0,none⟩)) ?_ (wS y F L);simp[Instr.indexAt,asIntOf,run_underlying z,D,l,cj u,gI,eW]
     .omega
    simp[aU]
   simp[aU]
  .rename_i sz xs j o;split
   .rename_i n e A;split
    .rename_i s G;split
     .rename_i C;obtain⟨D,l⟩:=C;have z:=oM A;have h:RepP (Avoid M0 S.m) S.w v (.ptr sz xs j o):=hx
      cases h with
      |ptr g R u N q K=>
       rename_i b off at_;refine aU.pure J (v':=.pointer (some ⟨b,at_+i.toNat*s,none⟩)) ?_ (aR (.ptr g (by rw[R,lc]) u N q K));simp[Instr.indexAt,asIntOf,run_underlying z,D,l,cj G,gI,Instr.sureAddr]
     simp[aU]
    simp[aU]
   simp[aU]
  .rename_i id O j o;split
   .rename_i n e A;split
    .rename_i s sz G M;split
     .rename_i C;obtain⟨D,l⟩:=C;have z:=oM A;obtain⟨xs,y,F⟩:=nE M;obtain⟨b,L,rfl⟩:=dM hx.2 y F;refine aU.pure J (v':=.pointer (some ⟨b,j*sz+(o+i.toNat*s),none⟩)) ?_ (wS y F L);simp[Instr.indexAt,asIntOf,run_underlying z,D,l,cj G,gI,Instr.sureAddr,lc]
     simp[aU]
    simp[aU]
   simp[aU]
  simp[aU]
 simp[aU]
def gM{T}(h:fW P T=true):P.underlying T=some .string:=by
 unfold fW at h;grind
def E7{T}{x y}{v}{o}{C}(F:v=.agg C)(hx:Rep M0 S v x)(A:x.cells.isSome)(l:m6 P T x o=some y) :
  ∃v',(part T C o).run P S.w=.ok v' S.w/\Rep M0 S v' y:=by
 subst F;obtain⟨cs,i⟩:=iM.1 A;obtain⟨G,e⟩:=kB hx i;simp only[Value.cells]at G e;unfold m6 at l;split at l
 .rename_i K n D q;obtain⟨J,I,E⟩:=HX i e l
  cases K with
  |true=>
   refine⟨.agg (C.extract o (o+n)),?_,?_⟩
   .simp[part,lX D,cj q]
   .have u:n=0\/o+n<=C.size:=by
     rcases q9 n with h|h
     .exact .inl h
     .have:=J (n-1) (by omega) rfl;omega
    have:C.extract o (o+n)=((List.range n).map λj=>C.getD (o+j) undef).toArray:=by
     apply tk
     .simp;omega
     .simp_all
    grind
  |false=>
   have N:=I rfl;refine⟨C.getD o undef,?_,by simpa using E⟩;simp[part,lX D,show o<C.size by omega]
 .cases l
def EK{v}{x}(hx:Rep M0 S v x)(h:(∃l,x=.p (.agg l))\/∃l,x=.agg l):∃C,v=.agg C:=by
 rcases h with⟨l,rfl⟩|⟨l,rfl⟩
 .have h':RepP (Avoid M0 S.m) S.w v (.agg l):=hx
  cases h' with
  |agg=>simp
 .obtain⟨C,rfl,_⟩:=hx;simp
def SK(E:HOk P M0 S){T}{x}{v}{f}(hx:Rep M0 S v x):aU P M0 S (Instr.field T v f) (vN P T x f S.h):=by
 unfold vN;split
 .exact trivial
 .rename_i off t D;obtain⟨I,u,A,i,rfl,rfl⟩:=AD D;have e:((∃l,x=.p (.agg l))\/∃l,x=.agg l)->aU P M0 S (Instr.field T v f) (jY S.h (m6 P u.type x u.offset)):=by
   intro q;refine aU.opt E λy z=>?_;obtain⟨C,j⟩:=EK hx q;obtain⟨v',G,F⟩:=E7 j hx (by grind[AV.cells]) z;exact⟨v',by simp[Instr.field,run_underlying A,i,j,asAgg,G],F⟩
  split
  .grind
  .grind
  simp[aU]
def Sy(K:HOk P M0 S){T}{x G}{v F}(hx:Rep M0 S v x)(hi:Rep M0 S F G):aU P M0 S (Instr.index T v F) (zw P T x G S.h):=by
 unfold zw;split
 .rename_i k i;have:=jR hi;subst this
  have z:((∃l,x=.p (.agg l))\/∃l,x=.agg l)->∀n e s,ik P T=some (n,e)->du P e=some s->(0<=i/\i<n) ->
    aU P M0 S (Instr.index T v (.int k i)) (jY S.h (m6 P e x (i.toNat*s))):=by
   intro J n e s u q j;obtain⟨A,E⟩:=j;refine aU.opt K λy L=>?_;obtain⟨C,I⟩:=EK hx J;obtain⟨v',O,N⟩:=E7 I hx (by grind[AV.cells]) L;exact⟨v',by simp[Instr.index,asIntOf,run_underlying (oM u),I,A,E,cj q,O],N⟩
  split
  .rename_i s;split
   .rename_i j;obtain⟨D,A⟩:=j;split
    .rename_i b M;have h':RepP (Avoid M0 S.m) S.w v (.str s):=hx
     cases h' with
     |str s=>
      refine aU.pure K (v':=.int .u8 b.toNat) ?_ (aR (.int _ _));simp[Instr.index,asIntOf,run_underlying (gM D),A,M]
    simp[aU]
   simp[aU]
  .split
   .split
    .split
     .simp_all
     simp[aU]
    simp[aU]
   simp[aU]
  .split
   .split
    .split
     .simp_all
     simp[aU]
    simp[aU]
   simp[aU]
  simp[aU]
 simp[aU]
end Abs
end Go.Proofs.YtgafommgcfhkkaaGreatDoor
