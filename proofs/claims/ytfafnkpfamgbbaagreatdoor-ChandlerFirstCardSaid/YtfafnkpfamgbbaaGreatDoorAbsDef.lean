/-
  DEFINITIONS OF AN ABSTRACT MACHINE: immutable values, a heap of the call's own, and what a
-/
import Derived.WalkKit
set_option linter.unusedSimpArgs false
set_option linter.unusedVariables false
namespace Go.Proofs.YtfafnkpfamgbbaaGreatDoor
namespace Abs
abbrev Nd:=@Array.getElem?_append
abbrev Nc:=@List.mem_cons_of_mem
abbrev lK:=@Function.comp_def
abbrev xn:=@Int.mul_le_mul_of_nonneg_left
abbrev WU:=@Array.getElem?_setIfInBounds_ne
abbrev IH:=@List.set_append_left
abbrev qh:=@List.flatMap_cons
abbrev tm:=@Int.le_refl
abbrev M8:=@List.map_take
abbrev oH:=@List.getElem?_take
abbrev K3:=@Bool.or_eq_true
abbrev cO:=@List.map_nil
abbrev cl:=@List.getD_eq_getElem?_getD
abbrev aP:=@List.length_append
abbrev fa:=@Bool.false_eq_true
abbrev fY:=@List.length_map
abbrev Cb:=@Nat.sub_self
abbrev eP:=@Array.getD_eq_getD_getElem?
abbrev wA:=@List.length_eraseIdx
abbrev K2:=@Bool.or_eq_false_iff
abbrev K1:=@Nat.lt_trichotomy
abbrev tD:=@List.map_map
abbrev bu:=@List.length_singleton
abbrev mT:=@Option.map_some
abbrev rW:=@Bool.eq_iff_iff
abbrev rV:=@List.ext_getElem?
abbrev gY:=@Option.getD_some
abbrev dD:=@List.mem_map
abbrev qM:=@List.drop_zero
abbrev cz:=@List.mem_cons
abbrev wz:=@List.take_add_one
abbrev iH:=@Nat.lt_of_lt_of_le
abbrev Ca:=@List.getElem?_toArray
abbrev lA:=@Array.ext
abbrev zf:=@Option.getD_none
abbrev K0:=@List.eq_nil_or_concat
abbrev wy:=@List.length_take
abbrev B':=@List.mem_range
abbrev KZ:=@List.getElem?_replicate
abbrev KY:=@Nat.le_of_not_lt
abbrev ze:=@List.getElem?_eq_none
abbrev gX:=@List.getElem?_set_self
abbrev GX:=@Array.mem_toList_iff
abbrev j4:=@Bool.not_and
abbrev GW:=@Int.le_total
abbrev bF:=@List.append_nil
abbrev B9:=@Nat.pow_le_pow_right
abbrev rU:=@Array.getElem?_modify
abbrev GV:=@List.all_nil
abbrev zd:=@Int.le_ediv_iff_mul_le
abbrev zc:=@Int.one_mul
abbrev tC:=@Int.mul_assoc
abbrev B8:=@List.cons.inj
abbrev GU:=@Nat.mul_comm
abbrev lz:=@Nat.lt_succ_self
abbrev rT:=@List.eq_nil_of_length_eq_zero
abbrev GT:=@List.drop_of_length_le
abbrev qL:=@Int.eq_ofNat_of_zero_le
abbrev wx:=@List.set_append_right
abbrev ww:=@List.flatMap_nil
abbrev j3:=@Nat.zero_add
abbrev zb:=@Bool.true_and
abbrev GS:=@Nat.le_of_eq
abbrev b6:=@List.getElem?_eq_getElem
abbrev za:=@Nat.one_mul
abbrev GR:=@List.any_eq_true
abbrev ol:=@List.take_append_drop
abbrev dA:=@Bool.and_eq_true
abbrev B6:=@Bool.not_eq_true'
abbrev y9:=@Bool.not_false
abbrev tB:=@List.flatMap_append
abbrev j2:=@List.all_eq_true
abbrev j1:=@Nat.le_trans
abbrev GQ:=@List.getElem?_set
abbrev kR:=@Nat.add_assoc
abbrev KX:=@Array.ext_getElem?
abbrev ca:=@Bool.or_false
abbrev GP:=@List.getElem?_mapIdx
abbrev ly:=@List.any_map
abbrev KW:=@List.replicate_zero
abbrev KV:=@List.append_of_mem
abbrev e9:=@List.length_cons
abbrev GO:=@List.map_set
abbrev di:=@List.append_assoc
abbrev cD:=@List.getElem?_append_right
abbrev KU:=@List.concat_eq_append
abbrev cp:=@List.map_append
abbrev bR:=@Nat.le_refl
abbrev B5:=@List.getElem?_cons_succ
abbrev eL:=@Nat.add_mul
abbrev GN:=@Nat.min_eq_left
abbrev y8:=@Bool.and_self
abbrev y7:=@Nat.ne_of_lt
abbrev KT:=@List.singleton_append
abbrev wv:=@Int.mul_nonneg
abbrev B4:=@List.length_set
abbrev fD:=@List.take_left'
abbrev GM:=@Int.le_of_lt
abbrev KS:=@List.length_pos_iff
abbrev bP:=@Result.andThen_ok
abbrev lY:=@Array.getElem?_eq_some_iff
abbrev G8:=@List.flatten_cons
abbrev bj:=@List.any_nil
abbrev hH:=@Int.toNat_natCast
abbrev BQ:=@Array.size_eq_zero_iff
abbrev G7:=@List.mem_or_eq_of_mem_set
abbrev G6:=@Array.getElem?_push
abbrev G5:=@Array.getElem?_eq_getElem
abbrev Nb:=@Array.getElem?_setIfInBounds
abbrev gQ:=@List.cons_append
abbrev G4:=@List.filter_append
abbrev ar:=@List.getElem?_eq_some_iff
abbrev cQ:=@Nat.zero_le
abbrev r8:=@List.foldl_append
abbrev bQ:=@List.map_cons
abbrev cg:=@List.getElem?_map
abbrev Na:=@List.eraseIdx_eq_take_drop_succ
abbrev dR:=@List.mem_singleton
abbrev eQ:=@List.not_mem_nil
abbrev G3:=@List.map_congr_left
abbrev lX:=@List.nil_append
abbrev fx:=@List.take_of_length_le
abbrev cw:=@List.getElem?_set_ne
abbrev cX:=@List.getElem?_of_mem
abbrev u4:=@List.drop_eq_getElem_cons
abbrev BP:=@List.getElem_mem
abbrev BO:=@List.replicate_succ
abbrev r7:=@Int.mul_zero
abbrev xx:=@Int.zero_mul
abbrev xw:=@List.getElem?_cons_zero
abbrev li:=@Option.some.inj
abbrev bg:=@List.any_cons
abbrev oN:=@List.take_length
abbrev G2:=@Nat.mod_eq_of_lt
abbrev r6:=@Array.length_toList
abbrev xv:=@List.append_eq
abbrev fw:=@Nat.mul_le_mul_right
abbrev u0:=@Int.mul_comm
abbrev oM:=@Array.getElem?_eq_none
abbrev qk:=@Int.add_zero
abbrev cJ:=@Nat.lt_or_ge
abbrev kz:=@Nat.add_zero
abbrev M9:=@List.drop_append_of_le_length
abbrev oL:=@Nat.le_of_ble_eq_true
abbrev G1:=@Option.isSome_some
abbrev nA:=@List.mem_of_mem_take
abbrev G0:=@Option.isSome_none
abbrev xu:=@List.mem_flatMap
abbrev GZ:=@Bool.eq_false_iff
abbrev fQ:=@Option.isSome_iff_exists
abbrev jT:=@Bool.false_or
abbrev ny:=@List.getElem?_drop
abbrev oK:=@Option.bind_some
abbrev BN:=@List.length_eq_one_iff
abbrev qj:=@Bool.true_or
abbrev BM:=@Bool.not_eq_true
abbrev uZ:=@List.length_eq_zero_iff
abbrev eG:=@List.length_nil
abbrev rZ:=@Nat.mod_lt
abbrev xt:=@Array.foldl_toList
abbrev ky:=@List.foldl_cons
abbrev xr:=@Int.neg_mul
abbrev xq:=@Int.ediv_le_ediv
abbrev GY:=@List.nodup_cons
abbrev oJ:=@List.set_set
abbrev aS:=@List.getElem?_append_left
abbrev oI:=@Nat.eq_zero_or_pos
abbrev uY:=@Int.mul_le_mul
abbrev aI:=@List.mem_of_getElem?
abbrev bz:=@Option.map_eq_some_iff
abbrev BL:=@Nat.zero_mul
abbrev bX:=@List.mem_append
abbrev kx:=@Bool.not_not
abbrev BK:=@Nat.eq_or_lt_of_le
abbrev xp:=@Prod.mk.injEq
abbrev fu:=@Option.some.injEq
abbrev uX:=@Int.le_trans
abbrev rY:=@Int.mul_le_mul_of_nonneg_right
abbrev rX:=@List.drop_drop
inductive PV where
 |bool (b:Bool)
 |int (k:IntKind) (n:Int)
 |str (s:ByteArray)
 |agg (cs:List PV)
 |tuple (vs:List PV)
 |slice (sz:Nat) (xs:List PV) (full:Bool)
 |nilslice
 |ptr (sz:Nat) (xs:List PV) (i o:Nat)
 |nilptr
 |func (fn:Fn) (first cap:List PV)
 |nilfunc
 |iface (t:TypeId) (v:PV)
 |niliface
 |any
 deriving Inhabited
def PV.cells:PV->List PV
 |.agg cs=>cs
 |v=>[v]
inductive RK where
 |it | yl | mp | dk | bl
 deriving DecidableEq,Inhabited
inductive AV where
 |p (v:PV)
 |ptr (id ver i o:Nat)
 |slice (id ver off len:Nat)
 |agg (cs:List AV)
 |func (fn:Fn) (first cap:List AV)
 |tuple (vs:List AV)
 |ref (k:RK) (id:Nat)
 |undef
 deriving Inhabited
def AV.cells:AV->Option (List AV)
 |.p (.tuple _)=>none
 |.p v=>some (v.cells.map .p)
 |.agg cs=>some cs
 |.tuple _=>none
 |.undef=>none
 |v=>some [v]
def PV.isCell:PV->Bool
 |.agg _=>false
 |.tuple _=>false
 |_=>true
def AV.isCell:AV->Bool
 |.p v=>v.isCell
 |.agg _=>false
 |.tuple _=>false
 |.undef=>false
 |_=>true
def AV.plain:AV->Bool
 |.p _=>true
 |.ptr _ _ _ _=>true
 |.slice _ _ _ _=>true
 |.ref _ _=>true
 |_=>false
def fB:List AV->Option (List PV)
 |[]=>some []
 |.p v::r=>match fB r with | some l=>some (v::l) | none=>none
 |_::_=>none
def oX (cs:List AV):AV:=match fB cs with | some l=>.p (.agg l) | none=>.agg cs
def pp (cs:List AV):AV:=match fB cs with | some l=>.p (.tuple l) | none=>.tuple cs
def x8 (fn:Fn) (first cap:List AV):AV :=
 match fB first,fB cap with | some a,some b=>.p (.func fn a b) | _,_=>.func fn first cap
inductive AObj where
 |row (sz:Nat) (xs:List AV)
 |strIter (s:ByteArray) (pos:Nat)
 |mp (es:List (PV×PV))
 |memo (f:PV->PV->Bool)
 |loop (n:Nat) (tmps:Nat->AV) (ps:Array Tmp) (assign body:Code) (st:LoopState) (pend:Option Code)
 |dblock
 |bld (T e:TypeId) (x:AV)
 |dead
abbrev Heap:=List AObj
def AObj.tag:AObj->Option RK
 |.strIter _ _=>some .it
 |.mp _=>some .mp
 |.memo _=>some .mp
 |.loop _ _ _ _ _ _ _=>some .yl
 |.dblock=>some .dk
 |.bld _ _ _=>some .bl
 |_=>none
inductive ADef where
 |fn (f:FuncId) (args:List AV)
 |collected (id:Nat)
inductive Rc where
 |no | rnd | none
 |pend (v:PV)
 |got (v:PV)
structure AAct where
 n:Nat
 bs:Nat
 rc:Rc
 tmps:Nat->AV
 h:Heap
 df:List ADef
def tG (f:Nat->AV) (t:Nat) (v:AV):Nat->AV:=λs=>if s=t then v else f s
theorem Ck (f) (t s) (v):tG f t v s=if s=t then v else f s:=rfl
def AAct.put (A:AAct) (dst:Option Tmp) (v:AV) (h:Heap):AAct :=
 match dst with
 |some d=>{ A with tmps:=tG A.tmps d v,h:=h }
 |none=>{ A with h:=h }
def n8:Value->Option PV
 |.bool b=>some (.bool b)
 |.int k n=>some (.int k n)
 |.string s=>some (.str s)
 |.pointer none=>some .nilptr
 |.slice none 0 0=>some .nilslice
 |.nilFunc=>some .nilfunc
 |.nilIface=>some .niliface
 |.map none=>some .any
 |.func (.func f) first cap=>if first.size=0/\cap.size=0 then some (.func (.func f) [] []) else none
 |_=>none
def kN:List Value->Option (List PV)
 |[]=>some []
 |v::r=>match n8 v,kN r with | some x,some l=>some (x::l) | _,_=>none
def lV:Value->Option PV
 |.agg cs=>match kN cs.toList with | some l=>some (.agg l) | none=>none
 |.tuple cs=>match kN cs.toList with | some l=>some (.tuple l) | none=>none
 |v=>n8 v
def AAct.eval (A:AAct):Operand->AV
 |.tmp t=>A.tmps t
 |.const v=>match lV v with | some x=>.p x | none=>.undef
 |.global _=>.undef
 |.func f=>.p (.func (.func f) [] [])
def my (P:Program) (T:TypeId):Bool :=
 match (P.types[T]?).map (λ(i:TypeInfo)=>i.desc) with
 |some (TypeDesc.named n _)=>n == "strings.Builder"
 |_=>false
def bK (P:Program) (T:TypeId):Option Bool :=
 match P.underlying T with
 |some (.struct _)=>some true
 |some (.array _ _)=>some true
 |some _=>some false
 |none=>none
def bM (P:Program) (T:TypeId):Option Nat:=(P.info? T).map (·.size)
def kt (P:Program) (T:TypeId):Option Nat:=(P.info? T).map (·.bytes)
def ak (P:Program) (T:TypeId):Option PV:=((P.info? T).bind (·.zero)).bind lV
def af (P:Program) (T:TypeId) (f:Nat):Option (Nat×TypeId) :=
 match P.underlying T with
 |some (.struct fs)=>(fs[f]?).map λx=>(x.offset,x.type)
 |_=>none
def ba (P:Program) (T:TypeId):Option TypeId :=
 match P.underlying T with
 |some (.slice e)=>some e
 |_=>none
def cU (P:Program) (T:TypeId):Option (Nat×TypeId) :=
 match P.underlying T with
 |some (.array n e)=>some (n,e)
 |_=>none
def dW (P:Program) (T:TypeId):Bool :=
 match P.underlying T with
 |some .string=>true
 |_=>false
def fj (P:Program) (T:TypeId):Option Bool :=
 match P.underlying T with
 |some (.interface _)=>some true
 |some _=>some false
 |none=>none
def fm (P:Program) (T:TypeId) (n:Nat):Bool :=
 match (P.info? T).bind (·.zero) with
 |some v=>v.cells.size==n
 |none=>false
def GA (P:Program) (T:TypeId):Option TypeId :=
 match P.underlying T with
 |some (.struct fs)=>(fs[1]?).bind λx=>ba P x.type
 |_=>none
def sub {α:Type} (o n:Nat) (l:List α):List α:=(l.drop o).take n
def jk {α:Type} (cs:List α) (o:Nat) (new:List α):List α:=cs.take o++new++cs.drop (o+new.length)
def AV.part (v:AV) (agg:Bool) (n o:Nat):Option AV :=
 match v.cells with
 |none=>none
 |some cs =>
  if agg then
   if cs.length=n/\o=0 then
    match v with
    |.p (.agg _)=>some v
    |.agg _=>some v
    |_=>none
   else if o+n<=cs.length then some (oX (sub o n cs)) else none
  else cs[o]?
def jW (P:Program) (T:TypeId) (v:AV) (o:Nat):Option AV :=
 match bK P T,bM P T with
 |some a,some n=>v.part a n o
 |_,_=>none
def AV.withCells (v:AV) (o:Nat) (x:AV) (n:Nat):Option AV :=
 match v.cells,x.cells with
 |some cs,some new =>
  if new.length=n then
   if cs.length=n/\o=0 then some x
   else if o+n<=cs.length then some (oX (jk cs o new)) else none
  else none
 |_,_=>none
inductive OR where
 |val (v:AV) (h:Heap)
 |skip (h:Heap)
 |call (f:FuncId) (args:List AV)
 |yld (l:Nat) (args:List AV)
 |dfr (d:ADef)
 |recover
 |panic (v:PV)
 |stuck
def gJ (h:Heap):Option AV->OR
 |some v=>.val v h
 |none=>.stuck
def mO (P:Program) (T:TypeId) (x:AV) (h:Heap):OR :=
 match x with
 |.p (.ptr _ xs i o)=>match xs[i]? with | some v=>gJ h (jW P T (.p v) o) | none=>.stuck
 |.ptr id ver i o =>
  match h[id]? with
  |some (.row _ xs)=>if xs.length=ver then match xs[i]? with | some v=>gJ h (jW P T v o) | none=>.stuck else .stuck
  |_=>.stuck
 |_=>.stuck
def fM (P:Program) (T:TypeId) (x y:AV) (h:Heap):OR :=
 match x,bM P T with
 |.ptr id ver i o,some n =>
  match h[id]? with
  |some (.row sz xs) =>
   if xs.length=ver then
    match xs[i]? with
    |some v=>match v.withCells o y n with | some v'=>.skip (h.set id (.row sz (xs.set i v'))) | none=>.stuck
    |none=>.stuck
   else .stuck
  |_=>.stuck
 |_,_=>.stuck
def fU (h:Heap) (id ver:Nat):Option Nat :=
 match h[id]? with
 |some (.row sz xs)=>if xs.length=ver then some sz else none
 |_=>none
def kQ (P:Program) (T:TypeId) (x:AV) (f:Nat) (h:Heap):OR :=
 match af P T f with
 |none=>.stuck
 |some (off,t) =>
  match bM P t with
  |none=>.stuck
  |some n =>
   if n=0 then .stuck else
   match x with
   |.p (.ptr sz xs i o)=>.val (.p (.ptr sz xs i (o+off))) h
   |.ptr id ver i o=>match fU h id ver with | some _=>.val (.ptr id ver i (o+off)) h | none=>.stuck
   |_=>.stuck
def rO (P:Program) (T:TypeId) (x:AV) (f:Nat) (h:Heap):OR :=
 match af P T f with
 |none=>.stuck
 |some (off,t) =>
  match x with
  |.p (.agg _)=>gJ h (jW P t x off)
  |.agg _=>gJ h (jW P t x off)
  |_=>.stuck
def gr (P:Program) (T:TypeId) (x ix:AV) (h:Heap):OR :=
 match ix with
 |.p (.int _ i) =>
  match x with
  |.p (.slice sz xs _) =>
   match ba P T with
   |some e=>if bM P e=some sz/\0<=i/\i<xs.length then .val (.p (.ptr sz xs i.toNat 0)) h else .stuck
   |none=>.stuck
  |.slice id ver off len =>
   match ba P T,h[id]? with
   |some e,some (.row sz xs) =>
    if bM P e=some sz/\xs.length=ver/\0<=i/\i<len then .val (.ptr id ver (off+i.toNat) 0) h else .stuck
   |_,_=>.stuck
  |.p (.ptr sz xs j o) =>
   match cU P T with
   |some (n,e)=>match bM P e with | some s=>if 0<=i/\i<n then .val (.p (.ptr sz xs j (o+i.toNat*s))) h else .stuck | none=>.stuck
   |none=>.stuck
  |.ptr id ver j o =>
   match cU P T with
   |some (n,e) =>
    match bM P e,fU h id ver with
    |some s,some _=>if 0<=i/\i<n then .val (.ptr id ver j (o+i.toNat*s)) h else .stuck
    |_,_=>.stuck
   |none=>.stuck
  |_=>.stuck
 |_=>.stuck
def uP (P:Program) (T:TypeId) (x ix:AV) (h:Heap):OR :=
 match ix with
 |.p (.int _ i) =>
  match x with
  |.p (.str s)=>if dW P T=true/\0<=i then match s[i.toNat]? with | some b=>.val (.p (.int .u8 b.toNat)) h | none=>.stuck else .stuck
  |.p (.agg _) | .agg _ =>
   match cU P T with
   |some (n,e)=>match bM P e with | some s=>if 0<=i/\i<n then gJ h (jW P e x (i.toNat*s)) else .stuck | none=>.stuck
   |none=>.stuck
  |_=>.stuck
 |_=>.stuck
def lm:Option AV->Option (Option Int)
 |none=>some none
 |some (.p (.int _ i))=>some (some i)
 |_=>none
def lu (l r:Option Int) (len:Nat):Option (Nat×Nat) :=
 if 0<=l.getD 0/\l.getD 0<=r.getD len/\r.getD len<=len then some ((l.getD 0).toNat,(r.getD len).toNat) else none
def rN (P:Program) (T:TypeId) (x:AV) (lo hi mx:Option AV) (h:Heap):OR :=
 match lm lo,lm hi,lm mx with
 |some l,some r,some m =>
  match x with
  |.p (.slice sz xs full) =>
   match ba P T,lu l r xs.length with
   |some e,some (a,b) =>
    if bM P e=some sz then
     match m with
     |none=>.val (.p (.slice sz ((xs.take b).drop a) (full&&b==xs.length))) h
     |some m=>if r=some m then .val (.p (.slice sz ((xs.take b).drop a) true)) h else .stuck
    else .stuck
   |_,_=>.stuck
  |.slice id ver off len =>
   match ba P T,h[id]?,lu l r len,m with
   |some e,some (.row sz xs),some (a,b),none =>
    if bM P e=some sz/\xs.length=ver then .val (.slice id ver (off+a) (b-a)) h else .stuck
   |some e,some (.row sz xs),_,some m =>
    if bM P e=some sz/\xs.length=ver/\r.isSome=true/\0<=l.getD 0/\l.getD 0<=r.getD 0/\r.getD 0<=m/\off+m<=ver then .val .undef h else .stuck
   |some e,some (.row sz xs),none,none =>
    if bM P e=some sz/\xs.length=ver/\r.isSome=true/\0<=l.getD 0/\l.getD 0<=r.getD 0/\off+r.getD 0<=ver then .val (.slice id ver (off+(l.getD 0).toNat) ((r.getD 0).toNat-(l.getD 0).toNat)) h else .stuck
   |_,_,_,_=>.stuck
  |.p (.str s) =>
   match lu l r s.size,m with
   |some (a,b),none=>if dW P T=true then .val (.p (.str (s.extract a b))) h else .stuck
   |_,_=>.stuck
  |.p .nilslice =>
   match ba P T,lu l r 0,m with
   |some e,some _,none=>if (bM P e).isSome=true then .val (.p .nilslice) h else .stuck
   |_,_,_=>.stuck
  |_=>.stuck
 |_,_,_=>.stuck
inductive CK where
 |bool | int | str
 deriving DecidableEq
def mS:CK->PV->PV->Option Bool
 |.bool,.bool a,.bool b=>some (a==b)
 |.int,.int j a,.int k b=>if j=k then some (a==b) else none
 |.str,.str a,.str b=>some (a==b)
 |_,_,_=>none
def dI:List CK->List PV->List PV->Option Bool
 |[],[],[]=>some true
 |k::ks,x::a,y::b=>match mS k x y,dI ks a b with | some s,some t=>some (s&&t) | _,_=>none
 |_,_,_=>none
def uf (P:Program) (rec:TypeId->Option (List CK)):List Field->Nat->Option (List CK)
 |[],_=>some []
 |f::fs,n =>
  if f.name ≠ "_" /\ f.offset=n then
   match rec f.type with
   |some ks=>if bM P f.type=some ks.length/\(bK P f.type).isSome=true then match uf P rec fs (n+ks.length) with | some r=>some (ks++r) | none=>none else none
   |none=>none
  else none
def k7 (P:Program):Nat->TypeId->Option (List CK)
 |0,_=>none
 |d+1,T =>
  match P.underlying T with
  |some .bool=>some [.bool]
  |some (.int _)=>some [.int]
  |some .string=>some [.str]
  |some (.struct fs)=>if P.stoodInHeld T then none else uf P (k7 P d) fs.toList 0
  |_=>none
def b7 (P:Program) (T:TypeId):Option (List CK) :=
 if P.eqGuardType P.depth T=false/\bK P T=some true then k7 P 20 T else none
inductive TK where
 |bool | iface | slice | ptr | func | other
 deriving DecidableEq
def bG (P:Program) (T:TypeId):TK :=
 match P.underlying T with
 |some .bool=>.bool
 |some (.interface _)=>.iface
 |some (.slice _)=>.slice
 |some (.func _ _ _)=>.func
 |some (.pointer e)=>if bM P e=none\/bM P e=some 0 then .other else .ptr
 |_=>.other
def Ek (P:Program) (T:TypeId) (cst:Bool) (x y:AV):Option Bool :=
 match x,y with
 |.p (.bool a),.p (.bool b)=>if bG P T=.bool then some (a==b) else none
 |.p (.agg a),.p (.agg b)=>match b7 P T with | some ks=>dI ks a b | none=>none
 |.p .niliface,.p .niliface=>if cst=true/\bG P T=.iface then some true else none
 |.p .niliface,.p (.iface _ _)=>if bG P T=.iface then some false else none
 |.p (.iface _ _),.p .niliface=>if bG P T=.iface then some false else none
 |.p .nilslice,.p .nilslice=>if bG P T=.slice then some true else none
 |.p .nilslice,.p (.slice _ xs _)=>if bG P T=.slice/\xs≠[] then some false else none
 |.p (.slice _ xs _),.p .nilslice=>if bG P T=.slice/\xs≠[] then some false else none
 |.p .nilptr,.p .nilptr=>if bG P T=.ptr then some true else none
 |.p .nilptr,.p (.ptr _ _ _ _)=>if bG P T=.ptr then some false else none
 |.p (.ptr _ _ _ _),.p .nilptr=>if bG P T=.ptr then some false else none
 |.p .nilfunc,.p .nilfunc=>if bG P T=.func then some true else none
 |.p (.func _ _ _),.p .nilfunc=>if bG P T=.func then some false else none
 |.func _ _ _,.p .nilfunc=>if bG P T=.func then some false else none
 |_,_=>none
def de:Nat:=1099511627776
def xC (op:BinOp) (a b:ByteArray):Option PV :=
 match op with
 |.eql=>some (.bool (a==b))
 |.neq=>some (.bool !(a==b))
 |.add=>if a.size+b.size<=de then some (.str (a++b)) else none
 |.lss=>some (.bool (Op.bytesLess a.toList b.toList))
 |_=>none
def ru (op:BinOp) (k:IntKind) (a b:Int):Option PV :=
 match op with
 |.add=>some (.int k (k.wrap (a+b)))
 |.sub=>some (.int k (k.wrap (a-b)))
 |.mul=>some (.int k (k.wrap (a*b)))
 |.quo=>if b=0 then none else some (.int k (k.wrap (a.tdiv b)))
 |.rem=>if b=0 then none else some (.int k (a.tmod b))
 |.eql=>some (.bool (a==b))
 |.neq=>some (.bool (a != b))
 |.lss=>some (.bool (a<b))
 |.leq=>some (.bool (a<=b))
 |.gtr=>some (.bool (b<a))
 |.geq=>some (.bool (b<=a))
 |.and=>some (.int k (k.wrap (BitVec.ofInt k.bits a&&& BitVec.ofInt k.bits b).toNat))
 |.or=>some (.int k (k.wrap (BitVec.ofInt k.bits a||| BitVec.ofInt k.bits b).toNat))
 |.andNot=>some (.int k (k.wrap (BitVec.ofInt k.bits a&&& ~~~BitVec.ofInt k.bits b).toNat))
 |_=>none
def ez (op:BinOp) (k:IntKind) (a b:Int):Option PV :=
 if b<0 then none else
 match op with
 |.shl=>some (.int k (k.wrap (a*2^(min b.toNat k.bits))))
 |.shr=>some (.int k (a.fdiv (2^(min b.toNat k.bits))))
 |_=>none
def vu:BinOp->Bool
 |.shl=>true
 |.shr=>true
 |_=>false
def qQ (h:Heap):Option PV->OR
 |some v=>.val (.p v) h
 |none=>.stuck
def Ab (P:Program) (op:BinOp) (T:TypeId) (cst:Bool) (x y:AV) (h:Heap):OR :=
 match x,y with
 |.p (.int k a),.p (.int k' b)=>if vu op=true then qQ h (ez op k a b) else if k=k' then qQ h (ru op k a b) else .stuck
 |.p (.str a),.p (.str b)=>qQ h (xC op a b)
 |x,y =>
  match op with
  |.eql=>qQ h ((Ek P T cst x y).map .bool)
  |.neq=>qQ h ((Ek P T cst x y).map λt=>.bool !t)
  |_=>.stuck
def GD (op:UnOp) (x:AV) (h:Heap):OR :=
 match op,x with
 |.not,.p (.bool b)=>.val (.p (.bool !b)) h
 |.neg,.p (.int k a)=>.val (.p (.int k (k.wrap (-a)))) h
 |_,_=>.stuck
def dn (P:Program) (src dst:TypeId):Option IntKind :=
 match P.underlying src,P.underlying dst with
 |some _,some (.int k)=>some k
 |_,_=>none
def rq:List PV->Option (List Int)
 |[]=>some []
 |.int .u8 n::r=>(rq r).map (n::·)
 |_::_=>none
def wY (P:Program) (T:TypeId):Bool :=
 match ba P T with
 |some e=>(match P.underlying e with | some (.int .u8)=>true | _=>false)
 |none=>false
def nv (P:Program) (src dst:TypeId) (x:AV) (h:Heap):OR :=
 match x with
 |.p (.int _ n)=>match dn P src dst with | some k=>.val (.p (.int k (k.wrap n))) h | none=>.stuck
 |.p (.str s)=>if dW P src=true/\dW P dst=true then .val (.p (.str s)) h else .stuck
 |.p (.slice 1 (x::xs) _)=>if wY P src=true/\dW P dst=true then (match rq (x::xs) with | some ns=>.val (.p (.str ⟨(ns.map λn=>UInt8.ofNat n.toNat).toArray⟩)) h | none=>.stuck) else .stuck
 |_=>.stuck
def tg (place:Nat->Option (Nat×Nat)):List (Nat×AV)->List AV->Option (List AV)
 |[],cs=>some cs
 |(i,v)::r,cs =>
  match place i,v.cells with
  |some (off,n),some new=>if new.length=n/\off+n<=cs.length then tg place r (jk cs off new) else none
  |_,_=>none
def al (P:Program) (T:TypeId):Option (List (Nat×Nat)) :=
 match P.underlying T with
 |some (.struct fs)=>fs.toList.mapM λf=>(P.info? f.type).map λi=>(f.offset,i.size)
 |_=>none
def rP (P:Program) (T:TypeId) (ps:List (Nat×AV)) (h:Heap):OR :=
 match ak P T with
 |some (.agg z) =>
  match al P T with
  |some pl=>match tg (λi=>pl[i]?) ps (z.map .p) with | some cs=>.val (oX cs) h | none=>.stuck
  |none =>
   match cU P T with
   |some (_,e) =>
    match bM P e with
    |some s=>match tg (λi=>some (i*s,s)) ps (z.map .p) with | some cs=>.val (oX cs) h | none=>.stuck
    |none=>.stuck
   |none=>.stuck
 |_=>.stuck
def p9:Nat->Nat->List (Nat×AV)->Option (List AV)
 |_,_,[]=>some []
 |i,sz,(j,v)::r=>if i=j/\v.cells.map (·.length)=some sz then match p9 (i+1) sz r with | some l=>some (v::l) | none=>none else none
def jQ (P:Program) (T:TypeId) (mu:Bool) (n:Nat) (ps:List (Nat×AV)) (h:Heap):OR :=
 match ba P T with
 |some e =>
  match bM P e with
  |some sz =>
   match p9 0 sz ps with
   |some xs =>
    if xs.length=n/\sz≠0/\n*sz<=16777216/\fm P e sz=true then
     match mu,fB xs with
     |false,some l=>.val (.p (.slice sz l true)) h
     |_,_=>.val (.slice h.length n 0 n) (h++[.row sz xs])
    else .stuck
   |none=>.stuck
  |none=>.stuck
 |none=>.stuck
def nu (x:AV) (i:Nat) (h:Heap):OR :=
 match x with
 |.p (.tuple vs)=>match vs[i]? with | some v=>.val (.p v) h | none=>.stuck
 |.tuple vs=>match vs[i]? with | some v=>.val v h | none=>.stuck
 |_=>.stuck
def xh (P:Program) (T:TypeId) (x:AV) (h:Heap):OR :=
 match x with
 |.p (.str s)=>if dW P T=true then .val (.p (.int .i64 s.size)) h else .stuck
 |.p (.slice _ xs _)=>if (ba P T).isSome=true then .val (.p (.int .i64 xs.length)) h else .stuck
 |.p .nilslice=>if (ba P T).isSome=true then .val (.p (.int .i64 0)) h else .stuck
 |.slice id ver _ len=>if (ba P T).isSome=true/\(fU h id ver).isSome=true then .val (.p (.int .i64 len)) h else .stuck
 |.p (.agg _)=>match cU P T with | some (n,_)=>.val (.p (.int .i64 n)) h | none=>.stuck
 |_=>.stuck
def jy (h:Heap) (sz:Nat):AV->Option (List AV)
 |.p .nilslice=>some []
 |.p (.slice sz' xs _)=>if sz'=sz then some (xs.map .p) else none
 |.p (.str s)=>if sz=1 then some (s.data.toList.map λb=>.p (.int .u8 b.toNat)) else none
 |.slice id ver off len =>
  match h[id]? with
  |some (.row sz' xs)=>if sz'=sz/\xs.length=ver/\off+len<=xs.length then some (sub off len xs) else none
  |_=>none
 |_=>none
def aB:Nat:=274877906944
def rQ (P:Program) (T U:TypeId) (x y:AV) (h:Heap):OR :=
 match ba P T with
 |some e =>
  if (ba P U).isSome=false/\dW P U=false then .stuck else
  match bM P e,kt P e with
  |some sz,some bytes =>
   match jy h sz y with
   |some ys =>
    if sz≠0/\bytes<=256/\fm P e sz=true then
     match x with
     |.p .nilslice=>if ys.length<=aB then if ys=[] then .val (.p .nilslice) h else .val (.slice h.length ys.length 0 ys.length) (h++[.row sz ys]) else .stuck
     |.p (.slice sz' xs true) =>
      if sz'=sz/\xs.length+ys.length<=aB then
       if ys=[] then .val x h else .val (.slice h.length (xs.length+ys.length) 0 (xs.length+ys.length)) (h++[.row sz (xs.map .p++ys)])
      else .stuck
     |.slice id ver off len =>
      match h[id]? with
      |some (.row sz' xs) =>
       if sz'=sz/\xs.length=ver/\off=0/\len=ver/\xs.length+ys.length<=aB then
        .val (.slice id (xs.length+ys.length) 0 (xs.length+ys.length)) (h.set id (.row sz (xs++ys)))
       else if sz'=sz/\xs.length=ver/\off=0/\len+ys.length<=ver then
        .val (.slice id ver 0 (len+ys.length)) (h.set id (.row sz (xs.take len++ys++xs.drop (len+ys.length))))
       else .stuck
      |_=>.stuck
     |_=>.stuck
    else .stuck
   |none=>.stuck
  |_,_=>.stuck
 |none=>.stuck
def pj (P:Program) (T:TypeId) (l c:AV) (h:Heap):OR :=
 match ba P T,l,c with
 |some e,.p (.int .i64 l),.p (.int .i64 c) =>
  match bM P e,kt P e,ak P e with
  |some sz,some bytes,some z =>
   if sz≠0/\bytes<=256/\z.cells.length=sz/\(AV.p z).cells.isSome=true/\0<=l/\l<=c/\c<=aB then .val (.slice h.length l.toNat 0 l.toNat) (h++[.row sz (List.replicate l.toNat (.p z))]) else .stuck
  |_,_,_=>.stuck
 |_,_,_=>.stuck
def yZ (P:Program) (T:TypeId) (x:AV) (h:Heap):OR :=
 match ba P T,x with
 |some e,.slice id ver off len =>
  match h[id]?,bM P e,ak P e with
  |some (.row sz xs),some sz',some z =>
   if sz'=sz/\xs.length=ver/\off+len<=ver/\z.cells.length=sz/\sz≠0/\(AV.p z).cells.isSome=true then
    .val (.p (.tuple [])) (h.set id (.row sz (xs.take off++List.replicate len (.p z)++xs.drop (off+len))))
   else .stuck
  |_,_,_=>.stuck
 |_,_=>.stuck
def vK (h:Heap) (sz len:Nat) (y:AV):Option (List AV) :=
 match y with
 |.slice id ver off n =>
  match h[id]? with
  |some (.row sz' ys)=>if sz'=sz/\ys.length=ver/\off+n<=ver then some (sub off (Nat.min n len) ys) else none
  |_=>none
 |.p (.slice sz' xs full)=>match jy h sz (.p (.slice sz' xs full)) with | some ys=>if ys.length<=len then some ys else none | none=>none
 |_=>none
def B2 (P:Program) (T:TypeId) (x y:AV) (h:Heap):OR :=
 match ba P T,x with
 |some e,.slice id ver off len =>
  match h[id]?,bM P e with
  |some (.row sz xs),some sz' =>
   if sz'=sz/\xs.length=ver/\off+len<=ver then
    match vK h sz len y with
    |some ys=>.val (.p (.int .i64 (ys.length:Int))) (h.set id (.row sz (xs.take off++ys++xs.drop (off+ys.length))))
    |none=>.stuck
   else .stuck
  |_,_=>.stuck
 |_,_=>.stuck
def qa (P:Program) (b:Builtin) (ts:Array TypeId) (args:List AV) (h:Heap):OR :=
 match b,args with
 |.len,[x]=>if ts.size=1 then xh P (ts.getD 0 0) x h else .stuck
 |.append,[x,y]=>if ts.size=2 then rQ P (ts.getD 0 0) (ts.getD 1 0) x y h else .stuck
 |.min,[.p (.int j a),.p (.int _ b)]=>.val (.p (.int j (if b<a then b else a))) h
 |.max,[.p (.int j a),.p (.int _ b)]=>.val (.p (.int j (if a<b then b else a))) h
 |.recover,[]=>.recover
 |.clear,[x]=>if ts.size=1 then yZ P (ts.getD 0 0) x h else .stuck
 |.copy,[x,y]=>if ts.size=2 then B2 P (ts.getD 0 0) x y h else .stuck
 |_,_=>.stuck
def eX (f:AV) (args:List AV):OR :=
 match f with
 |.p (.func (.func g) first cap)=>.call g (first.map .p++args++cap.map .p)
 |.func (.func g) first cap=>.call g (first++args++cap)
 |.ref .yl l=>.yld l args
 |_=>.stuck
def uQ (f:AV) (args:List AV):OR :=
 match eX f args with
 |.call g l=>.dfr (.fn g l)
 |_=>.stuck
def jY:Operand->Bool
 |.const _=>true
 |_=>false
def jO (P:Program) (A:TypeId) (ok:Bool) (x:AV) (h:Heap):OR :=
 match fj P A,x with
 |some false,.p (.iface t v)=>if t=A then .val (.p (if ok then .tuple [v,.bool true] else v)) h else if ok=true then (match ak P A with | some z=>.val (.p (.tuple [z,.bool false])) h | none=>.stuck) else .stuck
 |_,_=>.stuck
def yY (P:Program) (T:TypeId) (x:AV) (h:Heap):OR :=
 match x with
 |.p (.str s)=>if dW P T=true then .val (.ref .it h.length) (h++[.strIter s 0]) else .stuck
 |_=>.stuck
def B1 (isStr:Bool) (x:AV) (h:Heap):OR :=
 match isStr,x with
 |true,.ref .it id =>
  match h[id]? with
  |some (.strIter s pos) =>
   if pos<s.size then .val (.p (.tuple [.bool true,.int .i64 pos,.int .i32 (Utf8.decode s pos).1])) (h.set id (.strIter s (pos+(Utf8.decode s pos).2)))
   else .val (.p (.tuple [.bool false])) h
  |_=>.stuck
 |_,_=>.stuck
def DH:PV->CK
 |.int _ _=>.int
 |.str _=>.str
 |_=>.bool
def iQ:PV->PV->Option Bool
 |.int j a,.int k b=>if j=k then some (a==b) else none
 |.str a,.str b=>some (a==b)
 |.agg a,.agg b=>dI (a.map DH) a b
 |_,_=>none
def yK (P:Program) (T:TypeId):Option CK:=match P.underlying T with | some .bool=>some .bool | some (.int _)=>some .int | some .string=>some .str | _=>none
def tX (P:Program):List Field->Nat->Option (List CK)
 |[],_=>some []
 |f::fs,n=>if f.name ≠ "_" /\ f.offset=n then (match yK P f.type,tX P fs (n+1) with | some k,some r=>some (k::r) | _,_=>none) else none
def wR (P:Program) (T:TypeId):Option (TypeId×TypeId):=match P.underlying T with | some (.map k e)=>some (k,e) | _=>none
inductive KK where
 |int | str | no | agg (ks:List CK)
def ow (P:Program) (K:TypeId):KK:=match P.underlying K with
 |some (.int _)=>.int
 |some .string=>.str
 |some (.struct fs)=>if P.stoodInHeld K then .no else match tX P fs.toList 0 with | some ks=>.agg ks | none=>.no
 |_=>.no
def sM (P:Program) (K:TypeId) (k:PV):Bool:=match ow P K,k with | .int,.int _ _=>true | .str,.str _=>true | .agg ks,.agg a=>(dI ks a a).isSome | _,_=>false
def ki (k:PV):List (PV×PV)->Option (Option PV)
 |[]=>some none
 |(q,v)::r=>match iQ k q with | some true=>some (some v) | some false=>ki k r | none=>none
def mq (k v:PV):List (PV×PV)->Option (List (PV×PV))
 |[]=>some [(k,v)]
 |(q,u)::r=>match iQ k q with | some true=>some ((k,v)::r) | some false=>(mq k v r).map ((q,u)::·) | none=>none
def Ej (_:Program) (_:TypeId) (r:Option AV) (h:Heap):OR :=
 match r with
 |none=>.val (.ref .mp h.length) (h++[.mp []])
 |some _=>.stuck
def zy (ok:Bool) (v:PV) (b:Bool) (h:Heap):OR:=.val (.p (if ok then .tuple [v,.bool b] else v)) h
def pA (P:Program) (T:TypeId) (x k:AV) (ok:Bool) (h:Heap):OR :=
 match wR P T,x,k with
 |some (K,E),.ref .mp id,.p k =>
  match h[id]?,ak P E with
  |some (.mp es),some z =>
   if sM P K k=true then
    match ki k es with
    |some (some v)=>zy ok v true h
    |some none=>zy ok z false h
    |none=>.stuck
   else .stuck
  |_,_=>.stuck
 |_,_,_=>.stuck
def ph (P:Program) (T:TypeId) (x k v:AV) (h:Heap):OR :=
 match wR P T,x,k,v with
 |some (K,_),.ref .mp id,.p k,.p v =>
  match h[id]? with
  |some (.mp es)=>if sM P K k=true then (match mq k v es with | some es'=>.skip (h.set id (.mp es')) | none=>.stuck) else .stuck
  |some (.memo f)=>if sM P K k=true/\f k v=true then .skip h else .stuck
  |_=>.stuck
 |_,_,_,_=>.stuck
def bH (P:Program) (mu:Nat->Bool) (o:Oper) (e:Operand->AV) (h:Heap):OR :=
 match o.op with
 |.move x=>.val (e x) h
 |.assign x=>.val (e x) h
 |.pick c a b=>match e c with | .p (.bool t)=>.val (if t then e a else e b) h | _=>.stuck
 |.alloc T=>if my P T=true then (match ak P T,GA P T with | some (.agg [.nilptr,.nilslice]),some e=>.val (.ref .bl h.length) (h++[.bld T e (.p .nilslice)]) | _,_=>.stuck) else match ak P T with | some z=>if (AV.p z).cells.isSome=true then .val (.ptr h.length 1 0 0) (h++[.row z.cells.length [.p z]]) else .stuck | none=>.stuck
 |.box _ x=>match (e x).cells with | some cs=>.val (.ptr h.length 1 0 0) (h++[.row cs.length [e x]]) | none=>.stuck
 |.build T ps=>rP P T (ps.toList.map λq=>(q.1,e q.2)) h
 |.buildSlice T n ps=>jQ P T (match o.dst with | some d=>mu d | none=>false) n (ps.toList.map λq=>(q.1,e q.2)) h
 |.load T a=>mO P T (e a) h
 |.store T a x=>fM P T (e a) (e x) h
 |.nilCheck x=>match e x with | .p (.ptr sz xs i o)=>.val (.p (.ptr sz xs i o)) h | .ptr id ver i o=>(match fU h id ver with | some _=>.val (.ptr id ver i o) h | none=>.stuck) | _=>.stuck
 |.binOp op T x y _=>Ab P op T (jY x||jY y) (e x) (e y) h
 |.unOp op _ x=>GD op (e x) h
 |.convert src dst x=>nv P src dst (e x) h
 |.makeInterface T x=>if fj P T=some false then match e x with | .p v=>.val (.p (.iface T v)) h | _=>.stuck else .stuck
 |.makeFunc fn first cap=>if (first.toList.map e).all AV.plain=true/\(cap.toList.map e).all AV.plain=true then .val (x8 fn (first.toList.map e) (cap.toList.map e)) h else .stuck
 |.makeSlice T l c=>pj P T (e l) (e c) h
 |.slice T x lo hi mx=>rN P T (e x) (lo.map e) (hi.map e) (mx.map e) h
 |.fieldAddr T x f=>kQ P T (e x) f h
 |.field T x f=>rO P T (e x) f h
 |.indexAddr T x i=>gr P T (e x) (e i) h
 |.index T x i=>uP P T (e x) (e i) h
 |.extract t i=>nu (e t) i h
 |.call c =>
  match c.callee with
  |.value f=>eX (e f) (c.args.toList.map e)
  |.builtin b=>qa P b c.argTypes (c.args.toList.map e) h
  |.invoke _ _=>.stuck
 |.defer c =>
  match c.callee with
  |.value f=>uQ (e f) (c.args.toList.map e)
  |_=>.stuck
 |.panic x=>match e x with | .p (.iface t v)=>.panic (.iface t v) | _=>.stuck
 |.typeAssert x _ A ok=>jO P A ok (e x) h
 |.range T x=>yY P T (e x) h
 |.next i isStr=>B1 isStr (e i) h
 |.makeMap T r=>Ej P T (r.map e) h
 |.lookup T x k ok=>pA P T (e x) (e k) ok h
 |.mapUpdate T m k v=>ph P T (e m) (e k) (e v) h
 |_=>.stuck
inductive AEnd where
 |ret (v:AV)
 |panic (v:PV)
inductive Ex where
 |normal
 |exit (id:Nat)
 |ret
 |panic (v:PV)
def pw (A:AAct) (d:Option Tmp) (want:Bool):Option Bool :=
 match d with
 |none=>some false
 |some d=>match A.tmps d with | .p (.bool b)=>some (b==want) | .p (.tuple _)=>some false | _=>none
def bi (ops:Array Oper) (A:AAct) (o:Oper):Option Bool :=
 match o.guard with
 |none=>some true
 |some (j,want)=>pw A ((ops[j]?).bind (·.dst)) want
def ED (b:Bool) (X Y:Unit->Prop):Prop:=(b=true->X ())/\(b=false->Y ())
end Abs
end Go.Proofs.YtfafnkpfamgbbaaGreatDoor
