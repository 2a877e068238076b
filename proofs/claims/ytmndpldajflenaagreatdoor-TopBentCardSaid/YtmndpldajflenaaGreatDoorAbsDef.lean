/- DEFINITIONS OF AN ABSTRACT MACHINE: immutable values, a heap of the call's own, and what a -/
import Derived.WalkKit
set_option linter.all false
namespace Go.Proofs.YtmndpldajflenaaGreatDoor
namespace Abs
abbrev oz:=@Array.ext
abbrev Fh:=@Array.foldl_toList
abbrev gG:=@Array.getD_eq_getD_getElem?
abbrev IY:=@Array.getElem?_append
abbrev Fg:=@Array.getElem?_eq_getElem
abbrev xv:=@Array.getElem?_eq_none
abbrev uL:=@Array.getElem?_eq_some_iff
abbrev IX:=@Array.getElem?_modify
abbrev NU:=@Array.getElem?_setIfInBounds_ne
abbrev Ff:=@Array.length_toList
abbrev DI:=@Array.mem_toList_iff
abbrev zB:=@Array.size_eq_zero_iff
abbrev bY:=@Bool.and_eq_true
abbrev wD:=@Bool.eq_false_iff
abbrev gC:=@Bool.eq_iff_iff
abbrev gZ:=@Bool.false_eq_true
abbrev gA:=@Bool.false_or
abbrev DG:=@Bool.not_and
abbrev ud:=@Bool.not_eq_true'
abbrev lw:=@Bool.not_false
abbrev DF:=@Bool.or_eq_true
abbrev fM:=@Bool.or_false
abbrev kM:=@Bool.true_and
abbrev gY:=@Bool.true_or
abbrev zA:=@Function.comp_def
abbrev mH:=@Int.add_zero
abbrev DE:=@Int.le_of_lt
abbrev dF:=@Int.le_refl
abbrev nt:=@Int.le_trans
abbrev wC:=@Int.mul_assoc
abbrev La:=@Int.mul_le_mul_of_nonneg_right
abbrev uc:=@Int.toNat_natCast
abbrev iw:=@List.all_eq_true
abbrev eV:=@List.any_cons
abbrev fL:=@List.any_eq_true
abbrev ub:=@List.any_map
abbrev fC:=@List.any_nil
abbrev bJ:=@List.append_assoc
abbrev kL:=@List.append_eq
abbrev co:=@List.append_nil
abbrev DD:=@List.concat_eq_append
abbrev rO:=@List.cons_append
abbrev nq:=@List.drop_drop
abbrev rN:=@List.drop_eq_getElem_cons
abbrev pf:=@List.drop_of_length_le
abbrev oZ:=@List.drop_zero
abbrev DB:=@List.eq_nil_of_length_eq_zero
abbrev zy:=@List.eq_nil_or_concat
abbrev iv:=@List.ext_getElem?
abbrev zx:=@List.filter_append
abbrev oY:=@List.foldl_append
abbrev np:=@List.foldl_cons
abbrev bB:=@List.getD_eq_getElem?_getD
abbrev br:=@List.getElem?_append_left
abbrev ca:=@List.getElem?_append_right
abbrev wB:=@List.getElem?_cons_succ
abbrev zw:=@List.getElem?_cons_zero
abbrev nn:=@List.getElem?_drop
abbrev aT:=@List.getElem?_eq_getElem
abbrev fq:=@List.getElem?_eq_none
abbrev aA:=@List.getElem?_eq_some_iff
abbrev bU:=@List.getElem?_map
abbrev ua:=@List.getElem?_mapIdx
abbrev eL:=@List.getElem?_of_mem
abbrev zu:=@List.getElem?_replicate
abbrev zt:=@List.getElem?_set
abbrev cq:=@List.getElem?_set_ne
abbrev fp:=@List.getElem?_set_self
abbrev kh:=@List.getElem?_take
abbrev zq:=@List.getElem?_toArray
abbrev nk:=@List.getElem_mem
abbrev ay:=@List.length_append
abbrev du:=@List.length_cons
abbrev zk:=@List.length_eq_one_iff
abbrev wA:=@List.length_eq_zero_iff
abbrev qj:=@List.length_map
abbrev gz:=@List.length_nil
abbrev wy:=@List.length_pos_iff
abbrev Hp:=@List.length_set
abbrev aC:=@List.length_singleton
abbrev zj:=@List.length_take
abbrev kg:=@List.map_append
abbrev lv:=@List.map_congr_left
abbrev iu:=@List.map_cons
abbrev oX:=@List.map_map
abbrev zi:=@List.map_nil
abbrev zh:=@List.map_set
abbrev qh:=@List.map_take
abbrev gu:=@List.mem_append
abbrev dQ:=@List.mem_cons
abbrev eU:=@List.mem_cons_of_mem
abbrev eK:=@List.mem_map
abbrev aV:=@List.mem_of_getElem?
abbrev zg:=@List.mem_of_mem_take
abbrev bX:=@List.mem_range
abbrev DA:=@List.mem_singleton
abbrev ww:=@List.nil_append
abbrev qg:=@List.nodup_cons
abbrev rM:=@List.not_mem_nil
abbrev wv:=@List.replicate_succ
abbrev kO:=@List.set_append_left
abbrev yR:=@List.set_append_right
abbrev yQ:=@List.take_add_one
abbrev ox:=@List.take_append_drop
abbrev i6:=@List.take_left'
abbrev yP:=@List.take_length
abbrev dz:=@List.take_of_length_le
abbrev fX:=@Nat.add_assoc
abbrev cG:=@Nat.add_mul
abbrev j5:=@Nat.add_zero
abbrev yO:=@Nat.eq_or_lt_of_le
abbrev ow:=@Nat.eq_zero_or_pos
abbrev s8:=@Nat.le_of_ble_eq_true
abbrev yN:=@Nat.le_of_eq
abbrev aJ:=@Nat.le_refl
abbrev iZ:=@Nat.le_trans
abbrev hP:=@Nat.lt_of_lt_of_le
abbrev aw:=@Nat.lt_or_ge
abbrev yM:=@Nat.min_eq_left
abbrev DH:=@Nat.mod_eq_of_lt
abbrev kN:=@Nat.mod_lt
abbrev s7:=@Nat.mul_comm
abbrev eO:=@Nat.mul_le_mul_right
abbrev uM:=@Nat.ne_of_lt
abbrev ql:=@Nat.one_mul
abbrev yL:=@Nat.pow_le_pow_right
abbrev qk:=@Nat.sub_self
abbrev eN:=@Nat.zero_add
abbrev bE:=@Nat.zero_le
abbrev ot:=@Option.bind_some
abbrev jz:=@Option.getD_some
abbrev ec:=@Option.isSome_iff_exists
abbrev bx:=@Option.map_eq_some_iff
abbrev dy:=@Option.map_some
abbrev fW:=@Option.some.inj
abbrev iy:=@Option.some.injEq
abbrev aG:=@Result.andThen_ok
inductive PV where
 |bool (b:Bool)
 |int (k:IntKind) (n:Int)
 |str (s:ByteArray)
 |agg (cs:List PV)
 |tuple (vs:List PV)
 |slice (sz:Nat) (xs:List PV) (full:Bool)
 |nilslice
 |ptr (sz:Nat) (xs:List PV) (i o:Nat)
 |nilptr
 |func (fn:Fn) (first cap:List PV)
 |nilfunc
 |iface (t:TypeId) (v:PV)
 |niliface
 |any
 deriving Inhabited
def PV.cells:PV->List PV
 |.agg cs=>cs
 |v=>[v]
inductive RK where
 |it|yl|mp|dk|bl
 deriving DecidableEq,Inhabited
inductive AV where
 |p (v:PV)
 |ptr (id ver i o:Nat)
 |slice (id ver off len:Nat)
 |agg (cs:List AV)
 |func (fn:Fn) (first cap:List AV)
 |tuple (vs:List AV)
 |ref (k:RK) (id:Nat)
 |iptr (t:TypeId) (id:Nat)
 |arr (id ver i o n:Nat)
 |undef
 deriving Inhabited
def AV.cells:AV->Option (List AV)
 |.p (.tuple _)=>none
 |.p v=>some (v.cells.map .p)
 |.agg cs=>some cs
 |.tuple _=>none
 |.undef=>none
 |v=>some [v]
def PV.isCell:PV->Bool
 |.agg _=>false
 |.tuple _=>false
 |_=>true
def AV.isCell:AV->Bool
 |.p v=>v.isCell
 |.agg _=>false
 |.tuple _=>false
 |.undef=>false
 |_=>true
def AV.plain:AV->Bool
 |.p _=>true
 |.ptr _ _ _ _=>true
 |.slice _ _ _ _=>true
 |.ref _ _=>true
 |.iptr _ _=>true
 |.arr _ _ _ _ _=>true
 |_=>false
def bV:List AV->Option (List PV)
 |[]=>some []
 |.p v::r=>match bV r with|some l=>some (v::l)|none=>none
 |_::_=>none
def iC (cs:List AV):AV:=match bV cs with|some l=>.p (.agg l)|none=>.agg cs
def m7 (cs:List AV):AV:=match bV cs with|some l=>.p (.tuple l)|none=>.tuple cs
def vn (fn:Fn) (first cap:List AV):AV:=
 match bV first,bV cap with|some a,some b=>.p (.func fn a b)|_,_=>.func fn first cap
inductive AObj where
 |row (sz:Nat) (xs:List AV)
 |strIter (s:ByteArray) (pos:Nat)
 |mp (es:List (PV×PV))
 |memo (f:PV->PV->Bool)
 |loop (n:Nat) (tmps:Nat->AV) (ps:Array Tmp) (assign body:Code) (st:LoopState) (pend:Option Code)
 |dblock
 |bld (T e:TypeId) (x:AV)
 |dead
abbrev Heap:=List AObj
def AObj.tag:AObj->Option RK
 |.strIter _ _=>some .it
 |.mp _=>some .mp
 |.memo _=>some .mp
 |.loop _ _ _ _ _ _ _=>some .yl
 |.dblock=>some .dk
 |.bld _ _ _=>some .bl
 |_=>none
inductive ADef where
 |fn (f:FuncId) (args:List AV)
 |collected (id:Nat)
inductive Rc where
 |no|rnd|none
 |pend (v:PV)
 |got (v:PV)
structure AAct where
 n:Nat
 bs:Nat
 rc:Rc
 tmps:Nat->AV
 h:Heap
 df:List ADef
def rQ (f:Nat->AV) (t:Nat) (v:AV):Nat->AV:=λs=>if s=t then v else f s
theorem zH(f)(t s)(v):rQ f t v s=if s=t then v else f s:=rfl
def AAct.put (A:AAct) (dst:Option Tmp) (v:AV) (h:Heap):AAct:=
 match dst with
 |some d=>{ A with tmps:=rQ A.tmps d v,h:=h }
 |none=>{ A with h:=h }
def mC:Value->Option PV
 |.bool b=>some (.bool b)
 |.int k n=>some (.int k n)
 |.string s=>some (.str s)
 |.pointer none=>some .nilptr
 |.slice none 0 0=>some .nilslice
 |.nilFunc=>some .nilfunc
 |.nilIface=>some .niliface
 |.map none=>some .any
 |.func (.func f) first cap=>if first.size=0/\cap.size=0 then some (.func (.func f) [] []) else none
 |_=>none
def jM:List Value->Option (List PV)
 |[]=>some []
 |v::r=>match mC v,jM r with|some x,some l=>some (x::l)|_,_=>none
def kJ:Value->Option PV
 |.agg cs=>match jM cs.toList with|some l=>some (.agg l)|none=>none
 |.tuple cs=>match jM cs.toList with|some l=>some (.tuple l)|none=>none
 |v=>mC v
def AAct.eval (A:AAct):Operand->AV
 |.tmp t=>A.tmps t
 |.const v=>match kJ v with|some x=>.p x|none=>.undef
 |.global _=>.undef
 |.func f=>.p (.func (.func f) [] [])
def AM (P:Program) (T:TypeId):Bool:=
 match (P.types[T]?).map (λ(i:TypeInfo)=>i.desc) with
 |some (TypeDesc.named n _)=>n == "strings.Builder"
 |_=>false
def aZ (P:Program) (T:TypeId):Option Bool:=
 match P.underlying T with
 |some (.struct _)=>some true
 |some (.array _ _)=>some true
 |some _=>some false
 |none=>none
def bj (P:Program) (T:TypeId):Option Nat:=(P.info? T).map (·.size)
def iP (P:Program) (T:TypeId):Option Nat:=(P.info? T).map (·.bytes)
def ax (P:Program) (T:TypeId):Option PV:=((P.info? T).bind (·.zero)).bind kJ
def nW (P:Program) (T:TypeId) (f:Nat):Option (Nat×TypeId):=
 match P.underlying T with
 |some (.struct fs)=>(fs[f]?).map λx=>(x.offset,x.type)
 |_=>none
def aH (P:Program) (T:TypeId):Option TypeId:=
 match P.underlying T with
 |some (.slice e)=>some e
 |_=>none
def cz (P:Program) (T:TypeId):Option (Nat×TypeId):=
 match P.underlying T with
 |some (.array n e)=>some (n,e)
 |_=>none
def dc (P:Program) (T:TypeId):Bool:=
 match P.underlying T with
 |some .string=>true
 |_=>false
def iD (P:Program) (T:TypeId):Option Bool:=
 match P.underlying T with
 |some (.interface _)=>some true
 |some _=>some false
 |none=>none
def fJ (P:Program) (T:TypeId) (n:Nat):Bool:=
 match (P.info? T).bind (·.zero) with
 |some v=>v.cells.size==n
 |none=>false
def Dn (P:Program) (T:TypeId):Option TypeId:=
 match P.underlying T with
 |some (.struct fs)=>(fs[1]?).bind λx=>aH P x.type
 |_=>none
def sub {α:Type} (o n:Nat) (l:List α):List α:=(l.drop o).take n
def cR {α:Type} (cs:List α) (o:Nat) (new:List α):List α:=cs.take o++new++cs.drop (o+new.length)
def AV.part (v:AV) (agg:Bool) (n o:Nat):Option AV:=
 match v.cells with
 |none=>none
 |some cs=>
  if agg then
   if cs.length=n/\o=0 then
    match v with
    |.p (.agg _)=>some v
    |.agg _=>some v
    |_=>none
   else if o+n<=cs.length then some (iC (sub o n cs)) else none
  else cs[o]?
def jc (P:Program) (T:TypeId) (v:AV) (o:Nat):Option AV:=
 match aZ P T,bj P T with
 |some a,some n=>v.part a n o
 |_,_=>none
def AV.withCells (v:AV) (o:Nat) (x:AV) (n:Nat):Option AV:=
 match v.cells,x.cells with
 |some cs,some new=>
  if new.length=n then
   if cs.length=n/\o=0 then some x
   else if o+n<=cs.length then some (iC (cR cs o new)) else none
  else none
 |_,_=>none
inductive OR where
 |val (v:AV) (h:Heap)
 |skip (h:Heap)
 |call (f:FuncId) (args:List AV)
 |yld (l:Nat) (args:List AV)
 |dfr (d:ADef)
 |recover
 |panic (v:PV)
 |stuck
def fP (h:Heap):Option AV->OR
 |some v=>.val v h
 |none=>.stuck
def lr (P:Program) (T:TypeId) (x:AV) (h:Heap):OR:=
 match x with
 |.p (.ptr _ xs i o)=>match xs[i]? with|some v=>fP h (jc P T (.p v) o)|none=>.stuck
 |.ptr id ver i o=>
  match h[id]? with
  |some (.row _ xs)=>if xs.length=ver then match xs[i]? with|some v=>fP h (jc P T v o)|none=>.stuck else .stuck
  |_=>.stuck
 |_=>.stuck
def fi (P:Program) (T:TypeId) (x y:AV) (h:Heap):OR:=
 match x,bj P T with
 |.ptr id ver i o,some n=>
  match h[id]? with
  |some (.row sz xs)=>
   if xs.length=ver then
    match xs[i]? with
    |some v=>match v.withCells o y n with|some v'=>.skip (h.set id (.row sz (xs.set i v')))|none=>.stuck
    |none=>.stuck
   else .stuck
  |_=>.stuck
 |_,_=>.stuck
def cY (h:Heap) (id ver:Nat):Option Nat:=
 match h[id]? with
 |some (.row sz xs)=>if xs.length=ver then some sz else none
 |_=>none
def jP (P:Program) (T:TypeId) (x:AV) (f:Nat) (h:Heap):OR:=
 match nW P T f with
 |none=>.stuck
 |some (off,t)=>
  match bj P t with
  |none=>.stuck
  |some n=>
   if n=0 then .stuck else
   match x with
   |.p (.ptr sz xs i o)=>.val (.p (.ptr sz xs i (o+off))) h
   |.ptr id ver i o=>match cY h id ver with|some _=>.val (.ptr id ver i (o+off)) h|none=>.stuck
   |_=>.stuck
def qb (P:Program) (T:TypeId) (x:AV) (f:Nat) (h:Heap):OR:=
 match nW P T f with
 |none=>.stuck
 |some (off,t)=>
  match x with
  |.p (.agg _)=>fP h (jc P t x off)
  |.agg _=>fP h (jc P t x off)
  |_=>.stuck
def fc (P:Program) (T:TypeId) (x ix:AV) (h:Heap):OR:=
 match ix with
 |.p (.int _ i)=>
  match x with
  |.p (.slice sz xs _)=>
   match aH P T with
   |some e=>if bj P e=some sz/\0<=i/\i<xs.length then .val (.p (.ptr sz xs i.toNat 0)) h else .stuck
   |none=>.stuck
  |.slice id ver off len=>
   match aH P T,h[id]? with
   |some e,some (.row sz xs)=>
    if bj P e=some sz/\xs.length=ver/\0<=i/\i<len then .val (.ptr id ver (off+i.toNat) 0) h else .stuck
   |_,_=>.stuck
  |.arr id ver j o n=>
   match aH P T,cY h id ver with
   |some e,some _=>if bj P e=some 1/\0<=i/\i<n then .val (.ptr id ver j (o+i.toNat)) h else .stuck
   |_,_=>.stuck
  |.p (.ptr sz xs j o)=>
   match cz P T with
   |some (n,e)=>match bj P e with|some s=>if 0<=i/\i<n then .val (.p (.ptr sz xs j (o+i.toNat*s))) h else .stuck|none=>.stuck
   |none=>.stuck
  |.ptr id ver j o=>
   match cz P T with
   |some (n,e)=>
    match bj P e,cY h id ver with
    |some s,some _=>if 0<=i/\i<n then .val (.ptr id ver j (o+i.toNat*s)) h else .stuck
    |_,_=>.stuck
   |none=>.stuck
  |_=>.stuck
 |_=>.stuck
def sW (P:Program) (T:TypeId) (x ix:AV) (h:Heap):OR:=
 match ix with
 |.p (.int _ i)=>
  match x with
  |.p (.str s)=>if dc P T=true/\0<=i then match s[i.toNat]? with|some b=>.val (.p (.int .u8 b.toNat)) h|none=>.stuck else .stuck
  |.p (.agg _)|.agg _=>
   match cz P T with
   |some (n,e)=>match bj P e with|some s=>if 0<=i/\i<n then fP h (jc P e x (i.toNat*s)) else .stuck|none=>.stuck
   |none=>.stuck
  |_=>.stuck
 |_=>.stuck
def j6:Option AV->Option (Option Int)
 |none=>some none
 |some (.p (.int _ i))=>some (some i)
 |_=>none
def jf (l r:Option Int) (len:Nat):Option (Nat×Nat):=
 if 0<=l.getD 0/\l.getD 0<=r.getD len/\r.getD len<=len then some ((l.getD 0).toNat,(r.getD len).toNat) else none
def p9 (P:Program) (T:TypeId) (x:AV) (lo hi mx:Option AV) (h:Heap):OR:=
 match j6 lo,j6 hi,j6 mx with
 |some l,some r,some m=>
  match x with
  |.p (.slice sz xs full)=>
   match aH P T,jf l r xs.length with
   |some e,some (a,b)=>
    if bj P e=some sz then
     match m with
     |none=>.val (.p (.slice sz ((xs.take b).drop a) (full&&b==xs.length))) h
     |some m=>if r=some m then .val (.p (.slice sz ((xs.take b).drop a) true)) h else .stuck
    else .stuck
   |_,_=>.stuck
  |.slice id ver off len=>
   match aH P T,h[id]?,jf l r len,m with
   |some e,some (.row sz xs),some (a,b),none=>
    if bj P e=some sz/\xs.length=ver then .val (.slice id ver (off+a) (b-a)) h else .stuck
   |some e,some (.row sz xs),_,some m=>
    if bj P e=some sz/\xs.length=ver/\r.isSome=true/\0<=l.getD 0/\l.getD 0<=r.getD 0/\r.getD 0<=m/\off+m<=ver then .val .undef h else .stuck
   |some e,some (.row sz xs),none,none=>
    if bj P e=some sz/\xs.length=ver/\r.isSome=true/\0<=l.getD 0/\l.getD 0<=r.getD 0/\off+r.getD 0<=ver then .val (.slice id ver (off+(l.getD 0).toNat) ((r.getD 0).toNat-(l.getD 0).toNat)) h else .stuck
   |_,_,_,_=>.stuck
  |.ptr id ver i o=>
   match cz P T,m with
   |some (n,e),none=>
    match jf l r n,cY h id ver with
    |some (a,b),some _=>if bj P e=some 1 then .val (.arr id ver i (o+a) (b-a)) h else .stuck
    |_,_=>.stuck
   |_,_=>.stuck
  |.p (.str s)=>
   match jf l r s.size,m with
   |some (a,b),none=>if dc P T=true then .val (.p (.str (s.extract a b))) h else .stuck
   |_,_=>.stuck
  |.p .nilslice=>
   match aH P T,jf l r 0,m with
   |some e,some _,none=>if(bj P e).isSome=true then .val (.p .nilslice) h else .stuck
   |_,_,_=>.stuck
  |_=>.stuck
 |_,_,_=>.stuck
inductive CK where
 |bool|int|str
 deriving DecidableEq
def mM:CK->PV->PV->Option Bool
 |.bool,.bool a,.bool b=>some (a==b)
 |.int,.int j a,.int k b=>if j=k then some (a==b) else none
 |.str,.str a,.str b=>some (a==b)
 |_,_,_=>none
def cb:List CK->List PV->List PV->Option Bool
 |[],[],[]=>some true
 |k::ks,x::a,y::b=>match mM k x y,cb ks a b with|some s,some t=>some (s&&t)|_,_=>none
 |_,_,_=>none
def nR (P:Program) (rec:TypeId->Option (List CK)):List Field->Nat->Option (List CK)
 |[],_=>some []
 |f::fs,n=>
  if f.name ≠ "_" /\ f.offset=n then
   match rec f.type with
   |some ks=>if bj P f.type=some ks.length/\(aZ P f.type).isSome=true then match nR P rec fs (n+ks.length) with|some r=>some (ks++r)|none=>none else none
   |none=>none
  else none
def ff (P:Program):Nat->TypeId->Option (List CK)
 |0,_=>none
 |d+1,T=>
  match P.underlying T with
  |some .bool=>some [.bool]
  |some (.int _)=>some [.int]
  |some .string=>some [.str]
  |some (.struct fs)=>if P.stoodInHeld T then none else nR P (ff P d) fs.toList 0
  |some (.array n e)=>match ff P d e with|some [k]=>if bj P e=some 1/\aZ P e=some false then some (List.replicate n k) else none|_=>none
  |_=>none
def cT (P:Program) (T:TypeId):Option (List CK):=
 if P.eqGuardType P.depth T=false/\aZ P T=some true then ff P 20 T else none
inductive TK where
 |bool|iface|slice|ptr|func|other
 deriving DecidableEq
def da (P:Program) (T:TypeId):TK:=
 match P.underlying T with
 |some .bool=>.bool
 |some (.interface _)=>.iface
 |some (.slice _)=>.slice
 |some (.func _ _ _)=>.func
 |some (.pointer e)=>if bj P e=none\/bj P e=some 0 then .other else .ptr
 |_=>.other
def BI (P:Program) (T:TypeId) (cst:Bool) (x y:AV):Option Bool:=
 match x,y with
 |.p (.bool a),.p (.bool b)=>if da P T=.bool then some (a==b) else none
 |.p (.agg a),.p (.agg b)=>match cT P T with|some ks=>cb ks a b|none=>none
 |.p .niliface,.p .niliface=>if cst=true/\da P T=.iface then some true else none
 |.p .niliface,.p (.iface _ _)=>if da P T=.iface then some false else none
 |.p (.iface _ _),.p .niliface=>if da P T=.iface then some false else none
 |.p .nilslice,.p .nilslice=>if da P T=.slice then some true else none
 |.p .nilslice,.p (.slice _ xs _)=>if da P T=.slice/\xs≠[] then some false else none
 |.p (.slice _ xs _),.p .nilslice=>if da P T=.slice/\xs≠[] then some false else none
 |.p .nilptr,.p .nilptr=>if da P T=.ptr then some true else none
 |.p .nilptr,.p (.ptr _ _ _ _)=>if da P T=.ptr then some false else none
 |.p (.ptr _ _ _ _),.p .nilptr=>if da P T=.ptr then some false else none
 |.p .nilfunc,.p .nilfunc=>if da P T=.func then some true else none
 |.p (.func _ _ _),.p .nilfunc=>if da P T=.func then some false else none
 |.func _ _ _,.p .nilfunc=>if da P T=.func then some false else none
 |_,_=>none
def iQ:Nat:=1099511627776
def uT (op:BinOp) (a b:ByteArray):Option PV:=
 match op with
 |.eql=>some (.bool (a==b))
 |.neq=>some (.bool !(a==b))
 |.add=>if a.size+b.size<=iQ then some (.str (a++b)) else none
 |.lss=>some (.bool (Op.bytesLess a.toList b.toList))
 |_=>none
def vB (op:BinOp) (k:IntKind) (a b:Int):Option PV:=
 match op with
 |.add=>some (.int k (k.wrap (a+b)))
 |.sub=>some (.int k (k.wrap (a-b)))
 |.mul=>some (.int k (k.wrap (a*b)))
 |.quo=>if b=0 then none else some (.int k (k.wrap (a.tdiv b)))
 |.rem=>if b=0 then none else some (.int k (a.tmod b))
 |.eql=>some (.bool (a==b))
 |.neq=>some (.bool (a != b))
 |.lss=>some (.bool (a<b))
 |.leq=>some (.bool (a<=b))
 |.gtr=>some (.bool (b<a))
 |.geq=>some (.bool (b<=a))
 |.and=>some (.int k (k.wrap (BitVec.ofInt k.bits a&&& BitVec.ofInt k.bits b).toNat))
 |.or=>some (.int k (k.wrap (BitVec.ofInt k.bits a||| BitVec.ofInt k.bits b).toNat))
 |.andNot=>some (.int k (k.wrap (BitVec.ofInt k.bits a&&& ~~~BitVec.ofInt k.bits b).toNat))
 |_=>none
def kr (op:BinOp) (k:IntKind) (a b:Int):Option PV:=
 if b<0 then none else
 match op with
 |.shl=>some (.int k (k.wrap (a*2^(min b.toNat k.bits))))
 |.shr=>some (.int k (a.fdiv (2^(min b.toNat k.bits))))
 |_=>none
def tm:BinOp->Bool
 |.shl=>true
 |.shr=>true
 |_=>false
def pp (h:Heap):Option PV->OR
 |some v=>.val (.p v) h
 |none=>.stuck
def xp (P:Program) (op:BinOp) (T:TypeId) (cst:Bool) (x y:AV) (h:Heap):OR:=
 match x,y with
 |.p (.int k a),.p (.int k' b)=>if tm op=true then pp h (kr op k a b) else if k=k' then pp h (vB op k a b) else .stuck
 |.p (.str a),.p (.str b)=>pp h (uT op a b)
 |x,y=>
  match op with
  |.eql=>pp h ((BI P T cst x y).map .bool)
  |.neq=>pp h ((BI P T cst x y).map λt=>.bool !t)
  |_=>.stuck
def Dt (op:UnOp) (x:AV) (h:Heap):OR:=
 match op,x with
 |.not,.p (.bool b)=>.val (.p (.bool !b)) h
 |.neg,.p (.int k a)=>.val (.p (.int k (k.wrap (-a)))) h
 |_,_=>.stuck
def cu (P:Program) (src dst:TypeId):Option IntKind:=
 match P.underlying src,P.underlying dst with
 |some _,some (.int k)=>some k
 |_,_=>none
def pU:List PV->Option (List Int)
 |[]=>some []
 |.int .u8 n::r=>(pU r).map (n::·)
 |_::_=>none
def uw (P:Program) (T:TypeId):Bool:=
 match aH P T with
 |some e=>(match P.underlying e with|some (.int .u8)=>true|_=>false)
 |none=>false
def lS (P:Program) (src dst:TypeId) (x:AV) (h:Heap):OR:=
 match x with
 |.p (.int _ n)=>match cu P src dst with|some k=>.val (.p (.int k (k.wrap n))) h|none=>.stuck
 |.p (.str s)=>if dc P src=true/\dc P dst=true then .val (.p (.str s)) h else .stuck
 |.p (.slice 1 (x::xs) _)=>if uw P src=true/\dc P dst=true then(match pU (x::xs) with|some ns=>.val (.p (.str ⟨(ns.map λn=>UInt8.ofNat n.toNat).toArray⟩)) h|none=>.stuck) else .stuck
 |_=>.stuck
def ru (place:Nat->Option (Nat×Nat)):List (Nat×AV)->List AV->Option (List AV)
 |[],cs=>some cs
 |(i,v)::r,cs=>
  match place i,v.cells with
  |some (off,n),some new=>if new.length=n/\off+n<=cs.length then ru place r (cR cs off new) else none
  |_,_=>none
def bN (P:Program) (T:TypeId):Option (List (Nat×Nat)):=
 match P.underlying T with
 |some (.struct fs)=>fs.toList.mapM λf=>(P.info? f.type).map λi=>(f.offset,i.size)
 |_=>none
def qc (P:Program) (T:TypeId) (ps:List (Nat×AV)) (h:Heap):OR:=
 match ax P T with
 |some (.agg z)=>
  match bN P T with
  |some pl=>match ru (λi=>pl[i]?) ps (z.map .p) with|some cs=>.val (iC cs) h|none=>.stuck
  |none=>
   match cz P T with
   |some (_,e)=>
    match bj P e with
    |some s=>match ru (λi=>some (i*s,s)) ps (z.map .p) with|some cs=>.val (iC cs) h|none=>.stuck
    |none=>.stuck
   |none=>.stuck
 |_=>.stuck
def od:Nat->Nat->List (Nat×AV)->Option (List AV)
 |_,_,[]=>some []
 |i,sz,(j,v)::r=>if i=j/\v.cells.map (·.length)=some sz then match od (i+1) sz r with|some l=>some (v::l)|none=>none else none
def iW (P:Program) (T:TypeId) (mu:Bool) (n:Nat) (ps:List (Nat×AV)) (h:Heap):OR:=
 match aH P T with
 |some e=>
  match bj P e with
  |some sz=>
   match od 0 sz ps with
   |some xs=>
    if xs.length=n/\sz≠0/\n*sz<=16777216/\fJ P e sz=true then
     match mu,bV xs with
     |false,some l=>.val (.p (.slice sz l true)) h
     |_,_=>.val (.slice h.length n 0 n) (h++[.row sz xs])
    else .stuck
   |none=>.stuck
  |none=>.stuck
 |none=>.stuck
def lR (x:AV) (i:Nat) (h:Heap):OR:=
 match x with
 |.p (.tuple vs)=>match vs[i]? with|some v=>.val (.p v) h|none=>.stuck
 |.tuple vs=>match vs[i]? with|some v=>.val v h|none=>.stuck
 |_=>.stuck
def sV (P:Program) (T:TypeId) (x:AV) (h:Heap):OR:=
 match x with
 |.p (.str s)=>if dc P T=true then .val (.p (.int .i64 s.size)) h else .stuck
 |.p (.slice _ xs _)=>if(aH P T).isSome=true then .val (.p (.int .i64 xs.length)) h else .stuck
 |.p .nilslice=>if(aH P T).isSome=true then .val (.p (.int .i64 0)) h else .stuck
 |.slice id ver _ len=>if(aH P T).isSome=true/\(cY h id ver).isSome=true then .val (.p (.int .i64 len)) h else .stuck
 |.p (.agg _)=>match cz P T with|some (n,_)=>.val (.p (.int .i64 n)) h|none=>.stuck
 |.arr id ver _ _ n=>if(aH P T).isSome=true/\(cY h id ver).isSome=true then .val (.p (.int .i64 n)) h else .stuck
 |_=>.stuck
def eY (h:Heap) (sz:Nat):AV->Option (List AV)
 |.p .nilslice=>some []
 |.p (.slice sz' xs _)=>if sz'=sz then some (xs.map .p) else none
 |.p (.str s)=>if sz=1 then some (s.data.toList.map λb=>.p (.int .u8 b.toNat)) else none
 |.slice id ver off len=>
  match h[id]? with
  |some (.row sz' xs)=>if sz'=sz/\xs.length=ver/\off+len<=xs.length then some (sub off len xs) else none
  |_=>none
 |_=>none
def ai:Nat:=274877906944
def iX (P:Program) (T U:TypeId) (x y:AV) (h:Heap):OR:=
 match aH P T with
 |some e=>
  if(aH P U).isSome=false/\dc P U=false then .stuck else
  match bj P e,iP P e with
  |some sz,some bytes=>
   match eY h sz y with
   |some ys=>
    if sz≠0/\bytes<=256/\fJ P e sz=true then
     match x with
     |.p .nilslice=>if ys.length<=ai then if ys=[] then .val (.p .nilslice) h else .val (.slice h.length ys.length 0 ys.length) (h++[.row sz ys]) else .stuck
     |.p (.slice sz' xs true)=>
      if sz'=sz/\xs.length+ys.length<=ai then
       if ys=[] then .val x h else .val (.slice h.length (xs.length+ys.length) 0 (xs.length+ys.length)) (h++[.row sz (xs.map .p++ys)])
      else .stuck
     |.slice id ver off len=>
      match h[id]? with
      |some (.row sz' xs)=>
       if sz'=sz/\xs.length=ver/\off=0/\len=ver/\xs.length+ys.length<=ai then
        .val (.slice id (xs.length+ys.length) 0 (xs.length+ys.length)) (h.set id (.row sz (xs++ys)))
       else if sz'=sz/\xs.length=ver/\off=0/\len+ys.length<=ver then
        .val (.slice id ver 0 (len+ys.length)) (h.set id (.row sz (xs.take len++ys++xs.drop (len+ys.length))))
       else .stuck
      |_=>.stuck
     |_=>.stuck
    else .stuck
   |none=>.stuck
  |_,_=>.stuck
 |none=>.stuck
def mZ (P:Program) (T:TypeId) (l c:AV) (h:Heap):OR:=
 match aH P T,l,c with
 |some e,.p (.int .i64 l),.p (.int .i64 c)=>
  match bj P e,iP P e,ax P e with
  |some sz,some bytes,some z=>
   if sz≠0/\bytes<=512/\z.cells.length=sz/\(AV.p z).cells.isSome=true/\0<=l/\l<=c/\c<=ai then .val (.slice h.length l.toNat 0 l.toNat) (h++[.row sz (List.replicate l.toNat (.p z))]) else .stuck
  |_,_,_=>.stuck
 |_,_,_=>.stuck
def vZ (P:Program) (T:TypeId) (x:AV) (h:Heap):OR:=
 match aH P T,x with
 |some e,.slice id ver off len=>
  match h[id]?,bj P e,ax P e with
  |some (.row sz xs),some sz',some z=>
   if sz'=sz/\xs.length=ver/\off+len<=ver/\z.cells.length=sz/\sz≠0/\(AV.p z).cells.isSome=true then
    .val (.p (.tuple [])) (h.set id (.row sz (xs.take off++List.replicate len (.p z)++xs.drop (off+len))))
   else .stuck
  |_,_,_=>.stuck
 |_,_=>.stuck
def tE (h:Heap) (sz len:Nat) (y:AV):Option (List AV):=
 match y with
 |.slice id ver off n=>
  match h[id]? with
  |some (.row sz' ys)=>if sz'=sz/\ys.length=ver/\off+n<=ver then some (sub off (Nat.min n len) ys) else none
  |_=>none
 |.p (.slice sz' xs full)=>match eY h sz (.p (.slice sz' xs full)) with|some ys=>if ys.length<=len then some ys else none|none=>none
 |_=>none
def ze (P:Program) (T:TypeId) (x y:AV) (h:Heap):OR:=
 match aH P T,x with
 |some e,.slice id ver off len=>
  match h[id]?,bj P e with
  |some (.row sz xs),some sz'=>
   if sz'=sz/\xs.length=ver/\off+len<=ver then
    match tE h sz len y with
    |some ys=>.val (.p (.int .i64 (ys.length:Int))) (h.set id (.row sz (xs.take off++ys++xs.drop (off+ys.length))))
    |none=>.stuck
   else .stuck
  |_,_=>.stuck
 |_,_=>.stuck
def kz (P:Program) (b:Builtin) (ts:Array TypeId) (args:List AV) (h:Heap):OR:=
 match b,args with
 |.len,[x]=>if ts.size=1 then sV P (ts.getD 0 0) x h else .stuck
 |.append,[x,y]=>if ts.size=2 then iX P (ts.getD 0 0) (ts.getD 1 0) x y h else .stuck
 |.min,[.p (.int j a),.p (.int _ b)]=>.val (.p (.int j (if b<a then b else a))) h
 |.max,[.p (.int j a),.p (.int _ b)]=>.val (.p (.int j (if a<b then b else a))) h
 |.recover,[]=>.recover
 |.clear,[x]=>if ts.size=1 then vZ P (ts.getD 0 0) x h else .stuck
 |.copy,[x,y]=>if ts.size=2 then ze P (ts.getD 0 0) x y h else .stuck
 |_,_=>.stuck
def eX (f:AV) (args:List AV):OR:=
 match f with
 |.p (.func (.func g) first cap)=>.call g (first.map .p++args++cap.map .p)
 |.func (.func g) first cap=>.call g (first++args++cap)
 |.ref .yl l=>.yld l args
 |_=>.stuck
def sX (f:AV) (args:List AV):OR:=
 match eX f args with
 |.call g l=>.dfr (.fn g l)
 |_=>.stuck
def jd:Operand->Bool
 |.const _=>true
 |_=>false
def lF (P:Program) (t:TypeId) (name:String):Option FuncId:=
 match ((P.info? t).map (λ(i:TypeInfo)=>i.methods)).bind λms=>ms.find? (·.name==name) with
 |some m=>if m.path.isEmpty=true then(match m.func,P.underlying t with|some (f,true),some (.pointer _)=>some f|_,_=>none) else none
 |none=>none
def qa (P:Program) (name:String) (x:AV) (args:List AV):OR:=
 match x with
 |.iptr t id=>match lF P t name with|some f=>.call f (.ptr id 1 0 0::args)|none=>.stuck
 |_=>.stuck
def iV (P:Program) (A:TypeId) (ok:Bool) (x:AV) (h:Heap):OR:=
 match iD P A,x with
 |some false,.p (.iface t v)=>if t=A then .val (.p (if ok then .tuple [v,.bool true] else v)) h else if ok=true then(match ax P A with|some z=>.val (.p (.tuple [z,.bool false])) h|none=>.stuck) else .stuck
 |some false,.iptr t id=>if t=A then .val (if ok then .tuple [.ptr id 1 0 0,.p (.bool true)] else .ptr id 1 0 0) h else if ok=true then(match ax P A with|some z=>.val (.p (.tuple [z,.bool false])) h|none=>.stuck) else .stuck
 |_,_=>.stuck
def vY (P:Program) (T:TypeId) (x:AV) (h:Heap):OR:=
 match x with
 |.p (.str s)=>if dc P T=true then .val (.ref .it h.length) (h++[.strIter s 0]) else .stuck
 |_=>.stuck
def zd (isStr:Bool) (x:AV) (h:Heap):OR:=
 match isStr,x with
 |true,.ref .it id=>
  match h[id]? with
  |some (.strIter s pos)=>
   if pos<s.size then .val (.p (.tuple [.bool true,.int .i64 pos,.int .i32 (Utf8.decode s pos).1])) (h.set id (.strIter s (pos+(Utf8.decode s pos).2)))
   else .val (.p (.tuple [.bool false])) h
  |_=>.stuck
 |_,_=>.stuck
def xf:PV->CK
 |.int _ _=>.int
 |.str _=>.str
 |_=>.bool
def jF:PV->PV->Option Bool
 |.int j a,.int k b=>if j=k then some (a==b) else none
 |.str a,.str b=>some (a==b)
 |.agg a,.agg b=>cb (a.map xf) a b
 |_,_=>none
def sj (P:Program) (T:TypeId):Option (TypeId×TypeId):=match P.underlying T with|some (.map k e)=>some (k,e)|_=>none
inductive KK where
 |int|str|no|agg (ks:List CK)
def sv (P:Program) (K:TypeId):KK:=match P.underlying K with
 |some (.int _)=>.int
 |some .string=>.str
 |some (.struct _)=>match ff P 20 K with|some ks=>.agg ks|none=>.no
 |_=>.no
def qT (P:Program) (K:TypeId) (k:PV):Bool:=match sv P K,k with|.int,.int _ _=>true|.str,.str _=>true|.agg ks,.agg a=>(cb ks a a).isSome|_,_=>false
def lb (k:PV):List (PV×PV)->Option (Option PV)
 |[]=>some none
 |(q,v)::r=>match jF k q with|some true=>some (some v)|some false=>lb k r|none=>none
def nP (k v:PV):List (PV×PV)->Option (List (PV×PV))
 |[]=>some [(k,v)]
 |(q,u)::r=>match jF k q with|some true=>some ((k,v)::r)|some false=>(nP k v r).map ((q,u)::·)|none=>none
def BH (_:Program) (_:TypeId) (r:Option AV) (h:Heap):OR:=
 match r with
 |none=>.val (.ref .mp h.length) (h++[.mp []])
 |some _=>.stuck
def w7 (ok:Bool) (v:PV) (b:Bool) (h:Heap):OR:=.val (.p (if ok then .tuple [v,.bool b] else v)) h
def ng (P:Program) (T:TypeId) (x k:AV) (ok:Bool) (h:Heap):OR:=
 match sj P T,x,k with
 |some (K,E),.ref .mp id,.p k=>
  match h[id]?,ax P E with
  |some (.mp es),some z=>
   if qT P K k=true then
    match lb k es with
    |some (some v)=>w7 ok v true h
    |some none=>w7 ok z false h
    |none=>.stuck
   else .stuck
  |_,_=>.stuck
 |_,_,_=>.stuck
def mY (P:Program) (T:TypeId) (x k v:AV) (h:Heap):OR:=
 match sj P T,x,k,v with
 |some (K,_),.ref .mp id,.p k,.p v=>
  match h[id]? with
  |some (.mp es)=>if qT P K k=true then(match nP k v es with|some es'=>.skip (h.set id (.mp es'))|none=>.stuck) else .stuck
  |some (.memo f)=>if qT P K k=true/\f k v=true then .skip h else .stuck
  |_=>.stuck
 |_,_,_,_=>.stuck
def aW (P:Program) (mu:Nat->Bool) (o:Oper) (e:Operand->AV) (h:Heap):OR:=
 match o.op with
 |.move x=>.val (e x) h
 |.assign x=>.val (e x) h
 |.pick c a b=>match e c with|.p (.bool t)=>.val (if t then e a else e b) h|_=>.stuck
 |.alloc T=>if AM P T=true then(match ax P T,Dn P T with|some (.agg [.nilptr,.nilslice]),some e=>.val (.ref .bl h.length) (h++[.bld T e (.p .nilslice)])|_,_=>.stuck) else match ax P T with|some z=>if(AV.p z).cells.isSome=true then .val (.ptr h.length 1 0 0) (h++[.row z.cells.length [.p z]]) else .stuck|none=>.stuck
 |.box _ x=>match (e x).cells with|some cs=>.val (.ptr h.length 1 0 0) (h++[.row cs.length [e x]])|none=>.stuck
 |.build T ps=>qc P T (ps.toList.map λq=>(q.1,e q.2)) h
 |.buildSlice T n ps=>iW P T (match o.dst with|some d=>mu d|none=>false) n (ps.toList.map λq=>(q.1,e q.2)) h
 |.load T a=>lr P T (e a) h
 |.store T a x=>fi P T (e a) (e x) h
 |.nilCheck x=>match e x with|.p (.ptr sz xs i o)=>.val (.p (.ptr sz xs i o)) h|.iptr t id=>.val (.iptr t id) h|.func (.method name) [.iptr t id] cap=>(match lF P t name with|some _=>.val (.func (.method name) [.iptr t id] cap) h|none=>.stuck)|.ptr id ver i o=>(match cY h id ver with|some _=>.val (.ptr id ver i o) h|none=>.stuck)|_=>.stuck
 |.binOp op T x y _=>xp P op T (jd x||jd y) (e x) (e y) h
 |.unOp op _ x=>Dt op (e x) h
 |.convert src dst x=>lS P src dst (e x) h
 |.makeInterface T x=>if iD P T=some false then match e x with|.p v=>.val (.p (.iface T v)) h|.ptr id ver i o=>(if ver=1/\i=0/\o=0 then .val (.iptr T id) h else .stuck)|_=>.stuck else .stuck
 |.makeFunc fn first cap=>if(first.toList.map e).all AV.plain=true/\(cap.toList.map e).all AV.plain=true then .val (vn fn (first.toList.map e) (cap.toList.map e)) h else .stuck
 |.makeSlice T l c=>mZ P T (e l) (e c) h
 |.slice T x lo hi mx=>p9 P T (e x) (lo.map e) (hi.map e) (mx.map e) h
 |.fieldAddr T x f=>jP P T (e x) f h
 |.field T x f=>qb P T (e x) f h
 |.indexAddr T x i=>fc P T (e x) (e i) h
 |.index T x i=>sW P T (e x) (e i) h
 |.extract t i=>lR (e t) i h
 |.call c=>
  match c.callee with
  |.value f=>eX (e f) (c.args.toList.map e)
  |.builtin b=>kz P b c.argTypes (c.args.toList.map e) h
  |.invoke r name=>qa P name (e r) (c.args.toList.map e)
 |.defer c=>
  match c.callee with
  |.value f=>sX (e f) (c.args.toList.map e)
  |_=>.stuck
 |.panic x=>match e x with|.p (.iface t v)=>.panic (.iface t v)|_=>.stuck
 |.typeAssert x _ A ok=>iV P A ok (e x) h
 |.range T x=>vY P T (e x) h
 |.next i isStr=>zd isStr (e i) h
 |.makeMap T r=>BH P T (r.map e) h
 |.lookup T x k ok=>ng P T (e x) (e k) ok h
 |.mapUpdate T m k v=>mY P T (e m) (e k) (e v) h
 |_=>.stuck
inductive AEnd where
 |ret (v:AV)
 |panic (v:PV)
inductive Ex where
 |normal
 |exit (id:Nat)
 |ret
 |panic (v:PV)
def m9 (A:AAct) (d:Option Tmp) (want:Bool):Option Bool:=
 match d with
 |none=>some false
 |some d=>match A.tmps d with|.p (.bool b)=>some (b==want)|.p (.tuple _)=>some false|_=>none
def aX (ops:Array Oper) (A:AAct) (o:Oper):Option Bool:=
 match o.guard with
 |none=>some true
 |some (j,want)=>m9 A ((ops[j]?).bind (·.dst)) want
def BU (b:Bool) (X Y:Unit->Prop):Prop:=(b=true->X ())/\(b=false->Y ())
theorem zm{P Q:Prop}(q:Q)(h:Q->P:=by intro q;simp only[go_sem,simprocAttr];exact q):P:=h q
theorem zn{A P Q:Prop}(a:A)(q:Q)(h:A->Q->P:=by intro a q;simp only[a,go_sem,simprocAttr];exact q):P:=h a q
theorem zo{A B P Q:Prop}(a:A)(b:B)(q:Q)(h:A->B->Q->P:=by intro a b q;simp only[a,b,go_sem,simprocAttr];exact q):P:=h a b q
theorem zp{A B C P Q:Prop}(a:A)(b:B)(c:C)(q:Q)(h:A->B->C->Q->P:=by intro a b c q;simp only[a,b,c,go_sem,simprocAttr];exact q):P:=h a b c q
end Abs
end Go.Proofs.YtmndpldajflenaaGreatDoor
