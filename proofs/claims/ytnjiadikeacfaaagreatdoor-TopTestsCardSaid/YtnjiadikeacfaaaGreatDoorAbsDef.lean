/- DEFINITIONS OF AN ABSTRACT MACHINE: immutable values, a heap of the call's own, and what a -/
import Derived.WalkKit
set_option linter.all false
namespace Go.Proofs.YtnjiadikeacfaaaGreatDoor
namespace Abs
abbrev rC:=@List.take_append_drop
abbrev BO:=@Array.length_toList
abbrev uT:=@Array.getElem?_eq_some_iff
abbrev SH:=@Bool.or_eq_false_iff
abbrev jL:=@List.take_left'
abbrev qw:=@Array.ext
abbrev kL:=@Option.getD_some
abbrev PC:=@List.map_set
abbrev PB:=@List.length_pos_iff
abbrev SE:=@List.mem_or_eq_of_mem_set
abbrev DU:=@List.flatten_cons
abbrev dN:=@List.mem_map
abbrev DT:=@List.getElem?_cons_zero
abbrev IS:=@Nat.eq_or_lt_of_le
abbrev xZ:=@Bool.not_false
abbrev dL:=@List.length_map
abbrev aK:=@List.length_append
abbrev nM:=@Bool.not_not
abbrev xY:=@List.mem_cons_of_mem
abbrev tk:=@Int.mul_le_mul_of_nonneg_left
abbrev bt:=@List.length_singleton
abbrev DS:=@List.cons.inj
abbrev tj:=@Bool.eq_iff_iff
abbrev cb:=@Result.andThen_ok
abbrev DR:=@List.getElem?_toArray
abbrev cG:=@List.getD_eq_getElem?_getD
abbrev DQ:=@Nat.pow_le_pow_right
abbrev Nk:=@Array.ext_getElem?
abbrev AO:=@Bool.true_and
abbrev gv:=@List.take_of_length_le
abbrev Nj:=@Option.isSome_some
abbrev mN:=@List.flatMap_cons
abbrev DP:=@Int.ediv_le_ediv
abbrev fz:=@Array.getD_eq_getD_getElem?
abbrev jw:=@Function.comp_def
abbrev DO:=@List.mem_range
abbrev dq:=@List.append_assoc
abbrev jv:=@Option.isSome_iff_exists
abbrev Ni:=@Array.getElem?_eq_getElem
abbrev ti:=@Option.bind_some
abbrev Nh:=@List.nodup_cons
abbrev th:=@List.map_map
abbrev sc:=@List.getElem?_drop
abbrev IN:=@List.replicate_succ
abbrev pq:=@Int.eq_ofNat_of_zero_le
abbrev AN:=@Int.mul_comm
abbrev IM:=@Array.size_eq_zero_iff
abbrev Ng:=@Bool.or_eq_true
abbrev IL:=@List.length_eq_one_iff
abbrev xX:=@List.drop_drop
abbrev aT:=@List.mem_of_getElem?
abbrev Nf:=@Nat.le_of_not_lt
abbrev ce:=@List.mem_cons
abbrev SG:=@Array.getElem?_setIfInBounds_ne
abbrev xW:=@List.take_add_one
abbrev xV:=@List.length_eraseIdx
abbrev bF:=@List.any_cons
abbrev bD:=@List.map_cons
abbrev IK:=@Nat.zero_mul
abbrev ik:=@Nat.add_zero
abbrev tg:=@Bool.true_or
abbrev DN:=@List.mem_flatMap
abbrev sb:=@List.mem_of_mem_take
abbrev gR:=@List.nil_append
abbrev dD:=@Bool.and_eq_true
abbrev AM:=@List.drop_eq_getElem_cons
abbrev uS:=@Int.mul_assoc
abbrev cd:=@Option.map_eq_some_iff
abbrev mM:=@Option.map_some
abbrev SF:=@List.eraseIdx_eq_take_drop_succ
abbrev tf:=@Nat.mod_lt
abbrev AL:=@List.all_nil
abbrev AK:=@Int.mul_le_mul
abbrev Nd:=@List.append_of_mem
abbrev IJ:=@Nat.min_eq_left
abbrev II:=@Nat.le_of_eq
abbrev kK:=@List.all_eq_true
abbrev AJ:=@Int.one_mul
abbrev AI:=@List.foldl_append
abbrev te:=@List.take_length
abbrev Nc:=@List.replicate_zero
abbrev ca:=@List.map_append
abbrev AH:=@List.getElem?_mapIdx
abbrev IH:=@Array.mem_toList_iff
abbrev IG:=@List.getElem?_set
abbrev cl:=@Bool.or_false
abbrev IF:=@Int.le_total
abbrev pp:=@List.foldl_cons
abbrev iJ:=@List.getElem?_set_self
abbrev fx:=@Nat.add_mul
abbrev jO:=@Int.toNat_natCast
abbrev lE:=@Nat.add_assoc
abbrev qu:=@List.ext_getElem?
abbrev DM:=@List.eq_nil_or_concat
abbrev dS:=@List.getElem?_set_ne
abbrev fW:=@List.not_mem_nil
abbrev DL:=@Int.zero_mul
abbrev uR:=@Int.add_zero
abbrev bw:=@List.append_nil
abbrev Nb:=@List.filter_append
abbrev gk:=@Option.some.injEq
abbrev rB:=@List.flatMap_append
abbrev zb:=@Nat.sub_self
abbrev jQ:=@Bool.false_or
abbrev wA:=@Int.le_trans
abbrev za:=@Int.neg_mul
abbrev IW:=@Option.isSome_none
abbrev IV:=@List.map_congr_left
abbrev wz:=@List.getElem?_eq_none
abbrev wy:=@Nat.ne_of_lt
abbrev IU:=@Nat.lt_trichotomy
abbrev gh:=@Nat.lt_succ_self
abbrev l4:=@Int.le_refl
abbrev d5:=@Nat.zero_add
abbrev dg:=@Nat.lt_or_ge
abbrev IT:=@Array.getElem?_push
abbrev cV:=@Nat.zero_le
abbrev bj:=@List.map_nil
abbrev y9:=@List.set_append_left
abbrev pO:=@List.set_set
abbrev tv:=@List.length_eq_zero_iff
abbrev pN:=@Array.getElem?_eq_none
abbrev y8:=@List.length_set
abbrev lZ:=@List.append_eq
abbrev y7:=@Array.foldl_toList
abbrev cH:=@List.length_nil
abbrev Dx:=@Array.getElem?_append
abbrev Dw:=@List.drop_of_length_le
abbrev eW:=@List.cons_append
abbrev cm:=@List.getElem?_append_right
abbrev tu:=@Int.mul_nonneg
abbrev dA:=@List.mem_singleton
abbrev Dv:=@List.length_take
abbrev ax:=@List.getElem?_eq_some_iff
abbrev dz:=@List.getElem?_of_mem
abbrev cc:=@List.length_cons
abbrev gc:=@Nat.mul_le_mul_right
abbrev jp:=@List.getElem?_take
abbrev y6:=@List.map_take
abbrev y5:=@Prod.mk.injEq
abbrev Du:=@Bool.not_eq_true
abbrev IR:=@Bool.eq_false_iff
abbrev bA:=@List.getElem?_eq_getElem
abbrev y4:=@List.getElem_mem
abbrev PE:=@Array.getElem?_setIfInBounds
abbrev mO:=@Bool.and_self
abbrev Dt:=@List.singleton_append
abbrev wx:=@Int.le_ediv_iff_mul_le
abbrev lY:=@Option.some.inj
abbrev b7:=@List.mem_append
abbrev tt:=@List.set_append_right
abbrev Ds:=@Int.le_of_lt
abbrev tr:=@Int.mul_le_mul_of_nonneg_right
abbrev ww:=@Nat.one_mul
abbrev jP:=@List.any_map
abbrev d4:=@Bool.false_eq_true
abbrev ot:=@List.eq_nil_of_length_eq_zero
abbrev PD:=@List.drop_append_of_le_length
abbrev Dr:=@Nat.mul_comm
abbrev y0:=@List.concat_eq_append
abbrev cz:=@List.getElem?_map
abbrev oq:=@List.drop_zero
abbrev wv:=@Option.getD_none
abbrev tq:=@Int.mul_zero
abbrev iD:=@Bool.not_and
abbrev bp:=@List.any_nil
abbrev IQ:=@Nat.mod_eq_of_lt
abbrev bi:=@Nat.le_refl
abbrev tm:=@List.flatMap_nil
abbrev yZ:=@List.getElem?_cons_succ
abbrev yY:=@Bool.not_eq_true'
abbrev aZ:=@List.getElem?_append_left
abbrev pM:=@Array.getElem?_modify
abbrev iN:=@Nat.le_trans
abbrev oo:=@Nat.eq_zero_or_pos
abbrev IP:=@List.getElem?_replicate
abbrev gb:=@Nat.lt_of_lt_of_le
abbrev Dq:=@List.any_eq_true
abbrev om:=@Nat.le_of_ble_eq_true
inductive PV where
 |bool (b:Bool)
 |int (k:IntKind) (n:Int)
 |str (s:ByteArray)
 |agg (cs:List PV)
 |tuple (vs:List PV)
 |slice (sz:Nat) (xs:List PV) (full:Bool)
 |nilslice
 |ptr (sz:Nat) (xs:List PV) (i o:Nat)
 |nilptr
 |func (fn:Fn) (first cap:List PV)
 |nilfunc
 |iface (t:TypeId) (v:PV)
 |niliface
 |any
 deriving Inhabited
def PV.cells:PV->List PV
 |.agg cs=>cs
 |v=>[v]
inductive RK where
 |it|yl|mp|dk|bl
 deriving DecidableEq,Inhabited
inductive AV where
 |p (v:PV)
 |ptr (id ver i o:Nat)
 |slice (id ver off len:Nat)
 |agg (cs:List AV)
 |func (fn:Fn) (first cap:List AV)
 |tuple (vs:List AV)
 |ref (k:RK) (id:Nat)
 |undef
 deriving Inhabited
def AV.cells:AV->Option (List AV)
 |.p (.tuple _)=>none
 |.p v=>some (v.cells.map .p)
 |.agg cs=>some cs
 |.tuple _=>none
 |.undef=>none
 |v=>some [v]
def PV.isCell:PV->Bool
 |.agg _=>false
 |.tuple _=>false
 |_=>true
def AV.isCell:AV->Bool
 |.p v=>v.isCell
 |.agg _=>false
 |.tuple _=>false
 |.undef=>false
 |_=>true
def AV.plain:AV->Bool
 |.p _=>true
 |.ptr _ _ _ _=>true
 |.slice _ _ _ _=>true
 |.ref _ _=>true
 |_=>false
def gq:List AV->Option (List PV)
 |[]=>some []
 |.p v::r=>match gq r with|some l=>some (v::l)|none=>none
 |_::_=>none
def pY (cs:List AV):AV:=match gq cs with|some l=>.p (.agg l)|none=>.agg cs
def qk (cs:List AV):AV:=match gq cs with|some l=>.p (.tuple l)|none=>.tuple cs
def zJ (fn:Fn) (first cap:List AV):AV:=
 match gq first,gq cap with|some a,some b=>.p (.func fn a b)|_,_=>.func fn first cap
inductive AObj where
 |row (sz:Nat) (xs:List AV)
 |strIter (s:ByteArray) (pos:Nat)
 |mp (es:List (PV×PV))
 |memo (f:PV->PV->Bool)
 |loop (n:Nat) (tmps:Nat->AV) (ps:Array Tmp) (assign body:Code) (st:LoopState) (pend:Option Code)
 |dblock
 |bld (T e:TypeId) (x:AV)
 |dead
abbrev Heap:=List AObj
def AObj.tag:AObj->Option RK
 |.strIter _ _=>some .it
 |.mp _=>some .mp
 |.memo _=>some .mp
 |.loop _ _ _ _ _ _ _=>some .yl
 |.dblock=>some .dk
 |.bld _ _ _=>some .bl
 |_=>none
inductive ADef where
 |fn (f:FuncId) (args:List AV)
 |collected (id:Nat)
inductive Rc where
 |no|rnd|none
 |pend (v:PV)
 |got (v:PV)
structure AAct where
 n:Nat
 bs:Nat
 rc:Rc
 tmps:Nat->AV
 h:Heap
 df:List ADef
def uY (f:Nat->AV) (t:Nat) (v:AV):Nat->AV:=λs=>if s=t then v else f s
theorem D4(f)(t s)(v):uY f t v s=if s=t then v else f s:=rfl
def AAct.put (A:AAct) (dst:Option Tmp) (v:AV) (h:Heap):AAct:=
 match dst with
 |some d=>{ A with tmps:=uY A.tmps d v,h:=h }
 |none=>{ A with h:=h }
def pf:Value->Option PV
 |.bool b=>some (.bool b)
 |.int k n=>some (.int k n)
 |.string s=>some (.str s)
 |.pointer none=>some .nilptr
 |.slice none 0 0=>some .nilslice
 |.nilFunc=>some .nilfunc
 |.nilIface=>some .niliface
 |.map none=>some .any
 |.func (.func f) first cap=>if first.size=0/\cap.size=0 then some (.func (.func f) [] []) else none
 |_=>none
def lB:List Value->Option (List PV)
 |[]=>some []
 |v::r=>match pf v,lB r with|some x,some l=>some (x::l)|_,_=>none
def mL:Value->Option PV
 |.agg cs=>match lB cs.toList with|some l=>some (.agg l)|none=>none
 |.tuple cs=>match lB cs.toList with|some l=>some (.tuple l)|none=>none
 |v=>pf v
def AAct.eval (A:AAct):Operand->AV
 |.tmp t=>A.tmps t
 |.const v=>match mL v with|some x=>.p x|none=>.undef
 |.global _=>.undef
 |.func f=>.p (.func (.func f) [] [])
def nt (P:Program) (T:TypeId):Bool:=
 match (P.types[T]?).map (λ(i:TypeInfo)=>i.desc) with
 |some (TypeDesc.named n _)=>n == "strings.Builder"
 |_=>false
def b6 (P:Program) (T:TypeId):Option Bool:=
 match P.underlying T with
 |some (.struct _)=>some true
 |some (.array _ _)=>some true
 |some _=>some false
 |none=>none
def b8 (P:Program) (T:TypeId):Option Nat:=(P.info? T).map (·.size)
def ld (P:Program) (T:TypeId):Option Nat:=(P.info? T).map (·.bytes)
def an (P:Program) (T:TypeId):Option PV:=((P.info? T).bind (·.zero)).bind mL
def ai (P:Program) (T:TypeId) (f:Nat):Option (Nat×TypeId):=
 match P.underlying T with
 |some (.struct fs)=>(fs[f]?).map λx=>(x.offset,x.type)
 |_=>none
def bu (P:Program) (T:TypeId):Option TypeId:=
 match P.underlying T with
 |some (.slice e)=>some e
 |_=>none
def dP (P:Program) (T:TypeId):Option (Nat×TypeId):=
 match P.underlying T with
 |some (.array n e)=>some (n,e)
 |_=>none
def eG (P:Program) (T:TypeId):Bool:=
 match P.underlying T with
 |some .string=>true
 |_=>false
def fZ (P:Program) (T:TypeId):Option Bool:=
 match P.underlying T with
 |some (.interface _)=>some true
 |some _=>some false
 |none=>none
def f8 (P:Program) (T:TypeId) (n:Nat):Bool:=
 match (P.info? T).bind (·.zero) with
 |some v=>v.cells.size==n
 |none=>false
def Ir (P:Program) (T:TypeId):Option TypeId:=
 match P.underlying T with
 |some (.struct fs)=>(fs[1]?).bind λx=>bu P x.type
 |_=>none
def sub {α:Type} (o n:Nat) (l:List α):List α:=(l.drop o).take n
def jW {α:Type} (cs:List α) (o:Nat) (new:List α):List α:=cs.take o++new++cs.drop (o+new.length)
def AV.part (v:AV) (agg:Bool) (n o:Nat):Option AV:=
 match v.cells with
 |none=>none
 |some cs=>
  if agg then
   if cs.length=n/\o=0 then
    match v with
    |.p (.agg _)=>some v
    |.agg _=>some v
    |_=>none
   else if o+n<=cs.length then some (pY (sub o n cs)) else none
  else cs[o]?
def kD (P:Program) (T:TypeId) (v:AV) (o:Nat):Option AV:=
 match b6 P T,b8 P T with
 |some a,some n=>v.part a n o
 |_,_=>none
def AV.withCells (v:AV) (o:Nat) (x:AV) (n:Nat):Option AV:=
 match v.cells,x.cells with
 |some cs,some new=>
  if new.length=n then
   if cs.length=n/\o=0 then some x
   else if o+n<=cs.length then some (pY (jW cs o new)) else none
  else none
 |_,_=>none
inductive OR where
 |val (v:AV) (h:Heap)
 |skip (h:Heap)
 |call (f:FuncId) (args:List AV)
 |yld (l:Nat) (args:List AV)
 |dfr (d:ADef)
 |recover
 |panic (v:PV)
 |stuck
def ir (h:Heap):Option AV->OR
 |some v=>.val v h
 |none=>.stuck
def nF (P:Program) (T:TypeId) (x:AV) (h:Heap):OR:=
 match x with
 |.p (.ptr _ xs i o)=>match xs[i]? with|some v=>ir h (kD P T (.p v) o)|none=>.stuck
 |.ptr id ver i o=>
  match h[id]? with
  |some (.row _ xs)=>if xs.length=ver then match xs[i]? with|some v=>ir h (kD P T v o)|none=>.stuck else .stuck
  |_=>.stuck
 |_=>.stuck
def gE (P:Program) (T:TypeId) (x y:AV) (h:Heap):OR:=
 match x,b8 P T with
 |.ptr id ver i o,some n=>
  match h[id]? with
  |some (.row sz xs)=>
   if xs.length=ver then
    match xs[i]? with
    |some v=>match v.withCells o y n with|some v'=>.skip (h.set id (.row sz (xs.set i v')))|none=>.stuck
    |none=>.stuck
   else .stuck
  |_=>.stuck
 |_,_=>.stuck
def gL (h:Heap) (id ver:Nat):Option Nat:=
 match h[id]? with
 |some (.row sz xs)=>if xs.length=ver then some sz else none
 |_=>none
def lD (P:Program) (T:TypeId) (x:AV) (f:Nat) (h:Heap):OR:=
 match ai P T f with
 |none=>.stuck
 |some (off,t)=>
  match b8 P t with
  |none=>.stuck
  |some n=>
   if n=0 then .stuck else
   match x with
   |.p (.ptr sz xs i o)=>.val (.p (.ptr sz xs i (o+off))) h
   |.ptr id ver i o=>match gL h id ver with|some _=>.val (.ptr id ver i (o+off)) h|none=>.stuck
   |_=>.stuck
def s6 (P:Program) (T:TypeId) (x:AV) (f:Nat) (h:Heap):OR:=
 match ai P T f with
 |none=>.stuck
 |some (off,t)=>
  match x with
  |.p (.agg _)=>ir h (kD P t x off)
  |.agg _=>ir h (kD P t x off)
  |_=>.stuck
def hJ (P:Program) (T:TypeId) (x ix:AV) (h:Heap):OR:=
 match ix with
 |.p (.int _ i)=>
  match x with
  |.p (.slice sz xs _)=>
   match bu P T with
   |some e=>if b8 P e=some sz/\0<=i/\i<xs.length then .val (.p (.ptr sz xs i.toNat 0)) h else .stuck
   |none=>.stuck
  |.slice id ver off len=>
   match bu P T,h[id]? with
   |some e,some (.row sz xs)=>
    if b8 P e=some sz/\xs.length=ver/\0<=i/\i<len then .val (.ptr id ver (off+i.toNat) 0) h else .stuck
   |_,_=>.stuck
  |.p (.ptr sz xs j o)=>
   match dP P T with
   |some (n,e)=>match b8 P e with|some s=>if 0<=i/\i<n then .val (.p (.ptr sz xs j (o+i.toNat*s))) h else .stuck|none=>.stuck
   |none=>.stuck
  |.ptr id ver j o=>
   match dP P T with
   |some (n,e)=>
    match b8 P e,gL h id ver with
    |some s,some _=>if 0<=i/\i<n then .val (.ptr id ver j (o+i.toNat*s)) h else .stuck
    |_,_=>.stuck
   |none=>.stuck
  |_=>.stuck
 |_=>.stuck
def wl (P:Program) (T:TypeId) (x ix:AV) (h:Heap):OR:=
 match ix with
 |.p (.int _ i)=>
  match x with
  |.p (.str s)=>if eG P T=true/\0<=i then match s[i.toNat]? with|some b=>.val (.p (.int .u8 b.toNat)) h|none=>.stuck else .stuck
  |.p (.agg _)|.agg _=>
   match dP P T with
   |some (n,e)=>match b8 P e with|some s=>if 0<=i/\i<n then ir h (kD P e x (i.toNat*s)) else .stuck|none=>.stuck
   |none=>.stuck
  |_=>.stuck
 |_=>.stuck
def l9:Option AV->Option (Option Int)
 |none=>some none
 |some (.p (.int _ i))=>some (some i)
 |_=>none
def md (l r:Option Int) (len:Nat):Option (Nat×Nat):=
 if 0<=l.getD 0/\l.getD 0<=r.getD len/\r.getD len<=len then some ((l.getD 0).toNat,(r.getD len).toNat) else none
def s5 (P:Program) (T:TypeId) (x:AV) (lo hi mx:Option AV) (h:Heap):OR:=
 match l9 lo,l9 hi,l9 mx with
 |some l,some r,some m=>
  match x with
  |.p (.slice sz xs full)=>
   match bu P T,md l r xs.length with
   |some e,some (a,b)=>
    if b8 P e=some sz then
     match m with
     |none=>.val (.p (.slice sz ((xs.take b).drop a) (full&&b==xs.length))) h
     |some m=>if r=some m then .val (.p (.slice sz ((xs.take b).drop a) true)) h else .stuck
    else .stuck
   |_,_=>.stuck
  |.slice id ver off len=>
   match bu P T,h[id]?,md l r len,m with
   |some e,some (.row sz xs),some (a,b),none=>
    if b8 P e=some sz/\xs.length=ver then .val (.slice id ver (off+a) (b-a)) h else .stuck
   |some e,some (.row sz xs),_,some m=>
    if b8 P e=some sz/\xs.length=ver/\r.isSome=true/\0<=l.getD 0/\l.getD 0<=r.getD 0/\r.getD 0<=m/\off+m<=ver then .val .undef h else .stuck
   |some e,some (.row sz xs),none,none=>
    if b8 P e=some sz/\xs.length=ver/\r.isSome=true/\0<=l.getD 0/\l.getD 0<=r.getD 0/\off+r.getD 0<=ver then .val (.slice id ver (off+(l.getD 0).toNat) ((r.getD 0).toNat-(l.getD 0).toNat)) h else .stuck
   |_,_,_,_=>.stuck
  |.p (.str s)=>
   match md l r s.size,m with
   |some (a,b),none=>if eG P T=true then .val (.p (.str (s.extract a b))) h else .stuck
   |_,_=>.stuck
  |.p .nilslice=>
   match bu P T,md l r 0,m with
   |some e,some _,none=>if(b8 P e).isSome=true then .val (.p .nilslice) h else .stuck
   |_,_,_=>.stuck
  |_=>.stuck
 |_,_,_=>.stuck
inductive CK where
 |bool|int|str
 deriving DecidableEq
def nK:CK->PV->PV->Option Bool
 |.bool,.bool a,.bool b=>some (a==b)
 |.int,.int j a,.int k b=>if j=k then some (a==b) else none
 |.str,.str a,.str b=>some (a==b)
 |_,_,_=>none
def eg:List CK->List PV->List PV->Option Bool
 |[],[],[]=>some true
 |k::ks,x::a,y::b=>match nK k x y,eg ks a b with|some s,some t=>some (s&&t)|_,_=>none
 |_,_,_=>none
def vA (P:Program) (rec:TypeId->Option (List CK)):List Field->Nat->Option (List CK)
 |[],_=>some []
 |f::fs,n=>
  if f.name ≠ "_" /\ f.offset=n then
   match rec f.type with
   |some ks=>if b8 P f.type=some ks.length/\(b6 P f.type).isSome=true then match vA P rec fs (n+ks.length) with|some r=>some (ks++r)|none=>none else none
   |none=>none
  else none
def lN (P:Program):Nat->TypeId->Option (List CK)
 |0,_=>none
 |d+1,T=>
  match P.underlying T with
  |some .bool=>some [.bool]
  |some (.int _)=>some [.int]
  |some .string=>some [.str]
  |some (.struct fs)=>if P.stoodInHeld T then none else vA P (lN P d) fs.toList 0
  |_=>none
def dG (P:Program) (T:TypeId):Option (List CK):=
 if P.eqGuardType P.depth T=false/\b6 P T=some true then lN P 20 T else none
inductive TK where
 |bool|iface|slice|ptr|func|other
 deriving DecidableEq
def bS (P:Program) (T:TypeId):TK:=
 match P.underlying T with
 |some .bool=>.bool
 |some (.interface _)=>.iface
 |some (.slice _)=>.slice
 |some (.func _ _ _)=>.func
 |some (.pointer e)=>if b8 P e=none\/b8 P e=some 0 then .other else .ptr
 |_=>.other
def F5 (P:Program) (T:TypeId) (cst:Bool) (x y:AV):Option Bool:=
 match x,y with
 |.p (.bool a),.p (.bool b)=>if bS P T=.bool then some (a==b) else none
 |.p (.agg a),.p (.agg b)=>match dG P T with|some ks=>eg ks a b|none=>none
 |.p .niliface,.p .niliface=>if cst=true/\bS P T=.iface then some true else none
 |.p .niliface,.p (.iface _ _)=>if bS P T=.iface then some false else none
 |.p (.iface _ _),.p .niliface=>if bS P T=.iface then some false else none
 |.p .nilslice,.p .nilslice=>if bS P T=.slice then some true else none
 |.p .nilslice,.p (.slice _ xs _)=>if bS P T=.slice/\xs≠[] then some false else none
 |.p (.slice _ xs _),.p .nilslice=>if bS P T=.slice/\xs≠[] then some false else none
 |.p .nilptr,.p .nilptr=>if bS P T=.ptr then some true else none
 |.p .nilptr,.p (.ptr _ _ _ _)=>if bS P T=.ptr then some false else none
 |.p (.ptr _ _ _ _),.p .nilptr=>if bS P T=.ptr then some false else none
 |.p .nilfunc,.p .nilfunc=>if bS P T=.func then some true else none
 |.p (.func _ _ _),.p .nilfunc=>if bS P T=.func then some false else none
 |.func _ _ _,.p .nilfunc=>if bS P T=.func then some false else none
 |_,_=>none
def cT:Nat:=1099511627776
def zh (op:BinOp) (a b:ByteArray):Option PV:=
 match op with
 |.eql=>some (.bool (a==b))
 |.neq=>some (.bool !(a==b))
 |.add=>if a.size+b.size<=cT then some (.str (a++b)) else none
 |.lss=>some (.bool (Op.bytesLess a.toList b.toList))
 |_=>none
def sK (op:BinOp) (k:IntKind) (a b:Int):Option PV:=
 match op with
 |.add=>some (.int k (k.wrap (a+b)))
 |.sub=>some (.int k (k.wrap (a-b)))
 |.mul=>some (.int k (k.wrap (a*b)))
 |.quo=>if b=0 then none else some (.int k (k.wrap (a.tdiv b)))
 |.rem=>if b=0 then none else some (.int k (a.tmod b))
 |.eql=>some (.bool (a==b))
 |.neq=>some (.bool (a != b))
 |.lss=>some (.bool (a<b))
 |.leq=>some (.bool (a<=b))
 |.gtr=>some (.bool (b<a))
 |.geq=>some (.bool (b<=a))
 |.and=>some (.int k (k.wrap (BitVec.ofInt k.bits a&&& BitVec.ofInt k.bits b).toNat))
 |.or=>some (.int k (k.wrap (BitVec.ofInt k.bits a||| BitVec.ofInt k.bits b).toNat))
 |.andNot=>some (.int k (k.wrap (BitVec.ofInt k.bits a&&& ~~~BitVec.ofInt k.bits b).toNat))
 |_=>none
def fg (op:BinOp) (k:IntKind) (a b:Int):Option PV:=
 if b<0 then none else
 match op with
 |.shl=>some (.int k (k.wrap (a*2^(min b.toNat k.bits))))
 |.shr=>some (.int k (a.fdiv (2^(min b.toNat k.bits))))
 |_=>none
def wT:BinOp->Bool
 |.shl=>true
 |.shr=>true
 |_=>false
def sg (h:Heap):Option PV->OR
 |some v=>.val (.p v) h
 |none=>.stuck
def BH (P:Program) (op:BinOp) (T:TypeId) (cst:Bool) (x y:AV) (h:Heap):OR:=
 match x,y with
 |.p (.int k a),.p (.int k' b)=>if wT op=true then sg h (fg op k a b) else if k=k' then sg h (sK op k a b) else .stuck
 |.p (.str a),.p (.str b)=>sg h (zh op a b)
 |x,y=>
  match op with
  |.eql=>sg h ((F5 P T cst x y).map .bool)
  |.neq=>sg h ((F5 P T cst x y).map λt=>.bool !t)
  |_=>.stuck
def Iu (op:UnOp) (x:AV) (h:Heap):OR:=
 match op,x with
 |.not,.p (.bool b)=>.val (.p (.bool !b)) h
 |.neg,.p (.int k a)=>.val (.p (.int k (k.wrap (-a)))) h
 |_,_=>.stuck
def dW (P:Program) (src dst:TypeId):Option IntKind:=
 match P.underlying src,P.underlying dst with
 |some _,some (.int k)=>some k
 |_,_=>none
def sJ:List PV->Option (List Int)
 |[]=>some []
 |.int .u8 n::r=>(sJ r).map (n::·)
 |_::_=>none
def yC (P:Program) (T:TypeId):Bool:=
 match bu P T with
 |some e=>(match P.underlying e with|some (.int .u8)=>true|_=>false)
 |none=>false
def oe (P:Program) (src dst:TypeId) (x:AV) (h:Heap):OR:=
 match x with
 |.p (.int _ n)=>match dW P src dst with|some k=>.val (.p (.int k (k.wrap n))) h|none=>.stuck
 |.p (.str s)=>if eG P src=true/\eG P dst=true then .val (.p (.str s)) h else .stuck
 |.p (.slice 1 (x::xs) _)=>if yC P src=true/\eG P dst=true then(match sJ (x::xs) with|some ns=>.val (.p (.str ⟨(ns.map λn=>UInt8.ofNat n.toNat).toArray⟩)) h|none=>.stuck) else .stuck
 |_=>.stuck
def uF (place:Nat->Option (Nat×Nat)):List (Nat×AV)->List AV->Option (List AV)
 |[],cs=>some cs
 |(i,v)::r,cs=>
  match place i,v.cells with
  |some (off,n),some new=>if new.length=n/\off+n<=cs.length then uF place r (jW cs off new) else none
  |_,_=>none
def aC (P:Program) (T:TypeId):Option (List (Nat×Nat)):=
 match P.underlying T with
 |some (.struct fs)=>fs.toList.mapM λf=>(P.info? f.type).map λi=>(f.offset,i.size)
 |_=>none
def s7 (P:Program) (T:TypeId) (ps:List (Nat×AV)) (h:Heap):OR:=
 match an P T with
 |some (.agg z)=>
  match aC P T with
  |some pl=>match uF (λi=>pl[i]?) ps (z.map .p) with|some cs=>.val (pY cs) h|none=>.stuck
  |none=>
   match dP P T with
   |some (_,e)=>
    match b8 P e with
    |some s=>match uF (λi=>some (i*s,s)) ps (z.map .p) with|some cs=>.val (pY cs) h|none=>.stuck
    |none=>.stuck
   |none=>.stuck
 |_=>.stuck
def rm:Nat->Nat->List (Nat×AV)->Option (List AV)
 |_,_,[]=>some []
 |i,sz,(j,v)::r=>if i=j/\v.cells.map (·.length)=some sz then match rm (i+1) sz r with|some l=>some (v::l)|none=>none else none
def kx (P:Program) (T:TypeId) (mu:Bool) (n:Nat) (ps:List (Nat×AV)) (h:Heap):OR:=
 match bu P T with
 |some e=>
  match b8 P e with
  |some sz=>
   match rm 0 sz ps with
   |some xs=>
    if xs.length=n/\sz≠0/\n*sz<=16777216/\f8 P e sz=true then
     match mu,gq xs with
     |false,some l=>.val (.p (.slice sz l true)) h
     |_,_=>.val (.slice h.length n 0 n) (h++[.row sz xs])
    else .stuck
   |none=>.stuck
  |none=>.stuck
 |none=>.stuck
def od (x:AV) (i:Nat) (h:Heap):OR:=
 match x with
 |.p (.tuple vs)=>match vs[i]? with|some v=>.val (.p v) h|none=>.stuck
 |.tuple vs=>match vs[i]? with|some v=>.val v h|none=>.stuck
 |_=>.stuck
def yR (P:Program) (T:TypeId) (x:AV) (h:Heap):OR:=
 match x with
 |.p (.str s)=>if eG P T=true then .val (.p (.int .i64 s.size)) h else .stuck
 |.p (.slice _ xs _)=>if(bu P T).isSome=true then .val (.p (.int .i64 xs.length)) h else .stuck
 |.p .nilslice=>if(bu P T).isSome=true then .val (.p (.int .i64 0)) h else .stuck
 |.slice id ver _ len=>if(bu P T).isSome=true/\(gL h id ver).isSome=true then .val (.p (.int .i64 len)) h else .stuck
 |.p (.agg _)=>match dP P T with|some (n,_)=>.val (.p (.int .i64 n)) h|none=>.stuck
 |_=>.stuck
def j3 (h:Heap) (sz:Nat):AV->Option (List AV)
 |.p .nilslice=>some []
 |.p (.slice sz' xs _)=>if sz'=sz then some (xs.map .p) else none
 |.p (.str s)=>if sz=1 then some (s.data.toList.map λb=>.p (.int .u8 b.toNat)) else none
 |.slice id ver off len=>
  match h[id]? with
  |some (.row sz' xs)=>if sz'=sz/\xs.length=ver/\off+len<=xs.length then some (sub off len xs) else none
  |_=>none
 |_=>none
def ar:Nat:=274877906944
def s8 (P:Program) (T U:TypeId) (x y:AV) (h:Heap):OR:=
 match bu P T with
 |some e=>
  if(bu P U).isSome=false/\eG P U=false then .stuck else
  match b8 P e,ld P e with
  |some sz,some bytes=>
   match j3 h sz y with
   |some ys=>
    if sz≠0/\bytes<=256/\f8 P e sz=true then
     match x with
     |.p .nilslice=>if ys.length<=ar then if ys=[] then .val (.p .nilslice) h else .val (.slice h.length ys.length 0 ys.length) (h++[.row sz ys]) else .stuck
     |.p (.slice sz' xs true)=>
      if sz'=sz/\xs.length+ys.length<=ar then
       if ys=[] then .val x h else .val (.slice h.length (xs.length+ys.length) 0 (xs.length+ys.length)) (h++[.row sz (xs.map .p++ys)])
      else .stuck
     |.slice id ver off len=>
      match h[id]? with
      |some (.row sz' xs)=>
       if sz'=sz/\xs.length=ver/\off=0/\len=ver/\xs.length+ys.length<=ar then
        .val (.slice id (xs.length+ys.length) 0 (xs.length+ys.length)) (h.set id (.row sz (xs++ys)))
       else if sz'=sz/\xs.length=ver/\off=0/\len+ys.length<=ver then
        .val (.slice id ver 0 (len+ys.length)) (h.set id (.row sz (xs.take len++ys++xs.drop (len+ys.length))))
       else .stuck
      |_=>.stuck
     |_=>.stuck
    else .stuck
   |none=>.stuck
  |_,_=>.stuck
 |none=>.stuck
def qf (P:Program) (T:TypeId) (l c:AV) (h:Heap):OR:=
 match bu P T,l,c with
 |some e,.p (.int .i64 l),.p (.int .i64 c)=>
  match b8 P e,ld P e,an P e with
  |some sz,some bytes,some z=>
   if sz≠0/\bytes<=256/\z.cells.length=sz/\(AV.p z).cells.isSome=true/\0<=l/\l<=c/\c<=ar then .val (.slice h.length l.toNat 0 l.toNat) (h++[.row sz (List.replicate l.toNat (.p z))]) else .stuck
  |_,_,_=>.stuck
 |_,_,_=>.stuck
def Az (P:Program) (T:TypeId) (x:AV) (h:Heap):OR:=
 match bu P T,x with
 |some e,.slice id ver off len=>
  match h[id]?,b8 P e,an P e with
  |some (.row sz xs),some sz',some z=>
   if sz'=sz/\xs.length=ver/\off+len<=ver/\z.cells.length=sz/\sz≠0/\(AV.p z).cells.isSome=true then
    .val (.p (.tuple [])) (h.set id (.row sz (xs.take off++List.replicate len (.p z)++xs.drop (off+len))))
   else .stuck
  |_,_,_=>.stuck
 |_,_=>.stuck
def xf (h:Heap) (sz len:Nat) (y:AV):Option (List AV):=
 match y with
 |.slice id ver off n=>
  match h[id]? with
  |some (.row sz' ys)=>if sz'=sz/\ys.length=ver/\off+n<=ver then some (sub off (Nat.min n len) ys) else none
  |_=>none
 |.p (.slice sz' xs full)=>match j3 h sz (.p (.slice sz' xs full)) with|some ys=>if ys.length<=len then some ys else none|none=>none
 |_=>none
def DJ (P:Program) (T:TypeId) (x y:AV) (h:Heap):OR:=
 match bu P T,x with
 |some e,.slice id ver off len=>
  match h[id]?,b8 P e with
  |some (.row sz xs),some sz'=>
   if sz'=sz/\xs.length=ver/\off+len<=ver then
    match xf h sz len y with
    |some ys=>.val (.p (.int .i64 (ys.length:Int))) (h.set id (.row sz (xs.take off++ys++xs.drop (off+ys.length))))
    |none=>.stuck
   else .stuck
  |_,_=>.stuck
 |_,_=>.stuck
def rn (P:Program) (b:Builtin) (ts:Array TypeId) (args:List AV) (h:Heap):OR:=
 match b,args with
 |.len,[x]=>if ts.size=1 then yR P (ts.getD 0 0) x h else .stuck
 |.append,[x,y]=>if ts.size=2 then s8 P (ts.getD 0 0) (ts.getD 1 0) x y h else .stuck
 |.min,[.p (.int j a),.p (.int _ b)]=>.val (.p (.int j (if b<a then b else a))) h
 |.max,[.p (.int j a),.p (.int _ b)]=>.val (.p (.int j (if a<b then b else a))) h
 |.recover,[]=>.recover
 |.clear,[x]=>if ts.size=1 then Az P (ts.getD 0 0) x h else .stuck
 |.copy,[x,y]=>if ts.size=2 then DJ P (ts.getD 0 0) x y h else .stuck
 |_,_=>.stuck
def fN (f:AV) (args:List AV):OR:=
 match f with
 |.p (.func (.func g) first cap)=>.call g (first.map .p++args++cap.map .p)
 |.func (.func g) first cap=>.call g (first++args++cap)
 |.ref .yl l=>.yld l args
 |_=>.stuck
def wm (f:AV) (args:List AV):OR:=
 match fN f args with
 |.call g l=>.dfr (.fn g l)
 |_=>.stuck
def kG:Operand->Bool
 |.const _=>true
 |_=>false
def ku (P:Program) (A:TypeId) (ok:Bool) (x:AV) (h:Heap):OR:=
 match fZ P A,x with
 |some false,.p (.iface t v)=>if t=A then .val (.p (if ok then .tuple [v,.bool true] else v)) h else if ok=true then(match an P A with|some z=>.val (.p (.tuple [z,.bool false])) h|none=>.stuck) else .stuck
 |_,_=>.stuck
def Ay (P:Program) (T:TypeId) (x:AV) (h:Heap):OR:=
 match x with
 |.p (.str s)=>if eG P T=true then .val (.ref .it h.length) (h++[.strIter s 0]) else .stuck
 |_=>.stuck
def DI (isStr:Bool) (x:AV) (h:Heap):OR:=
 match isStr,x with
 |true,.ref .it id=>
  match h[id]? with
  |some (.strIter s pos)=>
   if pos<s.size then .val (.p (.tuple [.bool true,.int .i64 pos,.int .i32 (Utf8.decode s pos).1])) (h.set id (.strIter s (pos+(Utf8.decode s pos).2)))
   else .val (.p (.tuple [.bool false])) h
  |_=>.stuck
 |_,_=>.stuck
def Ft:PV->CK
 |.int _ _=>.int
 |.str _=>.str
 |_=>.bool
def jr:PV->PV->Option Bool
 |.int j a,.int k b=>if j=k then some (a==b) else none
 |.str a,.str b=>some (a==b)
 |.agg a,.agg b=>eg (a.map Ft) a b
 |_,_=>none
def Al (P:Program) (T:TypeId):Option CK:=match P.underlying T with|some .bool=>some .bool|some (.int _)=>some .int|some .string=>some .str|_=>none
def vm (P:Program):List Field->Nat->Option (List CK)
 |[],_=>some []
 |f::fs,n=>if f.name ≠ "_" /\ f.offset=n then(match Al P f.type,vm P fs (n+1) with|some k,some r=>some (k::r)|_,_=>none) else none
def yu (P:Program) (T:TypeId):Option (TypeId×TypeId):=match P.underlying T with|some (.map k e)=>some (k,e)|_=>none
inductive KK where
 |int|str|no|agg (ks:List CK)
def pC (P:Program) (K:TypeId):KK:=match P.underlying K with
 |some (.int _)=>.int
 |some .string=>.str
 |some (.struct fs)=>if P.stoodInHeld K then .no else match vm P fs.toList 0 with|some ks=>.agg ks|none=>.no
 |_=>.no
def ud (P:Program) (K:TypeId) (k:PV):Bool:=match pC P K,k with|.int,.int _ _=>true|.str,.str _=>true|.agg ks,.agg a=>(eg ks a a).isSome|_,_=>false
def kY (k:PV):List (PV×PV)->Option (Option PV)
 |[]=>some none
 |(q,v)::r=>match jr k q with|some true=>some (some v)|some false=>kY k r|none=>none
def nn (k v:PV):List (PV×PV)->Option (List (PV×PV))
 |[]=>some [(k,v)]
 |(q,u)::r=>match jr k q with|some true=>some ((k,v)::r)|some false=>(nn k v r).map ((q,u)::·)|none=>none
def F4 (_:Program) (_:TypeId) (r:Option AV) (h:Heap):OR:=
 match r with
 |none=>.val (.ref .mp h.length) (h++[.mp []])
 |some _=>.stuck
def A8 (ok:Bool) (v:PV) (b:Bool) (h:Heap):OR:=.val (.p (if ok then .tuple [v,.bool b] else v)) h
def qq (P:Program) (T:TypeId) (x k:AV) (ok:Bool) (h:Heap):OR:=
 match yu P T,x,k with
 |some (K,E),.ref .mp id,.p k=>
  match h[id]?,an P E with
  |some (.mp es),some z=>
   if ud P K k=true then
    match kY k es with
    |some (some v)=>A8 ok v true h
    |some none=>A8 ok z false h
    |none=>.stuck
   else .stuck
  |_,_=>.stuck
 |_,_,_=>.stuck
def qe (P:Program) (T:TypeId) (x k v:AV) (h:Heap):OR:=
 match yu P T,x,k,v with
 |some (K,_),.ref .mp id,.p k,.p v=>
  match h[id]? with
  |some (.mp es)=>if ud P K k=true then(match nn k v es with|some es'=>.skip (h.set id (.mp es'))|none=>.stuck) else .stuck
  |some (.memo f)=>if ud P K k=true/\f k v=true then .skip h else .stuck
  |_=>.stuck
 |_,_,_,_=>.stuck
def bV (P:Program) (mu:Nat->Bool) (o:Oper) (e:Operand->AV) (h:Heap):OR:=
 match o.op with
 |.move x=>.val (e x) h
 |.assign x=>.val (e x) h
 |.pick c a b=>match e c with|.p (.bool t)=>.val (if t then e a else e b) h|_=>.stuck
 |.alloc T=>if nt P T=true then(match an P T,Ir P T with|some (.agg [.nilptr,.nilslice]),some e=>.val (.ref .bl h.length) (h++[.bld T e (.p .nilslice)])|_,_=>.stuck) else match an P T with|some z=>if(AV.p z).cells.isSome=true then .val (.ptr h.length 1 0 0) (h++[.row z.cells.length [.p z]]) else .stuck|none=>.stuck
 |.box _ x=>match (e x).cells with|some cs=>.val (.ptr h.length 1 0 0) (h++[.row cs.length [e x]])|none=>.stuck
 |.build T ps=>s7 P T (ps.toList.map λq=>(q.1,e q.2)) h
 |.buildSlice T n ps=>kx P T (match o.dst with|some d=>mu d|none=>false) n (ps.toList.map λq=>(q.1,e q.2)) h
 |.load T a=>nF P T (e a) h
 |.store T a x=>gE P T (e a) (e x) h
 |.nilCheck x=>match e x with|.p (.ptr sz xs i o)=>.val (.p (.ptr sz xs i o)) h|.ptr id ver i o=>(match gL h id ver with|some _=>.val (.ptr id ver i o) h|none=>.stuck)|_=>.stuck
 |.binOp op T x y _=>BH P op T (kG x||kG y) (e x) (e y) h
 |.unOp op _ x=>Iu op (e x) h
 |.convert src dst x=>oe P src dst (e x) h
 |.makeInterface T x=>if fZ P T=some false then match e x with|.p v=>.val (.p (.iface T v)) h|_=>.stuck else .stuck
 |.makeFunc fn first cap=>if(first.toList.map e).all AV.plain=true/\(cap.toList.map e).all AV.plain=true then .val (zJ fn (first.toList.map e) (cap.toList.map e)) h else .stuck
 |.makeSlice T l c=>qf P T (e l) (e c) h
 |.slice T x lo hi mx=>s5 P T (e x) (lo.map e) (hi.map e) (mx.map e) h
 |.fieldAddr T x f=>lD P T (e x) f h
 |.field T x f=>s6 P T (e x) f h
 |.indexAddr T x i=>hJ P T (e x) (e i) h
 |.index T x i=>wl P T (e x) (e i) h
 |.extract t i=>od (e t) i h
 |.call c=>
  match c.callee with
  |.value f=>fN (e f) (c.args.toList.map e)
  |.builtin b=>rn P b c.argTypes (c.args.toList.map e) h
  |.invoke _ _=>.stuck
 |.defer c=>
  match c.callee with
  |.value f=>wm (e f) (c.args.toList.map e)
  |_=>.stuck
 |.panic x=>match e x with|.p (.iface t v)=>.panic (.iface t v)|_=>.stuck
 |.typeAssert x _ A ok=>ku P A ok (e x) h
 |.range T x=>Ay P T (e x) h
 |.next i isStr=>DI isStr (e i) h
 |.makeMap T r=>F4 P T (r.map e) h
 |.lookup T x k ok=>qq P T (e x) (e k) ok h
 |.mapUpdate T m k v=>qe P T (e m) (e k) (e v) h
 |_=>.stuck
inductive AEnd where
 |ret (v:AV)
 |panic (v:PV)
inductive Ex where
 |normal
 |exit (id:Nat)
 |ret
 |panic (v:PV)
def qo (A:AAct) (d:Option Tmp) (want:Bool):Option Bool:=
 match d with
 |none=>some false
 |some d=>match A.tmps d with|.p (.bool b)=>some (b==want)|.p (.tuple _)=>some false|_=>none
def bz (ops:Array Oper) (A:AAct) (o:Oper):Option Bool:=
 match o.guard with
 |none=>some true
 |some (j,want)=>qo A ((ops[j]?).bind (·.dst)) want
def Gl (b:Bool) (X Y:Unit->Prop):Prop:=(b=true->X ())/\(b=false->Y ())
end Abs
end Go.Proofs.YtnjiadikeacfaaaGreatDoor
