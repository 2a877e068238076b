/- DEFINITIONS OF AN ABSTRACT MACHINE: immutable values, a heap of the call's own, and what a -/
import Derived.WalkKit
set_option linter.all false
namespace Go.Proofs.YtoapoaoelpcniaaGreatDoor
namespace Abs
abbrev My:=@List.getElem?_cons_zero
abbrev RE:=@List.map_set
abbrev dl:=@Result.andThen_ok
abbrev rf:=@Bool.false_or
abbrev j4:=@Nat.lt_succ_self
abbrev jc:=@Bool.false_eq_true
abbrev pg:=@List.getElem?_take
abbrev dc:=@List.getElem?_eq_getElem
abbrev cV:=@List.any_cons
abbrev Dd:=@List.flatMap_append
abbrev gk:=@List.take_left'
abbrev KQ:=@List.singleton_append
abbrev aF:=@List.getElem?_eq_some_iff
abbrev Pf:=@List.map_congr_left
abbrev mF:=@List.flatMap_cons
abbrev jf:=@List.getElem?_set_self
abbrev tO:=@List.mem_of_mem_take
abbrev wF:=@Nat.sub_self
abbrev bL:=@List.map_cons
abbrev tN:=@Nat.eq_zero_or_pos
abbrev Pe:=@List.replicate_zero
abbrev cg:=@Option.map_eq_some_iff
abbrev Ca:=@Option.getD_none
abbrev tM:=@Int.mul_le_mul_of_nonneg_left
abbrev Fz:=@List.getElem?_toArray
abbrev Fy:=@Int.zero_mul
abbrev Fx:=@Array.foldl_toList
abbrev bC:=@List.append_nil
abbrev iq:=@Nat.zero_add
abbrev jO:=@Option.some.injEq
abbrev j6:=@Option.isSome_iff_exists
abbrev bB:=@Nat.le_refl
abbrev r7:=@Nat.le_of_ble_eq_true
abbrev tL:=@Bool.true_or
abbrev uT:=@Array.getElem?_modify
abbrev j5:=@Function.comp_def
abbrev fQ:=@Array.getD_eq_getD_getElem?
abbrev jN:=@Nat.mul_le_mul_right
abbrev cw:=@List.length_nil
abbrev ck:=@List.map_nil
abbrev B':=@Nat.pow_le_pow_right
abbrev UM:=@Array.getElem?_setIfInBounds
abbrev je:=@Option.getD_some
abbrev B9:=@Nat.one_mul
abbrev Fw:=@List.all_nil
abbrev KG:=@Array.mem_toList_iff
abbrev KF:=@Nat.eq_or_lt_of_le
abbrev uS:=@List.ext_getElem?
abbrev B8:=@List.foldl_append
abbrev Pd:=@Bool.or_eq_true
abbrev bn:=@List.length_singleton
abbrev lm:=@List.all_eq_true
abbrev qN:=@List.take_length
abbrev Pc:=@List.flatten_cons
abbrev cD:=@Bool.or_false
abbrev dY:=@Nat.zero_le
abbrev UL:=@List.eraseIdx_eq_take_drop_succ
abbrev KE:=@List.drop_of_length_le
abbrev ny:=@List.any_map
abbrev Fv:=@List.append_eq
abbrev KD:=@List.any_eq_true
abbrev Pb:=@Array.getElem?_push
abbrev eo:=@List.getElem?_set_ne
abbrev r6:=@Array.getElem?_eq_some_iff
abbrev Pa:=@Bool.eq_false_iff
abbrev Fu:=@Bool.not_eq_true'
abbrev KC:=@Bool.not_eq_true
abbrev zB:=@List.mem_flatMap
abbrev O':=@List.mem_or_eq_of_mem_set
abbrev UK:=@List.drop_append_of_le_length
abbrev dr:=@List.mem_append
abbrev B6:=@Nat.ne_of_lt
abbrev uR:=@List.map_map
abbrev nx:=@Int.eq_ofNat_of_zero_le
abbrev zA:=@List.flatMap_nil
abbrev O9:=@Option.isSome_none
abbrev nw:=@Array.ext
abbrev iL:=@List.not_mem_nil
abbrev zy:=@Int.mul_zero
abbrev wE:=@List.drop_drop
abbrev cj:=@List.map_append
abbrev eF:=@List.length_map
abbrev mE:=@List.drop_zero
abbrev O8:=@Nat.mod_eq_of_lt
abbrev KB:=@List.replicate_succ
abbrev Ft:=@Int.neg_mul
abbrev uQ:=@Nat.mod_lt
abbrev KA:=@Nat.mul_comm
abbrev pk:=@Nat.add_zero
abbrev lH:=@Nat.le_trans
abbrev jM:=@Nat.lt_of_lt_of_le
abbrev Fs:=@List.cons.inj
abbrev cu:=@List.length_cons
abbrev Fq:=@Int.ediv_le_ediv
abbrev B5:=@Int.le_ediv_iff_mul_le
abbrev tK:=@List.eq_nil_of_length_eq_zero
abbrev B4:=@Int.one_mul
abbrev fM:=@Nat.add_mul
abbrev wD:=@Int.mul_assoc
abbrev gh:=@List.mem_singleton
abbrev E8:=@Nat.min_eq_left
abbrev md:=@Bool.not_not
abbrev cd:=@List.getD_eq_getElem?_getD
abbrev E7:=@List.mem_cons_of_mem
abbrev yj:=@List.concat_eq_append
abbrev jX:=@Option.map_some
abbrev jW:=@Nat.add_assoc
abbrev cH:=@List.mem_map
abbrev nY:=@Bool.and_self
abbrev uX:=@Array.length_toList
abbrev rk:=@Nat.lt_trichotomy
abbrev pU:=@Int.mul_le_mul_of_nonneg_right
abbrev Aw:=@List.set_append_left
abbrev uW:=@List.length_eraseIdx
abbrev cO:=@List.getElem?_map
abbrev g7:=@Int.toNat_natCast
abbrev E6:=@Int.le_of_lt
abbrev KP:=@List.getElem?_replicate
abbrev mb:=@Int.add_zero
abbrev s9:=@Int.mul_le_mul
abbrev gp:=@Option.bind_some
abbrev ir:=@Int.le_refl
abbrev nh:=@Bool.eq_iff_iff
abbrev E5:=@List.getElem?_mapIdx
abbrev s8:=@Int.le_trans
abbrev lr:=@List.take_append_drop
abbrev rj:=@List.mem_range
abbrev Av:=@List.getElem_mem
abbrev E4:=@Array.size_eq_zero_iff
abbrev ri:=@Int.mul_nonneg
abbrev Au:=@Prod.mk.injEq
abbrev s7:=@List.length_pos_iff
abbrev cG:=@Bool.and_eq_true
abbrev s6:=@List.take_add_one
abbrev KO:=@List.filter_append
abbrev KN:=@Array.getElem?_eq_getElem
abbrev eD:=@List.take_of_length_le
abbrev lq:=@Option.some.inj
abbrev ci:=@List.mem_cons
abbrev E3:=@Array.getElem?_append
abbrev bw:=@List.any_nil
abbrev KM:=@List.append_of_mem
abbrev cF:=@List.append_assoc
abbrev E2:=@Int.le_total
abbrev E1:=@List.length_eq_one_iff
abbrev yi:=@List.length_eq_zero_iff
abbrev E0:=@Nat.zero_mul
abbrev aB:=@List.length_append
abbrev yh:=@List.getElem?_cons_succ
abbrev bW:=@List.getElem?_append_right
abbrev eu:=@List.cons_append
abbrev iZ:=@Bool.not_and
abbrev ng:=@Bool.true_and
abbrev KL:=@Nat.le_of_not_lt
abbrev EZ:=@List.nodup_cons
abbrev nd:=@List.foldl_cons
abbrev KJ:=@Bool.or_eq_false_iff
abbrev rh:=@Array.getElem?_eq_none
abbrev s5:=@List.length_take
abbrev aX:=@List.getElem?_append_left
abbrev nb:=@List.getElem?_drop
abbrev dX:=@List.getElem?_of_mem
abbrev ky:=@List.nil_append
abbrev uV:=@Bool.not_false
abbrev rg:=@List.set_set
abbrev At:=@List.map_take
abbrev nX:=@List.drop_eq_getElem_cons
abbrev uU:=@List.set_append_right
abbrev EY:=@List.getElem?_set
abbrev As:=@List.length_set
abbrev KI:=@Option.isSome_some
abbrev EX:=@Nat.le_of_eq
abbrev sZ:=@Int.mul_comm
abbrev RD:=@Array.getElem?_setIfInBounds_ne
abbrev aG:=@List.mem_of_getElem?
abbrev dF:=@Nat.lt_or_ge
abbrev yg:=@List.eq_nil_or_concat
abbrev KH:=@Array.ext_getElem?
abbrev na:=@List.getElem?_eq_none
inductive PV where
 |bool (b:Bool)
 |int (k:IntKind) (n:Int)
 |str (s:ByteArray)
 |agg (cs:List PV)
 |tuple (vs:List PV)
 |slice (sz:Nat) (xs:List PV) (full:Bool)
 |nilslice
 |ptr (sz:Nat) (xs:List PV) (i o:Nat)
 |nilptr
 |func (fn:Fn) (first cap:List PV)
 |nilfunc
 |iface (t:TypeId) (v:PV)
 |niliface
 |any
 deriving Inhabited
def PV.cells:PV->List PV
 |.agg cs=>cs
 |v=>[v]
inductive RK where
 |it|yl|mp|dk|bl
 deriving DecidableEq,Inhabited
inductive AV where
 |p (v:PV)
 |ptr (id ver i o:Nat)
 |slice (id ver off len:Nat)
 |agg (cs:List AV)
 |func (fn:Fn) (first cap:List AV)
 |tuple (vs:List AV)
 |ref (k:RK) (id:Nat)
 |undef
 deriving Inhabited
def AV.cells:AV->Option (List AV)
 |.p (.tuple _)=>none
 |.p v=>some (v.cells.map .p)
 |.agg cs=>some cs
 |.tuple _=>none
 |.undef=>none
 |v=>some [v]
def PV.isCell:PV->Bool
 |.agg _=>false
 |.tuple _=>false
 |_=>true
def AV.isCell:AV->Bool
 |.p v=>v.isCell
 |.agg _=>false
 |.tuple _=>false
 |.undef=>false
 |_=>true
def AV.plain:AV->Bool
 |.p _=>true
 |.ptr _ _ _ _=>true
 |.slice _ _ _ _=>true
 |.ref _ _=>true
 |_=>false
def gK:List AV->Option (List PV)
 |[]=>some []
 |.p v::r=>match gK r with|some l=>some (v::l)|none=>none
 |_::_=>none
def rA (cs:List AV):AV:=match gK cs with|some l=>.p (.agg l)|none=>.agg cs
def rR (cs:List AV):AV:=match gK cs with|some l=>.p (.tuple l)|none=>.tuple cs
def A8 (fn:Fn) (first cap:List AV):AV:=
 match gK first,gK cap with|some a,some b=>.p (.func fn a b)|_,_=>.func fn first cap
inductive AObj where
 |row (sz:Nat) (xs:List AV)
 |strIter (s:ByteArray) (pos:Nat)
 |mp (es:List (PV×PV))
 |memo (f:PV->PV->Bool)
 |loop (n:Nat) (tmps:Nat->AV) (ps:Array Tmp) (assign body:Code) (st:LoopState) (pend:Option Code)
 |dblock
 |bld (T e:TypeId) (x:AV)
 |dead
abbrev Heap:=List AObj
def AObj.tag:AObj->Option RK
 |.strIter _ _=>some .it
 |.mp _=>some .mp
 |.memo _=>some .mp
 |.loop _ _ _ _ _ _ _=>some .yl
 |.dblock=>some .dk
 |.bld _ _ _=>some .bl
 |_=>none
inductive ADef where
 |fn (f:FuncId) (args:List AV)
 |collected (id:Nat)
inductive Rc where
 |no|rnd|none
 |pend (v:PV)
 |got (v:PV)
structure AAct where
 n:Nat
 bs:Nat
 rc:Rc
 tmps:Nat->AV
 h:Heap
 df:List ADef
def wI (f:Nat->AV) (t:Nat) (v:AV):Nat->AV:=λs=>if s=t then v else f s
theorem FK(f)(t s)(v):wI f t v s=if s=t then v else f s:=rfl
def AAct.put (A:AAct) (dst:Option Tmp) (v:AV) (h:Heap):AAct:=
 match dst with
 |some d=>{ A with tmps:=wI A.tmps d v,h:=h }
 |none=>{ A with h:=h }
def qH:Value->Option PV
 |.bool b=>some (.bool b)
 |.int k n=>some (.int k n)
 |.string s=>some (.str s)
 |.pointer none=>some .nilptr
 |.slice none 0 0=>some .nilslice
 |.nilFunc=>some .nilfunc
 |.nilIface=>some .niliface
 |.map none=>some .any
 |.func (.func f) first cap=>if first.size=0/\cap.size=0 then some (.func (.func f) [] []) else none
 |_=>none
def mz:List Value->Option (List PV)
 |[]=>some []
 |v::r=>match qH v,mz r with|some x,some l=>some (x::l)|_,_=>none
def nV:Value->Option PV
 |.agg cs=>match mz cs.toList with|some l=>some (.agg l)|none=>none
 |.tuple cs=>match mz cs.toList with|some l=>some (.tuple l)|none=>none
 |v=>qH v
def AAct.eval (A:AAct):Operand->AV
 |.tmp t=>A.tmps t
 |.const v=>match nV v with|some x=>.p x|none=>.undef
 |.global _=>.undef
 |.func f=>.p (.func (.func f) [] [])
def oL (P:Program) (T:TypeId):Bool:=
 match (P.types[T]?).map (λ(i:TypeInfo)=>i.desc) with
 |some (TypeDesc.named n _)=>n == "strings.Builder"
 |_=>false
def bZ (P:Program) (T:TypeId):Option Bool:=
 match P.underlying T with
 |some (.struct _)=>some true
 |some (.array _ _)=>some true
 |some _=>some false
 |none=>none
def ce (P:Program) (T:TypeId):Option Nat:=(P.info? T).map (·.size)
def l8 (P:Program) (T:TypeId):Option Nat:=(P.info? T).map (·.bytes)
def au (P:Program) (T:TypeId):Option PV:=((P.info? T).bind (·.zero)).bind nV
def ai (P:Program) (T:TypeId) (f:Nat):Option (Nat×TypeId):=
 match P.underlying T with
 |some (.struct fs)=>(fs[f]?).map λx=>(x.offset,x.type)
 |_=>none
def bv (P:Program) (T:TypeId):Option TypeId:=
 match P.underlying T with
 |some (.slice e)=>some e
 |_=>none
def d7 (P:Program) (T:TypeId):Option (Nat×TypeId):=
 match P.underlying T with
 |some (.array n e)=>some (n,e)
 |_=>none
def e9 (P:Program) (T:TypeId):Bool:=
 match P.underlying T with
 |some .string=>true
 |_=>false
def gB (P:Program) (T:TypeId):Option Bool:=
 match P.underlying T with
 |some (.interface _)=>some true
 |some _=>some false
 |none=>none
def gD (P:Program) (T:TypeId) (n:Nat):Bool:=
 match (P.info? T).bind (·.zero) with
 |some v=>v.cells.size==n
 |none=>false
def Ki (P:Program) (T:TypeId):Option TypeId:=
 match P.underlying T with
 |some (.struct fs)=>(fs[1]?).bind λx=>bv P x.type
 |_=>none
def sub {α:Type} (o n:Nat) (l:List α):List α:=(l.drop o).take n
def kH {α:Type} (cs:List α) (o:Nat) (new:List α):List α:=cs.take o++new++cs.drop (o+new.length)
def AV.part (v:AV) (agg:Bool) (n o:Nat):Option AV:=
 match v.cells with
 |none=>none
 |some cs=>
  if agg then
   if cs.length=n/\o=0 then
    match v with
    |.p (.agg _)=>some v
    |.agg _=>some v
    |_=>none
   else if o+n<=cs.length then some (rA (sub o n cs)) else none
  else cs[o]?
def lB (P:Program) (T:TypeId) (v:AV) (o:Nat):Option AV:=
 match bZ P T,ce P T with
 |some a,some n=>v.part a n o
 |_,_=>none
def AV.withCells (v:AV) (o:Nat) (x:AV) (n:Nat):Option AV:=
 match v.cells,x.cells with
 |some cs,some new=>
  if new.length=n then
   if cs.length=n/\o=0 then some x
   else if o+n<=cs.length then some (rA (kH cs o new)) else none
  else none
 |_,_=>none
inductive OR where
 |val (v:AV) (h:Heap)
 |skip (h:Heap)
 |call (f:FuncId) (args:List AV)
 |yld (l:Nat) (args:List AV)
 |dfr (d:ADef)
 |recover
 |panic (v:PV)
 |stuck
def iQ (h:Heap):Option AV->OR
 |some v=>.val v h
 |none=>.stuck
def o9 (P:Program) (T:TypeId) (x:AV) (h:Heap):OR:=
 match x with
 |.p (.ptr _ xs i o)=>match xs[i]? with|some v=>iQ h (lB P T (.p v) o)|none=>.stuck
 |.ptr id ver i o=>
  match h[id]? with
  |some (.row _ xs)=>if xs.length=ver then match xs[i]? with|some v=>iQ h (lB P T v o)|none=>.stuck else .stuck
  |_=>.stuck
 |_=>.stuck
def gX (P:Program) (T:TypeId) (x y:AV) (h:Heap):OR:=
 match x,ce P T with
 |.ptr id ver i o,some n=>
  match h[id]? with
  |some (.row sz xs)=>
   if xs.length=ver then
    match xs[i]? with
    |some v=>match v.withCells o y n with|some v'=>.skip (h.set id (.row sz (xs.set i v')))|none=>.stuck
    |none=>.stuck
   else .stuck
  |_=>.stuck
 |_,_=>.stuck
def hH (h:Heap) (id ver:Nat):Option Nat:=
 match h[id]? with
 |some (.row sz xs)=>if xs.length=ver then some sz else none
 |_=>none
def mD (P:Program) (T:TypeId) (x:AV) (f:Nat) (h:Heap):OR:=
 match ai P T f with
 |none=>.stuck
 |some (off,t)=>
  match ce P t with
  |none=>.stuck
  |some n=>
   if n=0 then .stuck else
   match x with
   |.p (.ptr sz xs i o)=>.val (.p (.ptr sz xs i (o+off))) h
   |.ptr id ver i o=>match hH h id ver with|some _=>.val (.ptr id ver i (o+off)) h|none=>.stuck
   |_=>.stuck
def uJ (P:Program) (T:TypeId) (x:AV) (f:Nat) (h:Heap):OR:=
 match ai P T f with
 |none=>.stuck
 |some (off,t)=>
  match x with
  |.p (.agg _)=>iQ h (lB P t x off)
  |.agg _=>iQ h (lB P t x off)
  |_=>.stuck
def iC (P:Program) (T:TypeId) (x ix:AV) (h:Heap):OR:=
 match ix with
 |.p (.int _ i)=>
  match x with
  |.p (.slice sz xs _)=>
   match bv P T with
   |some e=>if ce P e=some sz/\0<=i/\i<xs.length then .val (.p (.ptr sz xs i.toNat 0)) h else .stuck
   |none=>.stuck
  |.slice id ver off len=>
   match bv P T,h[id]? with
   |some e,some (.row sz xs)=>
    if ce P e=some sz/\xs.length=ver/\0<=i/\i<len then .val (.ptr id ver (off+i.toNat) 0) h else .stuck
   |_,_=>.stuck
  |.p (.ptr sz xs j o)=>
   match d7 P T with
   |some (n,e)=>match ce P e with|some s=>if 0<=i/\i<n then .val (.p (.ptr sz xs j (o+i.toNat*s))) h else .stuck|none=>.stuck
   |none=>.stuck
  |.ptr id ver j o=>
   match d7 P T with
   |some (n,e)=>
    match ce P e,hH h id ver with
    |some s,some _=>if 0<=i/\i<n then .val (.ptr id ver j (o+i.toNat*s)) h else .stuck
    |_,_=>.stuck
   |none=>.stuck
  |_=>.stuck
 |_=>.stuck
def ya (P:Program) (T:TypeId) (x ix:AV) (h:Heap):OR:=
 match ix with
 |.p (.int _ i)=>
  match x with
  |.p (.str s)=>if e9 P T=true/\0<=i then match s[i.toNat]? with|some b=>.val (.p (.int .u8 b.toNat)) h|none=>.stuck else .stuck
  |.p (.agg _)|.agg _=>
   match d7 P T with
   |some (n,e)=>match ce P e with|some s=>if 0<=i/\i<n then iQ h (lB P e x (i.toNat*s)) else .stuck|none=>.stuck
   |none=>.stuck
  |_=>.stuck
 |_=>.stuck
def nq:Option AV->Option (Option Int)
 |none=>some none
 |some (.p (.int _ i))=>some (some i)
 |_=>none
def nu (l r:Option Int) (len:Nat):Option (Nat×Nat):=
 if 0<=l.getD 0/\l.getD 0<=r.getD len/\r.getD len<=len then some ((l.getD 0).toNat,(r.getD len).toNat) else none
def uI (P:Program) (T:TypeId) (x:AV) (lo hi mx:Option AV) (h:Heap):OR:=
 match nq lo,nq hi,nq mx with
 |some l,some r,some m=>
  match x with
  |.p (.slice sz xs full)=>
   match bv P T,nu l r xs.length with
   |some e,some (a,b)=>
    if ce P e=some sz then
     match m with
     |none=>.val (.p (.slice sz ((xs.take b).drop a) (full&&b==xs.length))) h
     |some m=>if r=some m then .val (.p (.slice sz ((xs.take b).drop a) true)) h else .stuck
    else .stuck
   |_,_=>.stuck
  |.slice id ver off len=>
   match bv P T,h[id]?,nu l r len,m with
   |some e,some (.row sz xs),some (a,b),none=>
    if ce P e=some sz/\xs.length=ver then .val (.slice id ver (off+a) (b-a)) h else .stuck
   |some e,some (.row sz xs),_,some m=>
    if ce P e=some sz/\xs.length=ver/\r.isSome=true/\0<=l.getD 0/\l.getD 0<=r.getD 0/\r.getD 0<=m/\off+m<=ver then .val .undef h else .stuck
   |some e,some (.row sz xs),none,none=>
    if ce P e=some sz/\xs.length=ver/\r.isSome=true/\0<=l.getD 0/\l.getD 0<=r.getD 0/\off+r.getD 0<=ver then .val (.slice id ver (off+(l.getD 0).toNat) ((r.getD 0).toNat-(l.getD 0).toNat)) h else .stuck
   |_,_,_,_=>.stuck
  |.p (.str s)=>
   match nu l r s.size,m with
   |some (a,b),none=>if e9 P T=true then .val (.p (.str (s.extract a b))) h else .stuck
   |_,_=>.stuck
  |.p .nilslice=>
   match bv P T,nu l r 0,m with
   |some e,some _,none=>if(ce P e).isSome=true then .val (.p .nilslice) h else .stuck
   |_,_,_=>.stuck
  |_=>.stuck
 |_,_,_=>.stuck
inductive CK where
 |bool|int|str
 deriving DecidableEq
def ph:CK->PV->PV->Option Bool
 |.bool,.bool a,.bool b=>some (a==b)
 |.int,.int j a,.int k b=>if j=k then some (a==b) else none
 |.str,.str a,.str b=>some (a==b)
 |_,_,_=>none
def eK:List CK->List PV->List PV->Option Bool
 |[],[],[]=>some true
 |k::ks,x::a,y::b=>match ph k x y,eK ks a b with|some s,some t=>some (s&&t)|_,_=>none
 |_,_,_=>none
def xp (P:Program) (rec:TypeId->Option (List CK)):List Field->Nat->Option (List CK)
 |[],_=>some []
 |f::fs,n=>
  if f.name ≠ "_" /\ f.offset=n then
   match rec f.type with
   |some ks=>if ce P f.type=some ks.length/\(bZ P f.type).isSome=true then match xp P rec fs (n+ks.length) with|some r=>some (ks++r)|none=>none else none
   |none=>none
  else none
def mO (P:Program):Nat->TypeId->Option (List CK)
 |0,_=>none
 |d+1,T=>
  match P.underlying T with
  |some .bool=>some [.bool]
  |some (.int _)=>some [.int]
  |some .string=>some [.str]
  |some (.struct fs)=>if P.stoodInHeld T then none else xp P (mO P d) fs.toList 0
  |_=>none
def d6 (P:Program) (T:TypeId):Option (List CK):=
 if P.eqGuardType P.depth T=false/\bZ P T=some true then mO P 20 T else none
inductive TK where
 |bool|iface|slice|ptr|func|other
 deriving DecidableEq
def bX (P:Program) (T:TypeId):TK:=
 match P.underlying T with
 |some .bool=>.bool
 |some (.interface _)=>.iface
 |some (.slice _)=>.slice
 |some (.func _ _ _)=>.func
 |some (.pointer e)=>if ce P e=none\/ce P e=some 0 then .other else .ptr
 |_=>.other
def HO (P:Program) (T:TypeId) (cst:Bool) (x y:AV):Option Bool:=
 match x,y with
 |.p (.bool a),.p (.bool b)=>if bX P T=.bool then some (a==b) else none
 |.p (.agg a),.p (.agg b)=>match d6 P T with|some ks=>eK ks a b|none=>none
 |.p .niliface,.p .niliface=>if cst=true/\bX P T=.iface then some true else none
 |.p .niliface,.p (.iface _ _)=>if bX P T=.iface then some false else none
 |.p (.iface _ _),.p .niliface=>if bX P T=.iface then some false else none
 |.p .nilslice,.p .nilslice=>if bX P T=.slice then some true else none
 |.p .nilslice,.p (.slice _ xs _)=>if bX P T=.slice/\xs≠[] then some false else none
 |.p (.slice _ xs _),.p .nilslice=>if bX P T=.slice/\xs≠[] then some false else none
 |.p .nilptr,.p .nilptr=>if bX P T=.ptr then some true else none
 |.p .nilptr,.p (.ptr _ _ _ _)=>if bX P T=.ptr then some false else none
 |.p (.ptr _ _ _ _),.p .nilptr=>if bX P T=.ptr then some false else none
 |.p .nilfunc,.p .nilfunc=>if bX P T=.func then some true else none
 |.p (.func _ _ _),.p .nilfunc=>if bX P T=.func then some false else none
 |.func _ _ _,.p .nilfunc=>if bX P T=.func then some false else none
 |_,_=>none
def bG:Nat:=1099511627776
def AE (op:BinOp) (a b:ByteArray):Option PV:=
 match op with
 |.eql=>some (.bool (a==b))
 |.neq=>some (.bool !(a==b))
 |.add=>if a.size+b.size<=bG then some (.str (a++b)) else none
 |.lss=>some (.bool (Op.bytesLess a.toList b.toList))
 |_=>none
def uq (op:BinOp) (k:IntKind) (a b:Int):Option PV:=
 match op with
 |.add=>some (.int k (k.wrap (a+b)))
 |.sub=>some (.int k (k.wrap (a-b)))
 |.mul=>some (.int k (k.wrap (a*b)))
 |.quo=>if b=0 then none else some (.int k (k.wrap (a.tdiv b)))
 |.rem=>if b=0 then none else some (.int k (a.tmod b))
 |.eql=>some (.bool (a==b))
 |.neq=>some (.bool (a != b))
 |.lss=>some (.bool (a<b))
 |.leq=>some (.bool (a<=b))
 |.gtr=>some (.bool (b<a))
 |.geq=>some (.bool (b<=a))
 |.and=>some (.int k (k.wrap (BitVec.ofInt k.bits a&&& BitVec.ofInt k.bits b).toNat))
 |.or=>some (.int k (k.wrap (BitVec.ofInt k.bits a||| BitVec.ofInt k.bits b).toNat))
 |.andNot=>some (.int k (k.wrap (BitVec.ofInt k.bits a&&& ~~~BitVec.ofInt k.bits b).toNat))
 |_=>none
def fB (op:BinOp) (k:IntKind) (a b:Int):Option PV:=
 if b<0 then none else
 match op with
 |.shl=>some (.int k (k.wrap (a*2^(min b.toNat k.bits))))
 |.shr=>some (.int k (a.fdiv (2^(min b.toNat k.bits))))
 |_=>none
def yx:BinOp->Bool
 |.shl=>true
 |.shr=>true
 |_=>false
def tS (h:Heap):Option PV->OR
 |some v=>.val (.p v) h
 |none=>.stuck
def C6 (P:Program) (op:BinOp) (T:TypeId) (cst:Bool) (x y:AV) (h:Heap):OR:=
 match x,y with
 |.p (.int k a),.p (.int k' b)=>if yx op=true then tS h (fB op k a b) else if k=k' then tS h (uq op k a b) else .stuck
 |.p (.str a),.p (.str b)=>tS h (AE op a b)
 |x,y=>
  match op with
  |.eql=>tS h ((HO P T cst x y).map .bool)
  |.neq=>tS h ((HO P T cst x y).map λt=>.bool !t)
  |_=>.stuck
def Km (op:UnOp) (x:AV) (h:Heap):OR:=
 match op,x with
 |.not,.p (.bool b)=>.val (.p (.bool !b)) h
 |.neg,.p (.int k a)=>.val (.p (.int k (k.wrap (-a)))) h
 |_,_=>.stuck
def dT (P:Program) (src dst:TypeId):Option IntKind:=
 match P.underlying src,P.underlying dst with
 |some _,some (.int k)=>some k
 |_,_=>none
def uo:List PV->Option (List Int)
 |[]=>some []
 |.int .u8 n::r=>(uo r).map (n::·)
 |_::_=>none
def z6 (P:Program) (T:TypeId):Bool:=
 match bv P T with
 |some e=>(match P.underlying e with|some (.int .u8)=>true|_=>false)
 |none=>false
def pR (P:Program) (src dst:TypeId) (x:AV) (h:Heap):OR:=
 match x with
 |.p (.int _ n)=>match dT P src dst with|some k=>.val (.p (.int k (k.wrap n))) h|none=>.stuck
 |.p (.str s)=>if e9 P src=true/\e9 P dst=true then .val (.p (.str s)) h else .stuck
 |.p (.slice 1 (x::xs) _)=>if z6 P src=true/\e9 P dst=true then(match uo (x::xs) with|some ns=>.val (.p (.str ⟨(ns.map λn=>UInt8.ofNat n.toNat).toArray⟩)) h|none=>.stuck) else .stuck
 |_=>.stuck
def wl (place:Nat->Option (Nat×Nat)):List (Nat×AV)->List AV->Option (List AV)
 |[],cs=>some cs
 |(i,v)::r,cs=>
  match place i,v.cells with
  |some (off,n),some new=>if new.length=n/\off+n<=cs.length then wl place r (kH cs off new) else none
  |_,_=>none
def aE (P:Program) (T:TypeId):Option (List (Nat×Nat)):=
 match P.underlying T with
 |some (.struct fs)=>fs.toList.mapM λf=>(P.info? f.type).map λi=>(f.offset,i.size)
 |_=>none
def uK (P:Program) (T:TypeId) (ps:List (Nat×AV)) (h:Heap):OR:=
 match au P T with
 |some (.agg z)=>
  match aE P T with
  |some pl=>match wl (λi=>pl[i]?) ps (z.map .p) with|some cs=>.val (rA cs) h|none=>.stuck
  |none=>
   match d7 P T with
   |some (_,e)=>
    match ce P e with
    |some s=>match wl (λi=>some (i*s,s)) ps (z.map .p) with|some cs=>.val (rA cs) h|none=>.stuck
    |none=>.stuck
   |none=>.stuck
 |_=>.stuck
def sQ:Nat->Nat->List (Nat×AV)->Option (List AV)
 |_,_,[]=>some []
 |i,sz,(j,v)::r=>if i=j/\v.cells.map (·.length)=some sz then match sQ (i+1) sz r with|some l=>some (v::l)|none=>none else none
def ll (P:Program) (T:TypeId) (mu:Bool) (n:Nat) (ps:List (Nat×AV)) (h:Heap):OR:=
 match bv P T with
 |some e=>
  match ce P e with
  |some sz=>
   match sQ 0 sz ps with
   |some xs=>
    if xs.length=n/\sz≠0/\n*sz<=16777216/\gD P e sz=true then
     match mu,gK xs with
     |false,some l=>.val (.p (.slice sz l true)) h
     |_,_=>.val (.slice h.length n 0 n) (h++[.row sz xs])
    else .stuck
   |none=>.stuck
  |none=>.stuck
 |none=>.stuck
def pQ (x:AV) (i:Nat) (h:Heap):OR:=
 match x with
 |.p (.tuple vs)=>match vs[i]? with|some v=>.val (.p v) h|none=>.stuck
 |.tuple vs=>match vs[i]? with|some v=>.val v h|none=>.stuck
 |_=>.stuck
def An (P:Program) (T:TypeId) (x:AV) (h:Heap):OR:=
 match x with
 |.p (.str s)=>if e9 P T=true then .val (.p (.int .i64 s.size)) h else .stuck
 |.p (.slice _ xs _)=>if(bv P T).isSome=true then .val (.p (.int .i64 xs.length)) h else .stuck
 |.p .nilslice=>if(bv P T).isSome=true then .val (.p (.int .i64 0)) h else .stuck
 |.slice id ver _ len=>if(bv P T).isSome=true/\(hH h id ver).isSome=true then .val (.p (.int .i64 len)) h else .stuck
 |.p (.agg _)=>match d7 P T with|some (n,_)=>.val (.p (.int .i64 n)) h|none=>.stuck
 |_=>.stuck
def kO (h:Heap) (sz:Nat):AV->Option (List AV)
 |.p .nilslice=>some []
 |.p (.slice sz' xs _)=>if sz'=sz then some (xs.map .p) else none
 |.p (.str s)=>if sz=1 then some (s.data.toList.map λb=>.p (.int .u8 b.toNat)) else none
 |.slice id ver off len=>
  match h[id]? with
  |some (.row sz' xs)=>if sz'=sz/\xs.length=ver/\off+len<=xs.length then some (sub off len xs) else none
  |_=>none
 |_=>none
def aw:Nat:=274877906944
def uL (P:Program) (T U:TypeId) (x y:AV) (h:Heap):OR:=
 match bv P T with
 |some e=>
  if(bv P U).isSome=false/\e9 P U=false then .stuck else
  match ce P e,l8 P e with
  |some sz,some bytes=>
   match kO h sz y with
   |some ys=>
    if sz≠0/\bytes<=256/\gD P e sz=true then
     match x with
     |.p .nilslice=>if ys.length<=aw then if ys=[] then .val (.p .nilslice) h else .val (.slice h.length ys.length 0 ys.length) (h++[.row sz ys]) else .stuck
     |.p (.slice sz' xs true)=>
      if sz'=sz/\xs.length+ys.length<=aw then
       if ys=[] then .val x h else .val (.slice h.length (xs.length+ys.length) 0 (xs.length+ys.length)) (h++[.row sz (xs.map .p++ys)])
      else .stuck
     |.slice id ver off len=>
      match h[id]? with
      |some (.row sz' xs)=>
       if sz'=sz/\xs.length=ver/\off=0/\len=ver/\xs.length+ys.length<=aw then
        .val (.slice id (xs.length+ys.length) 0 (xs.length+ys.length)) (h.set id (.row sz (xs++ys)))
       else if sz'=sz/\xs.length=ver/\off=0/\len+ys.length<=ver then
        .val (.slice id ver 0 (len+ys.length)) (h.set id (.row sz (xs.take len++ys++xs.drop (len+ys.length))))
       else .stuck
      |_=>.stuck
     |_=>.stuck
    else .stuck
   |none=>.stuck
  |_,_=>.stuck
 |none=>.stuck
def rN (P:Program) (T:TypeId) (l c:AV) (h:Heap):OR:=
 match bv P T,l,c with
 |some e,.p (.int .i64 l),.p (.int .i64 c)=>
  match ce P e,l8 P e,au P e with
  |some sz,some bytes,some z=>
   if sz≠0/\bytes<=256/\z.cells.length=sz/\(AV.p z).cells.isSome=true/\0<=l/\l<=c/\c<=aw then .val (.slice h.length l.toNat 0 l.toNat) (h++[.row sz (List.replicate l.toNat (.p z))]) else .stuck
  |_,_,_=>.stuck
 |_,_,_=>.stuck
def BV (P:Program) (T:TypeId) (x:AV) (h:Heap):OR:=
 match bv P T,x with
 |some e,.slice id ver off len=>
  match h[id]?,ce P e,au P e with
  |some (.row sz xs),some sz',some z=>
   if sz'=sz/\xs.length=ver/\off+len<=ver/\z.cells.length=sz/\sz≠0/\(AV.p z).cells.isSome=true then
    .val (.p (.tuple [])) (h.set id (.row sz (xs.take off++List.replicate len (.p z)++xs.drop (off+len))))
   else .stuck
  |_,_,_=>.stuck
 |_,_=>.stuck
def yP (h:Heap) (sz len:Nat) (y:AV):Option (List AV):=
 match y with
 |.slice id ver off n=>
  match h[id]? with
  |some (.row sz' ys)=>if sz'=sz/\ys.length=ver/\off+n<=ver then some (sub off (Nat.min n len) ys) else none
  |_=>none
 |.p (.slice sz' xs full)=>match kO h sz (.p (.slice sz' xs full)) with|some ys=>if ys.length<=len then some ys else none|none=>none
 |_=>none
def Fo (P:Program) (T:TypeId) (x y:AV) (h:Heap):OR:=
 match bv P T,x with
 |some e,.slice id ver off len=>
  match h[id]?,ce P e with
  |some (.row sz xs),some sz'=>
   if sz'=sz/\xs.length=ver/\off+len<=ver then
    match yP h sz len y with
    |some ys=>.val (.p (.int .i64 (ys.length:Int))) (h.set id (.row sz (xs.take off++ys++xs.drop (off+ys.length))))
    |none=>.stuck
   else .stuck
  |_,_=>.stuck
 |_,_=>.stuck
def sR (P:Program) (b:Builtin) (ts:Array TypeId) (args:List AV) (h:Heap):OR:=
 match b,args with
 |.len,[x]=>if ts.size=1 then An P (ts.getD 0 0) x h else .stuck
 |.append,[x,y]=>if ts.size=2 then uL P (ts.getD 0 0) (ts.getD 1 0) x y h else .stuck
 |.min,[.p (.int j a),.p (.int _ b)]=>.val (.p (.int j (if b<a then b else a))) h
 |.max,[.p (.int j a),.p (.int _ b)]=>.val (.p (.int j (if a<b then b else a))) h
 |.recover,[]=>.recover
 |.clear,[x]=>if ts.size=1 then BV P (ts.getD 0 0) x h else .stuck
 |.copy,[x,y]=>if ts.size=2 then Fo P (ts.getD 0 0) x y h else .stuck
 |_,_=>.stuck
def ga (f:AV) (args:List AV):OR:=
 match f with
 |.p (.func (.func g) first cap)=>.call g (first.map .p++args++cap.map .p)
 |.func (.func g) first cap=>.call g (first++args++cap)
 |.ref .yl l=>.yld l args
 |_=>.stuck
def yb (f:AV) (args:List AV):OR:=
 match ga f args with
 |.call g l=>.dfr (.fn g l)
 |_=>.stuck
def lE:Operand->Bool
 |.const _=>true
 |_=>false
def lj (P:Program) (A:TypeId) (ok:Bool) (x:AV) (h:Heap):OR:=
 match gB P A,x with
 |some false,.p (.iface t v)=>if t=A then .val (.p (if ok then .tuple [v,.bool true] else v)) h else if ok=true then(match au P A with|some z=>.val (.p (.tuple [z,.bool false])) h|none=>.stuck) else .stuck
 |_,_=>.stuck
def BU (P:Program) (T:TypeId) (x:AV) (h:Heap):OR:=
 match x with
 |.p (.str s)=>if e9 P T=true then .val (.ref .it h.length) (h++[.strIter s 0]) else .stuck
 |_=>.stuck
def Fm (isStr:Bool) (x:AV) (h:Heap):OR:=
 match isStr,x with
 |true,.ref .it id=>
  match h[id]? with
  |some (.strIter s pos)=>
   if pos<s.size then .val (.p (.tuple [.bool true,.int .i64 pos,.int .i32 (Utf8.decode s pos).1])) (h.set id (.strIter s (pos+(Utf8.decode s pos).2)))
   else .val (.p (.tuple [.bool false])) h
  |_=>.stuck
 |_,_=>.stuck
def Ha:PV->CK
 |.int _ _=>.int
 |.str _=>.str
 |_=>.bool
def j0:PV->PV->Option Bool
 |.int j a,.int k b=>if j=k then some (a==b) else none
 |.str a,.str b=>some (a==b)
 |.agg a,.agg b=>eK (a.map Ha) a b
 |_,_=>none
def BF (P:Program) (T:TypeId):Option CK:=match P.underlying T with|some .bool=>some .bool|some (.int _)=>some .int|some .string=>some .str|_=>none
def w9 (P:Program):List Field->Nat->Option (List CK)
 |[],_=>some []
 |f::fs,n=>if f.name ≠ "_" /\ f.offset=n then(match BF P f.type,w9 P fs (n+1) with|some k,some r=>some (k::r)|_,_=>none) else none
def zS (P:Program) (T:TypeId):Option (TypeId×TypeId):=match P.underlying T with|some (.map k e)=>some (k,e)|_=>none
inductive KK where
 |int|str|no|agg (ks:List CK)
def pD (P:Program) (K:TypeId):KK:=match P.underlying K with
 |some (.int _)=>.int
 |some .string=>.str
 |some (.struct fs)=>if P.stoodInHeld K then .no else match w9 P fs.toList 0 with|some ks=>.agg ks|none=>.no
 |_=>.no
def vP (P:Program) (K:TypeId) (k:PV):Bool:=match pD P K,k with|.int,.int _ _=>true|.str,.str _=>true|.agg ks,.agg a=>(eK ks a a).isSome|_,_=>false
def lS (k:PV):List (PV×PV)->Option (Option PV)
 |[]=>some none
 |(q,v)::r=>match j0 k q with|some true=>some (some v)|some false=>lS k r|none=>none
def oC (k v:PV):List (PV×PV)->Option (List (PV×PV))
 |[]=>some [(k,v)]
 |(q,u)::r=>match j0 k q with|some true=>some ((k,v)::r)|some false=>(oC k v r).map ((q,u)::·)|none=>none
def HN (_:Program) (_:TypeId) (r:Option AV) (h:Heap):OR:=
 match r with
 |none=>.val (.ref .mp h.length) (h++[.mp []])
 |some _=>.stuck
def Cx (ok:Bool) (v:PV) (b:Bool) (h:Heap):OR:=.val (.p (if ok then .tuple [v,.bool b] else v)) h
def rX (P:Program) (T:TypeId) (x k:AV) (ok:Bool) (h:Heap):OR:=
 match zS P T,x,k with
 |some (K,E),.ref .mp id,.p k=>
  match h[id]?,au P E with
  |some (.mp es),some z=>
   if vP P K k=true then
    match lS k es with
    |some (some v)=>Cx ok v true h
    |some none=>Cx ok z false h
    |none=>.stuck
   else .stuck
  |_,_=>.stuck
 |_,_,_=>.stuck
def rM (P:Program) (T:TypeId) (x k v:AV) (h:Heap):OR:=
 match zS P T,x,k,v with
 |some (K,_),.ref .mp id,.p k,.p v=>
  match h[id]? with
  |some (.mp es)=>if vP P K k=true then(match oC k v es with|some es'=>.skip (h.set id (.mp es'))|none=>.stuck) else .stuck
  |some (.memo f)=>if vP P K k=true/\f k v=true then .skip h else .stuck
  |_=>.stuck
 |_,_,_,_=>.stuck
def b8 (P:Program) (mu:Nat->Bool) (o:Oper) (e:Operand->AV) (h:Heap):OR:=
 match o.op with
 |.move x=>.val (e x) h
 |.assign x=>.val (e x) h
 |.pick c a b=>match e c with|.p (.bool t)=>.val (if t then e a else e b) h|_=>.stuck
 |.alloc T=>if oL P T=true then(match au P T,Ki P T with|some (.agg [.nilptr,.nilslice]),some e=>.val (.ref .bl h.length) (h++[.bld T e (.p .nilslice)])|_,_=>.stuck) else match au P T with|some z=>if(AV.p z).cells.isSome=true then .val (.ptr h.length 1 0 0) (h++[.row z.cells.length [.p z]]) else .stuck|none=>.stuck
 |.box _ x=>match (e x).cells with|some cs=>.val (.ptr h.length 1 0 0) (h++[.row cs.length [e x]])|none=>.stuck
 |.build T ps=>uK P T (ps.toList.map λq=>(q.1,e q.2)) h
 |.buildSlice T n ps=>ll P T (match o.dst with|some d=>mu d|none=>false) n (ps.toList.map λq=>(q.1,e q.2)) h
 |.load T a=>o9 P T (e a) h
 |.store T a x=>gX P T (e a) (e x) h
 |.nilCheck x=>match e x with|.p (.ptr sz xs i o)=>.val (.p (.ptr sz xs i o)) h|.ptr id ver i o=>(match hH h id ver with|some _=>.val (.ptr id ver i o) h|none=>.stuck)|_=>.stuck
 |.binOp op T x y _=>C6 P op T (lE x||lE y) (e x) (e y) h
 |.unOp op _ x=>Km op (e x) h
 |.convert src dst x=>pR P src dst (e x) h
 |.makeInterface T x=>if gB P T=some false then match e x with|.p v=>.val (.p (.iface T v)) h|_=>.stuck else .stuck
 |.makeFunc fn first cap=>if(first.toList.map e).all AV.plain=true/\(cap.toList.map e).all AV.plain=true then .val (A8 fn (first.toList.map e) (cap.toList.map e)) h else .stuck
 |.makeSlice T l c=>rN P T (e l) (e c) h
 |.slice T x lo hi mx=>uI P T (e x) (lo.map e) (hi.map e) (mx.map e) h
 |.fieldAddr T x f=>mD P T (e x) f h
 |.field T x f=>uJ P T (e x) f h
 |.indexAddr T x i=>iC P T (e x) (e i) h
 |.index T x i=>ya P T (e x) (e i) h
 |.extract t i=>pQ (e t) i h
 |.call c=>
  match c.callee with
  |.value f=>ga (e f) (c.args.toList.map e)
  |.builtin b=>sR P b c.argTypes (c.args.toList.map e) h
  |.invoke _ _=>.stuck
 |.defer c=>
  match c.callee with
  |.value f=>yb (e f) (c.args.toList.map e)
  |_=>.stuck
 |.panic x=>match e x with|.p (.iface t v)=>.panic (.iface t v)|_=>.stuck
 |.typeAssert x _ A ok=>lj P A ok (e x) h
 |.range T x=>BU P T (e x) h
 |.next i isStr=>Fm isStr (e i) h
 |.makeMap T r=>HN P T (r.map e) h
 |.lookup T x k ok=>rX P T (e x) (e k) ok h
 |.mapUpdate T m k v=>rM P T (e m) (e k) (e v) h
 |_=>.stuck
inductive AEnd where
 |ret (v:AV)
 |panic (v:PV)
inductive Ex where
 |normal
 |exit (id:Nat)
 |ret
 |panic (v:PV)
def rU (A:AAct) (d:Option Tmp) (want:Bool):Option Bool:=
 match d with
 |none=>some false
 |some d=>match A.tmps d with|.p (.bool b)=>some (b==want)|.p (.tuple _)=>some false|_=>none
def bA (ops:Array Oper) (A:AAct) (o:Oper):Option Bool:=
 match o.guard with
 |none=>some true
 |some (j,want)=>rU A ((ops[j]?).bind (·.dst)) want
def H' (b:Bool) (X Y:Unit->Prop):Prop:=(b=true->X ())/\(b=false->Y ())
end Abs
end Go.Proofs.YtoapoaoelpcniaaGreatDoor
