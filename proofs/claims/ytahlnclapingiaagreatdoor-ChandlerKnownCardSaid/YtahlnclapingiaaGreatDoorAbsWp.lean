/-
  DEFINITIONS: what stands for an activation; what is known of calls; what a code comes to f
-/
import Derived.Test.YtahlnclapingiaaGreatDoorAbsOpsF
import Derived.AtR
import Derived.Recover
set_option linter.unusedSimpArgs false
set_option linter.unusedVariables false
namespace Go.Proofs.YtahlnclapingiaaGreatDoor
namespace Abs
def zAl (M0:Nat→Prop) (S:Mem):Ending→AEnd→Prop
 |.returned v',.ret v=>Rep M0 S v' v
 |.panicked ch,.panic v=>∃ v',ch=[{ v:=v',recovered:=false }]∧RepP (Avoid M0 S.m) S.w v' v
 |_,_=>False
def zkb (P:Program) (M0:Nat→Prop) (S:Mem) (R:AEnd→Heap→Prop) (e:Ending) (w':World):Prop :=
 ∃ (r:AEnd) (h':Heap) (m':List (Option Nat)),R r h'∧Ev S.h.length S ⟨m',h',w'⟩∧HOk P M0 ⟨m',h',w'⟩∧zAl M0 ⟨m',h',w'⟩ e r
def zap (P:Program) (f:FuncId) (args:List AV) (h:Heap) (R:AEnd→Heap→Prop):Prop :=
 ∀ (M0:Nat→Prop) (m:List (Option Nat)) (w:World) (cargs:Array Value),HOk P M0 ⟨m,h,w⟩→zbW (Rep M0 ⟨m,h,w⟩) cargs args →
  (∀ w',(callFunc f cargs).run P w'=.ok (.enter f cargs) w')∧Calls P f cargs w (zkb P M0 ⟨m,h,w⟩ R)
def zkM (P:Program) (l:Nat) (args:List AV) (h:Heap) (R:AEnd→Heap→Prop):Prop :=
 (∃ o,h[l]?=some o∧o.tag=some .yl) ∧
 ∀ (M0:Nat→Prop) (m:List (Option Nat)) (w:World) (cargs:Array Value) (b:Nat),HOk P M0 ⟨m,h,w⟩→zbW (Rep M0 ⟨m,h,w⟩) cargs args→m.getD l none=some b →
  ∃ (f:FuncId) (tmps:Array Value) (assign body:Code),(Instr.yield b cargs).run P w=.ok (.round b f tmps assign body) w ∧
   ∀ (c:Frame) (cs:List Frame),∃ e w',zkb P M0 ⟨m,h,w⟩ R e w' ∧
    match e with
    |.returned v=>Steps P (lone (Frame.round b f tmps assign body .normal) (c::cs) w) (lone (c.finish v) cs w')
    |.panicked ch=>Steps P (lone (Frame.round b f tmps assign body .normal) (c::cs) w) (lone (c.raise ch) cs w')
    |.outgrown=>False
inductive AMode where
 |ret
 |pan (v:PV)
 |recd (v:PV)
def znR:AMode→AMode
 |.recd _=>.ret
 |u=>u
def zey (M0:Nat→Prop) (S:Mem) (um:FrameMode):AMode→Prop
 |.ret=>um=.returning
 |.pan v=>∃ v',um=.panicking [{ v:=v',recovered:=false }]∧RepP (Avoid M0 S.m) S.w v' v
 |.recd _=>∃ v',um=.panicking [{ v:=v',recovered:=true }]
def zfA (P:Program) (f:FuncId) (args:List AV) (u:AMode) (h:Heap) (R:AEnd→AMode→Heap→Prop):Prop :=
 ∀ (M0:Nat→Prop) (m:List (Option Nat)) (w:World) (cargs:Array Value) (um:FrameMode),HOk P M0 ⟨m,h,w⟩→zbW (Rep M0 ⟨m,h,w⟩) cargs args→zey M0 ⟨m,h,w⟩ um u →
  (∀ w',(callFunc f cargs).run P w'=.ok (.enter f cargs) w') ∧
  CallsD P f cargs um w fun e um' w'=>∃ (r:AEnd) (u':AMode) (h':Heap) (m':List (Option Nat)),R r u' h'∧Ev h.length ⟨m,h,w⟩ ⟨m',h',w'⟩∧HOk P M0 ⟨m',h',w'⟩ ∧
   zAl M0 ⟨m',h',w'⟩ e r∧zey M0 ⟨m',h',w'⟩ um' u'
def zuQ (P:Program) (M0:Nat→Prop) (S:Mem) (d:Deferred):ADef→Prop
 |.fn g args=>∃ (fv:Fn) (cap dargs cargs:Array Value),d={ target:=.fn fv cap,args:=dargs } ∧
   (∀ w,(invoke (.fn fv cap) dargs).run P w=(callFunc g cargs).run P w)∧zbW (Rep M0 S) cargs args
 |.collected id=>∃ b,d={ target:=.collected b,args:=#[] }∧(S.h[id]?=some .dead∨(S.h[id]?=some .dblock∧S.m.getD id none=some b))
def DefsRep (P:Program) (M0:Nat→Prop) (S:Mem):List Deferred→List ADef→Prop
 |[],[]=>True
 |d::ds,x::xs=>zuQ P M0 S d x∧DefsRep P M0 S ds xs
 |_,_=>False
def RcRep (M0:Nat→Prop) (S:Mem) (b:Frame) (cs0:List Frame):Rc→Prop
 |.no=>b.roundOf=none
 |.rnd=>b.roundOf.isSome=true∧b.kind=.normal
 |.none=>b.roundOf=none∧b.kind=.deferred∧recoverD cs0=none
 |.pend v=>b.roundOf=none∧b.kind=.deferred∧∃ v' cs1,recoverD cs0=some (v',cs1)∧RepP (Avoid M0 S.m) S.w v' v
 |.got _=>b.roundOf=none∧b.kind=.deferred∧∃ v' cs1,recoverD cs0=some (v',cs1)
def za2:Rc→List Frame→List Frame
 |.got _,cs=>match recoverD cs with | some (_,c)=>c | none=>cs
 |_,cs=>cs
structure Rel (P:Program) (M0:Nat→Prop) (S0:Mem) (b:Frame) (cs0:List Frame) (m:List (Option Nat)) (A:AAct) (a:Act) (w:World):Prop where
 size:a.tmps.size=A.n
 tmps:∀ t,Rep M0 ⟨m,A.h,w⟩ (a.tmps.getD t undef) (A.tmps t)
 hok:HOk P M0 ⟨m,A.h,w⟩
 ev:Ev A.bs S0 ⟨m,A.h,w⟩
 le:A.bs≤A.h.length∧∃ f,P.funcs[b.fn]?=some f
 df:DefsRep P M0 ⟨m,A.h,w⟩ a.defers A.df
 rc:RcRep M0 ⟨m,A.h,w⟩ b cs0 A.rc
def zdL (P:Program) (A B:AAct):Prop :=
 B.n=A.n∧B.rc=A.rc∧∀ M0 S0 b cs0 m a w,Rel P M0 S0 b cs0 m A a w→∃ m',Rel P M0 S0 b cs0 m' B a w
def zqH (K:AV→Heap→Prop) (Q:PV→Heap→Prop):AEnd→Heap→Prop
 |.ret v,h=>K v h
 |.panic v,h=>Q v h
def zl3 (K:Prop):Rc→Prop
 |.rnd=>False
 |_=>K
def zAK (A:AAct) (K:AAct→PV→Prop):Rc→Prop
 |.none=>K A .niliface
 |.pend v=>K { A with rc:=.got v } v
 |.got _=>K A .niliface
 |_=>False
def orK (P:Program) (A:AAct) (dst:Option Tmp) (K:AAct→Prop) (Q:Ex→AAct→Prop):OR→Prop
 |.val v h=>K (A.put dst v h)
 |.skip h=>K (A.put dst (.p (.tuple [])) h)
 |.call f args=>zap P f args A.h (zqH (fun v h=>K (A.put dst v h)) (fun v h=>Q (.panic v) { A with h:=h }))
 |.yld l args=>zkM P l args A.h (zqH (fun v h=>K (A.put dst v h)) (fun v h=>Q (.panic v) { A with h:=h }))
 |.dfr d=>zl3 (K ({ A with df:=d::A.df }.put dst (.p (.tuple [])) A.h)) A.rc
 |.recover=>zAK A (fun B v=>K (B.put dst (.p v) A.h)) A.rc
 |.panic v=>Q (.panic v) A
 |.stuck=>False
def zke (X Y:Unit→Prop):Option Bool→Prop
 |some b=>zuR b X Y
 |none=>False
def zsy (X Y:Unit→Prop):AV→Prop
 |.p (.bool b)=>zuR b X Y
 |_=>False
def zcR (K:AAct→Prop) (Q:Ex→AAct→Prop):Ex→AAct→Prop
 |.normal,A=>K A
 |.exit j,A=>Q (.exit j) A
 |.ret,A=>Q .ret A
 |.panic v,A=>Q (.panic v) A
def zgU (id:Nat) (Q:Ex→AAct→Prop):Ex→AAct→Prop
 |.exit j,A=>if j=id then Q .normal A else Q (.exit j) A
 |.normal,A=>Q .normal A
 |.ret,A=>Q .ret A
 |.panic v,A=>Q (.panic v) A
inductive Hint where
 |std | mut | low | bar
  |slot (j sz:Nat)
  |sto
  |nop
  |app (t:Nat)
  |thr
  |cal
 deriving DecidableEq
def Hint.isMut:Hint→Bool
 |.mut=>true
 |_=>false
abbrev Hints:=Nat→Hint
def zaz (H:Hints):Nat→Bool:=fun d=>(H d).isMut
def zer (P:Program) (H:Hints) (ops:Array Oper) (Q:Ex→AAct→Prop):List Oper→AAct→Prop
 |[],A=>Q .normal A
 |o::rest,A =>
   zke (fun _=>orK P A o.dst (zer P H ops Q rest) Q (aOp P (zaz H) o A.eval A.h))
    (fun _=>zer P H ops Q rest (A.put o.dst (.p (.tuple [])) A.h)) (zaP ops A o)
def AObj.isDead:AObj→Bool
 |.dead=>true
 |_=>false
def zbn (h h':Heap):Prop:=∀ (id:Nat) (o:AObj),h[id]?=some o→o.isDead=false→h'[id]?=some o
inductive DC where
 |bar | alloc | quiet | low
 |slot (j sz:Nat)
 |sto
 |nop
 |app (t:Nat)
 |thr
 |cal
 deriving DecidableEq
def ziM:Op→Bool
 |.alloc _=>true
 |.box _ _=>true
 |.makeSlice _ _ _=>true
 |.makeMap _ none=>true
 |_=>false
def zoH:Op→Bool
 |.alloc _=>true
 |.box _ _=>true
 |_=>false
def zcx:Op→Bool
 |.move _ | .assign _ | .pick _ _ _ | .build _ _ | .buildSlice _ _ _ | .load _ _ | .nilCheck _ | .binOp _ _ _ _ _ | .unOp _ _ _ | .convert _ _ _ | .makeInterface _ _ | .makeFunc _ _ _
 |.slice _ _ _ _ _ | .fieldAddr _ _ _ | .field _ _ _ | .indexAddr _ _ _ | .index _ _ _ | .extract _ _ | .lookup _ _ _ _ | .typeAssert _ _ _ _=>true
 |.call c =>
  match c.callee with
  |.value _=>true
  |.builtin .len=>true
  |.builtin .min=>true
  |.builtin .max=>true
  |_=>false
 |_=>false
def zpD:Op→Bool
 |.call c=>match c.callee with | .builtin .append=>true | .builtin .copy=>true | _=>false
 |_=>false
def zCn:Operand→Nat
 |.tmp x=>x
 |_=>999
def zlu (H:Hints):Op→DC
 |.store _ (.tmp t) y=>match H (1000000+1000*t+zCn y) with | .sto=>.sto | .nop=>.nop | _=>.bar
 |_=>.bar
def za1 (H:Hints) (o:Oper):DC :=
 match o.dst with
 |none=>zlu H o.op
 |some d =>
  match H d with
  |.std=>if ziM o.op=true then .alloc else if zcx o.op=true then .quiet else .bar
  |.mut=>.alloc
  |.low=>if zcx o.op=true then .low else .bar
  |.slot j sz=>if zoH o.op=true then .slot j sz else .bar
  |.app t=>if zpD o.op=true then .app t else .bar
  |.thr=>if zcx o.op=true then .thr else .bar
  |.cal=>if zcx o.op=true then .cal else .bar
  |_=>.bar
def quK (P:Program) (h:Heap) (K:AV→Prop):OR→Prop
 |.val v h'=>h'=h∧K v
 |.call f args=>∃ v,(∀ h',zbn h h'→zap P f args h' (fun r h''=>r=.ret v∧h''=h'))∧K v
 |_=>False
def zq0 (h:Heap) (K:AV→Heap→Prop):OR→Prop
 |.val v h'=>(∃ t,h'=h++t)∧K v h'
 |_=>False
def zdP (P:Program) (e:Operand→AV):Op→Option AV
 |.alloc T=>(zag P T).map .p
 |.box _ x=>some (e x)
 |_=>none
def zen (hs:Heap) (id:Nat):Bool :=
 match hs[id]? with
 |some .dead=>true
 |none=>true
 |_=>false
def zkg (hs h:Heap) (j sz:Nat) (K:AV→Heap→Prop):Option AV→Prop
 |some z=>z.cells.map (·.length)=some sz∧zen hs (hs.length-1-j)=true∧h[hs.length-1-j]?=some (.row sz [])∧K (.ptr (hs.length-1-j) 1 0 0) (h.set (hs.length-1-j) (.row sz [z]))
 |none=>False
def zja (K:Heap→Prop):OR→Prop
 |.skip h=>K h
 |_=>False
def zmt (P:Program) (hs h:Heap) (e:Operand→AV) (K:Heap→Prop):Op→Prop
 |.store T a x=>match e a with
  |.ptr id ver i o=>zen hs id=true∧zja K (zdK P T (.ptr id ver i o) (e x) h)
  |_=>False
 |_=>False
def zmK (P:Program) (h:Heap) (e:Operand→AV) (K:Prop):Op→Prop
 |.store T a x=>zdK P T (e a) (e x) h=.skip h∧K
 |_=>False
def zCU (hs h h':Heap):Prop:=(∃ t,h'=h++t)∨∃ id ob,h'=h.set id ob∧zen hs id=true
def zoS (hs h:Heap) (K:AV→Heap→Prop):OR→Prop
 |.val v h'=>zCU hs h h'∧K v h'
 |_=>False
def zom (P:Program) (Q:Ex→AAct→Prop) (A:AAct) (K:AV→Prop):OR→Prop
 |.call f args=>(∃ v,(∀ h',zbn A.h h'→zap P f args h' (fun r h''=>r=.ret v∧h''=h'))∧K v) ∨
   ∃ v,zap P f args A.h (fun r h''=>r=.panic v∧h''=A.h)∧∀ T,Q (.panic v) { A with tmps:=T }
 |_=>False
def kept (H:Hints) (T S:Nat→AV):Prop:=∀ t,H (6000000+t)=.nop→T t=S t
def zj0 (P:Program) (H:Hints) (Q:Ex→AAct→Prop) (hs:Heap) (A:AAct) (K:AV→Heap→Prop):OR→Prop
 |.call f args=>zap P f args A.h (zqH (fun v h=>zbn hs h∧K v h) (fun v h=>∀ T,kept H T A.tmps→Q (.panic v) { A with tmps:=T,h:=h }))
 |_=>False
def dcK (X Y Z W:Unit→Prop) (U:Nat→Nat→Prop) (V N E R C:Unit→Prop):DC→Prop
 |.bar=>X ()
 |.alloc=>Y ()
 |.quiet=>Z ()
 |.low=>W ()
 |.slot j sz=>U j sz
 |.sto=>V ()
 |.nop=>N ()
 |.app _=>E ()
 |.thr=>R ()
 |.cal=>C ()
def za0 (P:Program) (H:Hints) (ops:Array Oper) (Q:Ex→AAct→Prop):List Oper→Heap→AAct→Prop
 |[],_,A=>Q .normal A
 |o::rest,hs,A =>
   zke (fun _=>dcK
     (fun _=>orK P A o.dst (fun B=>za0 P H ops Q rest B.h B) Q (aOp P (zaz H) o A.eval A.h))
     (fun _=>zq0 A.h (fun v h=>za0 P H ops Q rest hs (A.put o.dst v h)) (aOp P (zaz H) o A.eval A.h))
     (fun _=>quK P A.h (fun v=>za0 P H ops Q rest hs (A.put o.dst v A.h)) (aOp P (zaz H) o A.eval A.h))
     (fun _=>quK P hs (fun v=>za0 P H ops Q rest hs (A.put o.dst v A.h)) (aOp P (zaz H) o A.eval hs))
     (fun j sz=>zkg hs A.h j sz (fun v h=>za0 P H ops Q rest hs (A.put o.dst v h)) (zdP P A.eval o.op))
     (fun _=>zmt P hs A.h A.eval (fun h=>za0 P H ops Q rest hs (A.put o.dst (.p (.tuple [])) h)) o.op)
     (fun _=>zmK P A.h A.eval (za0 P H ops Q rest hs (A.put o.dst (.p (.tuple [])) A.h)) o.op)
     (fun _=>zoS hs A.h (fun v h=>za0 P H ops Q rest hs (A.put o.dst v h)) (aOp P (zaz H) o A.eval A.h))
     (fun _=>zom P Q A (fun v=>za0 P H ops Q rest hs (A.put o.dst v A.h)) (aOp P (zaz H) o A.eval A.h))
     (fun _=>zj0 P H Q hs A (fun v h=>za0 P H ops Q rest hs (A.put o.dst v h)) (aOp P (zaz H) o A.eval A.h))
     (za1 H o))
    (fun _=>za0 P H ops Q rest hs (A.put o.dst (.p (.tuple [])) A.h)) (zaP ops A o)
def zkh (H:Hints):List Oper→List Nat
 |[]=>[]
 |o::l=>match za1 H o with | .slot _ sz=>sz::zkh H l | _=>zkh H l
def zhq (H:Hints) (T:Nat→AV):List Oper→List Nat
 |[]=>[]
 |o::l=>match za1 H o,o.op with
  |.sto,.store _ (.tmp t) _=>(match T t with | .ptr id _ _ _=>id::zhq H T l | _=>zhq H T l)
  |.app t,_=>(match T t with | .slice id _ _ _=>id::zhq H T l | _=>zhq H T l)
  |_,_=>zhq H T l
def zlJ (h:Heap):List Nat→Heap
 |[]=>h
 |id::l=>zlJ (h.set id .dead) l
def zdm (id:Nat) (h:Heap):Heap:=h.mapIdx fun i o=>if i=id then o else .dead
def zxd (H:Hints) (T:Nat→AV):Option Nat:=match H 5000001 with | .app t=>(match T t with | .ptr id _ _ _=>some id | .slice id _ _ _=>some id | _=>none) | .nop=>some 1000000000 | _=>none
def znz (H:Hints) (ops:List Oper) (A:AAct):Heap:=match zxd H A.tmps with | some id=>zdm id A.h | none=>zlJ A.h (zhq H A.tmps ops)
def zhT (H:Hints) (ops:List Oper) (A:AAct):Heap:=znz H ops A++(zkh H ops).map fun _=>.dead
def mvL {α:Type} (a b:Nat) (l:List α):List α:=if a<b∧b<l.length then l.take a++(l.drop (a+1)).take (b-a)++(l.drop a).take 1++l.drop (b+1) else l
def zlF (H:Hints) (n:Nat):List Nat:=match H 5000000 with | .slot a b=>mvL a b (List.range n) | _=>List.range n
def zox (H:Hints) (l:List Oper):List Oper:=match H 5000000 with | .slot a b=>mvL a b l | _=>l
def zjl (H:Hints) (ops:List Oper) (A:AAct):AAct:={ A with h:=A.h++(zkh H ops).map fun sz=>.row sz [] }
def zlS (Q:Ex→AAct→Prop) (A:AAct):Option Code→Prop
 |none=>Q .normal A
 |some .ret=>Q .ret A
 |some (.exit id)=>Q (.exit id) A
 |_=>False
def zhj (Q:Ex→AAct→Prop) (A:AAct) (l:Nat):Option AObj→Prop
 |some (.loop _ _ _ _ _ st pend)=>st≠.busy∧zlS Q { A with h:=A.h.set l .dead } pend
 |_=>False
def zmH (P:Program) (A:AAct) (h:Heap) (l:Nat) (Q:Ex→AAct→Prop):OR→Prop
 |.call g args=>zap P g args h (zqH (fun _ h'=>zhj Q { A with h:=h',df:=.collected l::A.df } (l+1) h'[l+1]?)
   (fun v h'=>Q (.panic v) { A with h:=h',df:=.collected l::A.df }))
 |_=>False
def wp (P:Program) (H:Hints):Code→(Ex→AAct→Prop)→AAct→Prop
 |.skip,Q,A=>Q .normal A
 |.region _ ops false,Q,A=>zer P H ops Q ops.toList A
 |.region _ ops true,Q,A=>za0 P H ops Q (zox H ops.toList) (zhT H ops.toList A) (zjl H ops.toList A)
 |.seq a b,Q,A=>wp P H a (zcR (wp P H b Q) Q) A
 |.cond c x y,Q,A=>zsy (fun _=>wp P H x Q A) (fun _=>wp P H y Q A) (A.eval c)
 |.block id b,Q,A=>wp P H b (zgU id Q) A
 |.loop b,Q,A=>∀ X:AAct→Prop,(∀ B,wp P H b (zcR (fun C=>∃ D,zdL P C D∧X D) Q) B→X B)→∃ B,zdL P A B∧X B
 |.rangeFunc g ps assign body,Q,A=>zl3 (zmH P A (A.h++[.dblock,.loop A.n A.tmps ps assign body .ready none]) A.h.length Q (zdd (A.eval g) [.ref .yl (A.h.length+1)])) A.rc
 |.exit id,Q,A=>Q (.exit id) A
 |.ret,Q,A=>Q .ret A
 |.scope b,Q,A=>wp P H b Q A
 |.label _,Q,A=>Q .normal A
 |_,_,_=>False
def zhS (n:Nat) (o:Oper):Bool:=match o.dst with | some d=>decide (d<n) | none=>true
def zur (b:Array Nat) (i j:Nat):Bool:=(b.getD j 0).testBit i
def zf9:DC→DC→Bool
 |.alloc,.low=>true
 |.quiet,.alloc | .quiet,.quiet | .quiet,.low=>true
 |.low,.alloc | .low,.quiet | .low,.low | .low,.slot _ _ | .low,.sto=>true
 |.slot _ _,.low | .slot _ _,.slot _ _=>true
 |.sto,.low=>true
 |.app _,.low | .low,.app _=>true
 |.nop,.low | .nop,.quiet | .nop,.nop | .low,.nop | .quiet,.nop=>true
 |.quiet,.thr | .low,.thr=>true
 |.low,.cal=>true
 |_,_=>false
def zlT (o:Oper):Bool :=
 match o.guard,o.op with
 |none,.move _=>true
 |none,.assign _=>true
 |_,_=>false
def znF:DC→Bool
 |.thr=>true
 |_=>false
def zji:DC→Bool
 |.quiet=>true
 |_=>false
def zCM (H:Hints) (x y:Oper):Bool :=
 match za1 H y with
 |.cal=>(match x.dst with | some d=>decide (H (6000000+d)≠.nop) | none=>true)
 |_=>true
def ziH (H:Hints) (ops:Array Oper) (x y:Oper):Bool:=(zf9 (za1 H x) (za1 H y)||(znF (za1 H x)&&zlT y&&zji (za1 H y)))&&(Oper.apart ops x y&&zCM H x y)
def zpk (H:Hints) (ops:Array Oper) (b:Array Nat):List Nat→Bool
 |[]=>true
 |i::r =>
  (match ops[i]? with
   |some x=>(x.after.all fun e=>!Region.binds .any e||(decide (e.on<ops.size)&&!(i::r).contains e.on)) &&
    r.all fun j=>!(i==j)&&(match ops[j]? with | some y=>zur b i j||ziH H ops x y | none=>false)
   |none=>false)&&zpk H ops b r
def ztS (H:Hints) (ops:Array Oper):Bool :=
 (ops.toList.all fun y=>Region.noSelect ops)&&decide ((zlF H ops.size).length=ops.size)&&zpk H ops (Region.before ops) (zlF H ops.size)
def zbL (H:Hints) (n:Nat):Code→Bool
 |.region _ ops false=>ops.toList.all (zhS n)
 |.region _ ops true=>ops.toList.all (zhS n)&&ztS H ops
 |.seq a b=>zbL H n a&&zbL H n b
 |.cond _ a b=>zbL H n a&&zbL H n b
 |.block _ b=>zbL H n b
 |.loop b=>zbL H n b
 |.rangeFunc _ _ a b=>zbL H n a&&zbL H n b
 |.scope b=>zbL H n b
 |_=>true
end Abs
end Go.Proofs.YtahlnclapingiaaGreatDoor
