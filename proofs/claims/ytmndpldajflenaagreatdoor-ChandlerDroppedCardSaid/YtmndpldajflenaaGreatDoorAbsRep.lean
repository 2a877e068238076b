/- HOW THE MODEL'S VALUES AND MEMORY STAND FOR THOSE OF THE ABSTRACT MACHINE. Definitions, an -/
import Derived.Test.YtmndpldajflenaaGreatDoorAbsDef
import Derived.Lib.LaidTab
import Derived.Lib.ItoaNum
set_option linter.all false
namespace Go.Proofs.YtmndpldajflenaaGreatDoor
namespace Abs
inductive RepP (M:Nat->Prop) (w:World):Value->PV->Prop
 |bool (b:Bool):RepP M w (.bool b) (.bool b)
 |int (k:IntKind) (n:Int):RepP M w (.int k n) (.int k n)
 |str (s:ByteArray):RepP M w (.string s) (.str s)
 |agg {C:Array Value} {cs:List PV} (hn:C.size=cs.length) (hs:∀c,c∈cs->c.isCell=true)
   (h:∀(i:Nat) (c:PV),cs[i]?=some c->RepP M w (C.getD i undef) c):RepP M w (.agg C) (.agg cs)
 |tuple {C:Array Value} {cs:List PV} (hn:C.size=cs.length)
   (h:∀(i:Nat) (c:PV),cs[i]?=some c->RepP M w (C.getD i undef) c):RepP M w (.tuple C) (.tuple cs)
 |slice {b off len cap sz:Nat} {xs:List PV} {full:Bool} (f:Nat->Value) (hlen:len=xs.length) (hcap:len<=cap) (hfull:full=true->cap=len)
   (hsz:∀x,x∈xs->x.cells.length=sz/\∀c,c∈x.cells->c.isCell=true)
   (hM:xs.length*sz≠0->¬M b)
   (hc:∀k,k<xs.length*sz->w.cell? ⟨b,off+k,none⟩=some (f k))
   (hr:∀(i j:Nat) (x c:PV),xs[i]?=some x->x.cells[j]?=some c->RepP M w (f (i*sz+j)) c) :
   RepP M w (.slice (some ⟨b,off,none⟩) len cap) (.slice sz xs full)
 |empty {a:Option Addr} {cap sz:Nat} {full:Bool} (hfull:full=true->cap=0):RepP M w (.slice a 0 cap) (.slice sz [] full)
 |nilslice:RepP M w (.slice none 0 0) .nilslice
 |ptr {b off sz:Nat} {xs:List PV} {i o at_:Nat} (f:Nat->Value) (hat:at_=off+i*sz+o)
   (hsz:∀x,x∈xs->x.cells.length=sz/\∀c,c∈x.cells->c.isCell=true)
   (hM:xs.length*sz≠0->¬M b)
   (hc:∀k,k<xs.length*sz->w.cell? ⟨b,off+k,none⟩=some (f k))
   (hr:∀(i j:Nat) (x c:PV),xs[i]?=some x->x.cells[j]?=some c->RepP M w (f (i*sz+j)) c) :
   RepP M w (.pointer (some ⟨b,at_,none⟩)) (.ptr sz xs i o)
 |nilptr:RepP M w (.pointer none) .nilptr
 |func {fn:Fn} {F C:Array Value} {first cap:List PV} (hf:F.size=first.length) (hc:C.size=cap.length)
   (h1:∀(i:Nat) (c:PV),first[i]?=some c->RepP M w (F.getD i undef) c)
   (h2:∀(i:Nat) (c:PV),cap[i]?=some c->RepP M w (C.getD i undef) c):RepP M w (.func fn F C) (.func fn first cap)
 |nilfunc:RepP M w .nilFunc .nilfunc
 |iface {t:TypeId} {v:Value} {q:PV} (h:RepP M w v q):RepP M w (.iface t v) (.iface t q)
 |niliface:RepP M w .nilIface .niliface
 |any {a:Option Addr}:RepP M w (.pointer a) .any
 |anyMap {r:Option Nat}:RepP M w (.map r) .any
def Own (m:List (Option Nat)) (b:Nat):Prop:=some b∈m
def Avoid (M0:Nat->Prop) (m:List (Option Nat)) (b:Nat):Prop:=M0 b\/Own m b
structure Mem where
 m:List (Option Nat)
 h:Heap
 w:World
def cC (S:Mem) (id ver:Nat) (X:Nat->Option Nat->Prop):Prop:=
 S.h[id]?=some .dead\/∃sz xs,S.h[id]?=some (.row sz xs)/\ver<=xs.length/\(xs.length=ver->X sz (S.m.getD id none))
def TI (v:Value) (i o sz:Nat) (μ:Option Nat):Prop:=∃b,μ=some b/\v=.pointer (some ⟨b,i*sz+o,none⟩)
def sliceAt (w:World) (v:Value) (ver off len sz:Nat) (μ:Option Nat):Prop:=
 (len=0/\ver≠0/\off=ver/\∃a cap,v=.slice a 0 cap) \/
 (∃b cap T n,μ=some b/\v=.slice (some ⟨b,off*sz,none⟩) len cap/\(len<=cap/\off+len<=ver)/\w.shape? b=some (T,n)/\(off+cap)*sz<=n/\ver<=off+cap) \/
 (μ=none/\v=.slice none 0 0/\len=0)
def uv:RK->Nat->Value
 |.it,b=>.pointer (some ⟨b,0,none⟩)
 |.yl,b=>.func (.yield b) #[] #[]
 |.mp,b=>.map (some b)
 |.dk,b=>.pointer (some ⟨b,0,none⟩)
 |.bl,b=>.pointer (some ⟨b,0,none⟩)
def bB (M0:Nat->Prop) (S:Mem) (v:Value):AV->Prop
 |.p q=>RepP (Avoid M0 S.m) S.w v q
 |.ptr id ver i o=>(∃a,v=.pointer a)/\cC S id ver (TI v i o)
 |.slice id ver off len=>(∃a n c,v=.slice a n c)/\cC S id ver (sliceAt S.w v ver off len)
 |.ref k id=>(∃b,v=uv k b)/\(S.h[id]?=some .dead\/(∃o,S.h[id]?=some o/\o.tag=some k)/\∃b,S.m.getD id none=some b/\v=uv k b)
 |.iptr t id=>(∃a,v=.iface t (.pointer a))/\cC S id 1 (λ_ μ=>∃b,μ=some b/\v=.iface t (.pointer (some ⟨b,0,none⟩)))
 |.arr id ver i o n=>(∃a c,v=.slice a n c)/\cC S id ver (λsz μ=>∃b cap,μ=some b/\n<=cap/\(n≠0->v=.slice (some ⟨b,i*sz+o,none⟩) n cap))
 |.undef=>True
 |_=>False
def dz (R:Value->AV->Prop) (C:Array Value) (cs:List AV):Prop:=
 C.size=cs.length/\∀(i:Nat) (c:AV),cs[i]?=some c->R (C.getD i undef) c
def bm (M0:Nat->Prop) (S:Mem) (v:Value):AV->Prop
 |.func fn first cap=>∃F C,v=.func fn F C/\dz (bB M0 S) F first/\dz (bB M0 S) C cap
 |a=>bB M0 S v a
def cO (M0:Nat->Prop) (S:Mem) (v:Value):AV->Prop
 |.agg cs=>∃C,v=.agg C/\(∀c,c∈cs->c.isCell=true)/\dz (bm M0 S) C cs
 |a=>bm M0 S v a
def Rep (M0:Nat->Prop) (S:Mem) (v:Value):AV->Prop
 |.tuple cs=>∃C,v=.tuple C/\dz (cO M0 S) C cs
 |a=>cO M0 S v a
def gE (R:Value->AV->Prop):List MapEntry->List (PV×PV)->Prop
 |[],[]=>True
 |e::C,p::es=>R e.key (.p p.1)/\R e.val (.p p.2)/\gE R C es
 |_,_=>False
theorem gE.mono{R e}(h:∀v a,R v a->e v a):∀{C} {es},gE R C es->gE e C es
 |[],[],_=>trivial
 |_::_,_::_,k=>⟨h _ _ k.1,h _ _ k.2.1,gE.mono h k.2.2⟩
 |[],_::_,k=>k.elim
 |_::_,[],k=>k.elim
theorem gE.monoP{R a}(h:∀v (q),R v (.p q)->a v (.p q)):∀{C} {es},gE R C es->gE a C es
 |[],[],_=>trivial
 |_::_,_::_,k=>⟨h _ _ k.1,h _ _ k.2.1,gE.monoP h k.2.2⟩
 |[],_::_,k=>k.elim
 |_::_,[],k=>k.elim
def nB (f:PV->PV->Bool):Prop:=∀k q v u,f k v=true->f q u=true->∃b,jn k q=some b/\(b=true->k=q)
def ObjOk (P:Program) (M0:Nat->Prop) (S:Mem) (μ:Option Nat):AObj->Prop
 |.row sz xs=>(μ=none/\xs=[])\/∃b T C,μ=some b/\S.w.heap[b]?=some (.cells C T (0,0))/\xs.length*sz<=C.size /\
   ∀(i:Nat) (x:AV),xs[i]?=some x->∃cs,x.cells=some cs/\cs.length=sz/\∀(j:Nat) (c:AV),cs[j]?=some c->c.isCell=true/\bm M0 S (C.getD (i*sz+j) undef) c
 |.strIter s pos=>∃b,μ=some b/\S.w.heap[b]?=some (.stringIter s pos)
 |.mp es=>∃b C clk,μ=some b/\S.w.heap[b]?=some (.map C clk)/\gE (bm M0 S) C.toList es
 |.memo f=>nB f/\∃es:List (PV×PV),(∀p,p∈es->f p.1 p.2=true)/\∃b C clk,μ=some b/\S.w.heap[b]?=some (.map C clk)/\gE (bm M0 S) C.toList es
 |.loop n tmps ps assign body st pend=>∃b r,μ=some b/\S.w.heap[b]?=some (.loop r)/\r.tmps.size=n/\(∀t,Rep M0 S (r.tmps.getD t undef) (tmps t)) /\
   r.params=ps/\r.assign=assign/\r.body=body/\r.state=st/\r.pending=pend/\∃fn,P.funcs[r.fn]?=some fn
 |.dblock=>∃b,μ=some b/\S.w.heap[b]?=some (.deferred (some []))
 |.bld T e x=>∃b p v,μ=some b/\S.w.heap[b]?=some (.cells #[p,v] T (0,0))/\(p=.pointer none\/p=.pointer (some ⟨b,0,none⟩))/\(x=.p .nilslice\/∃j n,x=.slice j n 0 n)/\bB M0 S v x /\
   ∀a n c,v=.slice (some a) n c->∃N,S.w.shape? a.block=some (e,N)
 |.dead=>True
def I0 (P:Program) (b:Nat):Prop:=
 P.globalNamed "internal/strconv.uint64pow10" = some b\/P.globalNamed "strconv.ErrSyntax" = some b\/P.globalNamed "strconv.ErrRange" = some b
def t7 (P:Program) (w:World):Prop:=
 (∀b,P.globalNamed "internal/strconv.uint64pow10" = some b->Lib.TabIs P w "internal/strconv.uint64pow10" .u64 Lib.pow10Tab) /\
 (∀b,P.globalNamed "strconv.ErrSyntax" = some b->∃tp p,w.var? P "strconv.ErrSyntax" = some #[.iface tp p]) /\
 (∀b,P.globalNamed "strconv.ErrRange" = some b->∃tp p,w.var? P "strconv.ErrRange" = some #[.iface tp p])
theorem t7.same{P}{w w'}(h:t7 P w)(j:∀b,I0 P b->w'.heap[b]?=w.heap[b]?):t7 P w':=by
 have e:∀n b,P.globalNamed n=some b->w'.heap[b]?=w.heap[b]?->w'.var? P n=w.var? P n:=by
  intro n b a l;simp only[World.var?,a,n9,l]
 refine⟨λb a=>?_,λb a=>?_,λb a=>?_⟩
 .have:=h.1 b a;unfold Lib.TabIs at this |-;rwa [e _ b a (j b (.inl a))]
 .obtain⟨i,p,h⟩:=h.2.1 b a;exact⟨i,p,by rwa [e _ b a (j b (.inr (.inl a)))]⟩
 .obtain⟨i,p,h⟩:=h.2.2 b a;exact⟨i,p,by rwa [e _ b a (j b (.inr (.inr a)))]⟩
theorem Dd{P}{w:World}{n}{b}{x}(a:P.globalNamed n=some b)(h:w.var? P n=some x):b<w.heap.size:=by
 simp only[World.var?,a,n9]at h;rcases cx b w.heap.size with h'|h'
 .exact h'
 .simp[xM h']at h
theorem t7.lt{P}{w}(h:t7 P w){b}(a:I0 P b):b<w.heap.size:=by
 rcases a with a|a|a
 .exact Dd a (h.1 b a)
 .obtain⟨_,_,h⟩:=h.2.1 b a;exact Dd a h
 .obtain⟨_,_,h⟩:=h.2.2 b a;exact Dd a h
def Glob (P:Program) (S:Mem):Prop:=t7 P S.w/\∀b,I0 P b->¬Own S.m b
structure HOk (P:Program) (M0:Nat->Prop) (S:Mem):Prop where
 len:S.m.length=S.h.length
 lt:∀b,Own S.m b->b<S.w.heap.size
 m0:∀b,M0 b->b<S.w.heap.size/\¬Own S.m b
 inj:∀(i j b:Nat),S.m[i]?=some (some b)->S.m[j]?=some (some b)->i=j
 obj:∀id o,S.h[id]?=some o->ObjOk P M0 S (S.m.getD id none) o
 gl:Glob P S
structure Fr (m:List (Option Nat)) (w w':World):Prop where
 os:w'.os=w.os
 tape:w'.tape=w.tape
 output:w'.output=w.output
 size:w.heap.size<=w'.heap.size
 block:∀b,b<w.heap.size->¬Own m b->w'.heap[b]?=w.heap[b]?
 shape:∀b,b<w.heap.size->w'.shape? b=w.shape? b
def ObjEv (μ:Option Nat) (o:AObj) (μ':Option Nat) (o':AObj):Prop:=
 o'=.dead \/
 (∃sz xs xs',o=.row sz xs/\o'=.row sz xs'/\((xs'.length=xs.length/\μ'=μ)\/xs.length<xs'.length)) \/
 (o.tag≠none/\o'.tag=o.tag/\μ'=μ)
structure Ev (base:Nat) (S S':Mem):Prop where
 fr:Fr S.m S.w S'.w
 sub:∀b,Own S'.m b->Own S.m b\/S.w.heap.size<=b
 obj:∀id o,id<base->S.h[id]?=some o->∃o',S'.h[id]?=some o'/\ObjEv (S.m.getD id none) o (S'.m.getD id none) o'
theorem Glob.fr{P}{S e}(h:Glob P S)(l:∀b,b<S.w.heap.size->¬Own S.m b->e.w.heap[b]?=S.w.heap[b]?)(i:∀b,Own e.m b->Own S.m b\/S.w.heap.size<=b):Glob P e:=
 ⟨h.1.same λb a=>l b (h.1.lt a) (h.2 b a),λb a j=>(i b j).elim (h.2 b a) λk=>by have:=h.1.lt a;omega⟩
theorem Ev.glob{P}{base}{S a}(e:Ev base S a)(h:Glob P S):Glob P a:=h.fr e.fr.block e.sub
theorem Fr.refl(m)(w):Fr m w w:=⟨rfl,rfl,rfl,ba _,λ_ _ _=>rfl,λ_ _=>rfl⟩
theorem ObjEv.refl(μ)(o):ObjEv μ o μ o:=by
 cases o with
 |row sz xs=>exact .inr (.inl ⟨sz,xs,xs,rfl,rfl,.inl ⟨rfl,rfl⟩⟩)
 |dead=>exact .inl rfl
 |_=>exact .inr (.inr ⟨by simp[AObj.tag],rfl,rfl⟩)
theorem ObjEv.trans{μ l e}{o q i}(h:ObjEv μ o l q)(k:ObjEv l q e i):ObjEv μ o e i:=by
 rcases k with rfl|⟨sz,xs,xs',rfl,rfl,k⟩|⟨k1,k2,rfl⟩
 .exact .inl rfl
 .rcases h with h|⟨v,ys,u,rfl,h,h'⟩|⟨a,j,h⟩
  .cases h
  .cases h;refine .inr (.inl ⟨_,_,_,rfl,rfl,?_⟩);rcases h' with⟨a,rfl⟩|a
   .rcases k with⟨k1,rfl⟩|k1
    .exact .inl ⟨k1.trans a,rfl⟩
    .exact .inr (by omega)
   .rcases k with⟨k1,rfl⟩|k1
    .exact .inr (by omega)
    .exact .inr (by omega)
  .exact absurd j.symm a
 .rcases h with rfl|⟨_,_,_,rfl,rfl,_⟩|⟨a,j,h⟩
  .exact absurd rfl k1
  .exact absurd rfl k1
  .exact .inr (.inr ⟨a,k2.trans j,h⟩)
theorem Ev.refl(base)(S):Ev base S S:=⟨Fr.refl _ _,λ_ h=>.inl h,λ_ o _ h=>⟨o,h,ObjEv.refl _ _⟩⟩
theorem Ev.trans{base:Nat}{S T U:Mem}(h:Ev base S T)(k:Ev base T U):Ev base S U where
 fr:=
  {os:=k.fr.os.trans h.fr.os
   tape:=k.fr.tape.trans h.fr.tape
   output:=k.fr.output.trans h.fr.output
   size:=iI h.fr.size k.fr.size
   block:=λb a v=>by
    have C:=h.fr.block b a v;have A:¬Own T.m b:=λj=>by
     rcases h.sub b j with h'|h'
     .exact v h'
     .omega
    exact(k.fr.block b (gk a h.fr.size) A).trans C
   shape:=λb a=>(k.fr.shape b (gk a h.fr.size)).trans (h.fr.shape b a) }
 sub:=λb a=>by
  rcases k.sub b a with h'|h'
  .exact h.sub b h'
  .exact .inr (iI h.fr.size h')
 obj:=λid o e j=>by
  obtain⟨y,q,z⟩:=h.obj id o e j;obtain⟨l,i,u⟩:=k.obj id y e q;exact⟨l,i,z.trans u⟩
theorem Ev.mono{base a}{S T}(h:Ev base S T)(j:a<=base):Ev a S T:=
 ⟨h.fr,h.sub,λid o i e=>h.obj id o (by omega) e⟩
theorem RepP.mono{M F}{w w'}{v}{q}(h:RepP M w v q)
  (O:∀b,b<w.heap.size->¬M b->w'.heap[b]?=w.heap[b]?) (R:∀b,F b->M b\/w.heap.size<=b):RepP F w' v q:=by
 have cells:∀(b off n:Nat) (f:Nat->Value),(n≠0->¬M b)->(∀k,k<n->w.cell? ⟨b,off+k,none⟩=some (f k)) ->
   (n≠0->¬F b)/\∀k,k<n->w'.cell? ⟨b,off+k,none⟩=some (f k):=by
  intro b off n f y u;by_cases j:n=0
  .subst j;exact⟨λe=>absurd rfl e,λk L=>by omega⟩
  .have J:b<w.heap.size:=World.block_lt_of_cell? (a:=⟨b,off+0,none⟩) w (u 0 (by omega));refine⟨λ_ z=>?_,λk L=>?_⟩
   .rcases R b z with h'|h'
    .exact y j h'
    .omega
   .rw[<-u k L];simp only[World.cell?,O b J (y j)]
 induction h with
 |bool b=>exact .bool b
 |int k n=>exact .int k n
 |str s=>exact .str s
 |agg j N _ i=>exact .agg j N i
 |tuple j _ i=>exact .tuple j i
 |slice f C D o l z A _ i=>
  obtain⟨y,u⟩:=cells _ _ _ f z A
  exact .slice f C D o l y u i
 |empty E=>exact .empty E
 |nilslice=>exact .nilslice
 |ptr f K l z A _ i=>
  obtain⟨y,u⟩:=cells _ _ _ f z A
  exact .ptr f K l y u i
 |nilptr=>exact .nilptr
 |func E A _ _ I G=>exact .func E A I G
 |nilfunc=>exact .nilfunc
 |iface _ i=>exact .iface i
 |niliface=>exact .niliface
 |any=>exact .any
 |anyMap=>exact .anyMap
theorem RepP.less{M a}{w}{v}{q}(h:RepP M w v q)(i:∀b,a b->M b):RepP a w v q:=
 h.mono (λ_ _ _=>rfl) (λb e=>.inl (i b e))
def dO (n:Nat):AV->Prop
 |.ptr id _ _ _=>id<n
 |.slice id _ _ _=>id<n
 |.ref _ id=>id<n
 |.iptr _ id=>id<n
 |.arr id _ _ _ _=>id<n
 |_=>True
def e8 (n:Nat):AV->Prop
 |.func _ first cap=>(∀c,c∈first->dO n c)/\∀c,c∈cap->dO n c
 |a=>dO n a
def fX (n:Nat):AV->Prop
 |.agg cs=>∀c,c∈cs->e8 n c
 |a=>e8 n a
def below (n:Nat):AV->Prop
 |.tuple cs=>∀c,c∈cs->fX n c
 |a=>fX n a
theorem Ev.live{base}{S y}(e:Ev base S y){id j}{X}(h:cC S id j X)(l:id<base)
  {Y} (v:∀sz,X sz (S.m.getD id none)->Y sz (S.m.getD id none)):cC y id j Y:=by
 rcases h with h|⟨sz,xs,h,E,hx⟩
 .obtain⟨A,i,a⟩:=e.obj id _ l h;rcases a with rfl|⟨_,_,_,a,_⟩|⟨a,_⟩
  .exact .inl i
  .cases a
  .exact absurd rfl a
 .obtain⟨A,i,a⟩:=e.obj id _ l h;rcases a with rfl|⟨D,ys,u,a,rfl,o⟩|⟨a,_⟩
  .exact .inl i
  .cases a;refine .inr ⟨sz,u,i,?_,?_⟩
   .rcases o with⟨q,_⟩|q<;>omega
   .intro z;rcases o with⟨q,C⟩|q
    .rw[C];exact v sz (hx (by omega))
    .omega
  .exact absurd rfl a
theorem Ev.avoid{base}{S a}(e:Ev base S a)(M0)(b)(h:Avoid M0 a.m b):Avoid M0 S.m b\/S.w.heap.size<=b:=by
 rcases h with h|h
 .exact .inl (.inl h)
 .rcases e.sub b h with h'|h'
  .exact .inl (.inr h')
  .exact .inr h'
theorem Ev.repP{base}{S a}(e:Ev base S a){M0}{v}{q}(h:RepP (Avoid M0 S.m) S.w v q):RepP (Avoid M0 a.m) a.w v q:=
 h.mono (λb l j=>e.fr.block b l (λi=>j (.inr i))) (e.avoid M0)
theorem ql{w:World}{b T n}(h:w.shape? b=some (T,n)):b<w.heap.size:=by
 unfold World.shape? at h;rcases cx b w.heap.size with h'|h'
 .exact h'
 .simp[xM h']at h
theorem Ev.rep0{base}{S F}(e:Ev base S F){M0}{v}{a}(h:bB M0 S v a)(u:dO base a):bB M0 F v a:=by
 cases a with
 |p q=>exact e.repP h
 |ptr id z i o=>exact⟨h.1,e.live h.2 u λ_ hx=>hx⟩
 |slice id z off len=>
  refine⟨h.1,e.live h.2 u λsz hx=>?_⟩;rcases hx with hx|⟨b,cap,T,n,J,y,D,C,A⟩|hx
  .exact .inl hx
  .exact .inr (.inl ⟨b,cap,T,n,J,y,D,(e.fr.shape b (ql C)).trans C,A⟩)
  .exact .inr (.inr hx)
 |ref k id=>
  refine⟨h.1,?_⟩;rcases h.2 with y|⟨⟨o,y,A⟩,b,D,C⟩
  .obtain⟨G,j,l⟩:=e.obj id _ u y;rcases l with rfl|⟨_,_,_,l,_⟩|⟨l,_⟩
   .exact .inl j
   .cases l
   .exact absurd rfl l
  .obtain⟨G,j,l⟩:=e.obj id _ u y;rcases l with rfl|⟨_,_,_,rfl,_⟩|⟨L,I,E⟩
   .exact .inl j
   .cases A
   .refine .inr ⟨⟨_,j,I.trans A⟩,b,?_,C⟩
    rw[E,D]
 |iptr t id=>exact⟨h.1,e.live h.2 u λ_ hx=>hx⟩
 |arr id z i o n=>exact⟨h.1,e.live h.2 u λ_ hx=>hx⟩
 |agg cs=>exact h.elim
 |func fn f c=>exact h.elim
 |tuple K=>exact h.elim
 |undef=>exact trivial
theorem dz.imp{R a}{C}{cs}(h:dz R C cs)(e:∀v c,c∈cs->R v c->a v c):dz a C cs:=
 ⟨h.1,λi c hi=>e _ c (aG hi) (h.2 i c hi)⟩
theorem Ev.repS{base}{S o}(e:Ev base S o){M0}{v}{a}(h:bm M0 S v a)(i:e8 base a):bm M0 o v a:=by
 cases a with
 |func fn f c=>
  obtain⟨F,C,rfl,u,q⟩:=h
  exact⟨F,C,rfl,u.imp λv c l j=>e.rep0 j (i.1 c l),q.imp λv c l j=>e.rep0 j (i.2 c l)⟩
 |_=>first|exact False.elim h|exact Ev.rep0 e (M0:=M0) (v:=v) (a:=.p _) h i|exact Ev.rep0 e (M0:=M0) (v:=v) (a:=.ptr _ _ _ _) h i|exact Ev.rep0 e (M0:=M0) (v:=v) (a:=.slice _ _ _ _) h i|exact Ev.rep0 e (M0:=M0) (v:=v) (a:=.ref _ _) h i|exact Ev.rep0 e (M0:=M0) (v:=v) (a:=.iptr _ _) h i|exact Ev.rep0 e (M0:=M0) (v:=v) (a:=.arr _ _ _ _ _) h i|exact Ev.rep0 e (M0:=M0) (v:=v) (a:=.agg _) h i|exact Ev.rep0 e (M0:=M0) (v:=v) (a:=.tuple _) h i|exact Ev.rep0 e (M0:=M0) (v:=v) (a:=.undef) h i|exact Ev.rep0 e (M0:=M0) (v:=v) (a:=.func _ _ _) h i
theorem Ev.repA{base}{S j}(e:Ev base S j){M0}{v}{a}(h:cO M0 S v a)(i:fX base a):cO M0 j v a:=by
 cases a with
 |agg cs=>
  obtain⟨C,rfl,u,q⟩:=h
  exact⟨C,rfl,u,q.imp λv c o l=>e.repS l (i c o)⟩
 |_=>first|exact False.elim h|exact Ev.repS e (M0:=M0) (v:=v) (a:=.p _) h i|exact Ev.repS e (M0:=M0) (v:=v) (a:=.ptr _ _ _ _) h i|exact Ev.repS e (M0:=M0) (v:=v) (a:=.slice _ _ _ _) h i|exact Ev.repS e (M0:=M0) (v:=v) (a:=.ref _ _) h i|exact Ev.repS e (M0:=M0) (v:=v) (a:=.iptr _ _) h i|exact Ev.repS e (M0:=M0) (v:=v) (a:=.arr _ _ _ _ _) h i|exact Ev.repS e (M0:=M0) (v:=v) (a:=.agg _) h i|exact Ev.repS e (M0:=M0) (v:=v) (a:=.tuple _) h i|exact Ev.repS e (M0:=M0) (v:=v) (a:=.undef) h i|exact Ev.repS e (M0:=M0) (v:=v) (a:=.func _ _ _) h i
theorem Ev.rep{base}{S j}(e:Ev base S j){M0}{v}{a}(h:Rep M0 S v a)(i:below base a):Rep M0 j v a:=by
 cases a with
 |tuple cs=>
  obtain⟨C,rfl,q⟩:=h
  exact⟨C,rfl,q.imp λv c o l=>e.repA l (i c o)⟩
 |_=>first|exact False.elim h|exact Ev.repA e (M0:=M0) (v:=v) (a:=.p _) h i|exact Ev.repA e (M0:=M0) (v:=v) (a:=.ptr _ _ _ _) h i|exact Ev.repA e (M0:=M0) (v:=v) (a:=.slice _ _ _ _) h i|exact Ev.repA e (M0:=M0) (v:=v) (a:=.ref _ _) h i|exact Ev.repA e (M0:=M0) (v:=v) (a:=.iptr _ _) h i|exact Ev.repA e (M0:=M0) (v:=v) (a:=.arr _ _ _ _ _) h i|exact Ev.repA e (M0:=M0) (v:=v) (a:=.agg _) h i|exact Ev.repA e (M0:=M0) (v:=v) (a:=.tuple _) h i|exact Ev.repA e (M0:=M0) (v:=v) (a:=.undef) h i|exact Ev.repA e (M0:=M0) (v:=v) (a:=.func _ _ _) h i
theorem D6{S:Mem}{id a:Nat}{X Y:Nat->Option Nat->Prop}(h:cC S id a X)(k:∀sz μ,X sz μ->Y sz μ):cC S id a Y:=by
 rcases h with h|⟨sz,xs,l,j,i⟩
 .exact .inl h
 .exact .inr ⟨sz,xs,l,j,λe=>k _ _ (i e)⟩
theorem wX{M0:Nat->Prop}{S:Mem}{v:Value}{t:TypeId}{id:Nat}(h:bB M0 S v (.iptr t id)):∃a,v=.iface t (.pointer a)/\bB M0 S (.pointer a) (.ptr id 1 0 0):=by
 obtain⟨⟨a,rfl⟩,h⟩:=h;refine⟨a,rfl,⟨a,rfl⟩,D6 h λsz μ hx=>?_⟩;obtain⟨b,i,e⟩:=hx;injection e with _ e
 exact⟨b,i,by rw[e];simp⟩
theorem Nb{M0:Nat->Prop}{S:Mem}{v:Value}{t:TypeId}{id:Nat}(h:bB M0 S v (.ptr id 1 0 0)):bB M0 S (.iface t v) (.iptr t id):=by
 obtain⟨⟨a,rfl⟩,h⟩:=h;refine⟨⟨a,rfl⟩,D6 h λsz μ hx=>?_⟩;obtain⟨b,i,e⟩:=hx;exact⟨b,i,by rw[e];simp⟩
theorem mV{S}{id a}{X}(h:cC S id a X):id<S.h.length:=by
 rcases h with h|⟨_,_,h,_⟩
 .exact(aB.1 h).1
 .exact(aB.1 h).1
theorem fb{M0}{S}{v}{a}(h:bB M0 S v a):dO S.h.length a:=by
 cases a with
 |ptr id e i o=>exact mV h.2
 |slice id e off len=>exact mV h.2
 |ref k id=>
  rcases h.2 with j|⟨⟨_,j,_⟩,_⟩<;>exact(aB.1 j).1
 |iptr t id=>exact mV h.2
 |arr id e i o n=>exact mV h.2
 |_=>exact trivial
theorem dz.mem{R}{C}{cs}(h:dz R C cs){c}(a:c∈cs):∃v,R v c:=by
 obtain⟨i,hi⟩:=eF a;exact⟨_,h.2 i c hi⟩
theorem dU{M0}{S}{v}{a}(h:bm M0 S v a):e8 S.h.length a:=by
 cases a with
 |func fn f c=>
  obtain⟨F,C,rfl,y,u⟩:=h
  exact⟨λc l=>let ⟨_,j⟩:=y.mem l;fb j,λc l=>let ⟨_,j⟩:=u.mem l;fb j⟩
 |p q=>exact trivial
 |ptr id e i o=>exact fb (M0:=M0) (v:=v) (show bB M0 S v (.ptr id e i o) from h)
 |slice id e off len=>exact fb (M0:=M0) (v:=v) (show bB M0 S v (.slice id e off len) from h)
 |ref k id=>exact fb (M0:=M0) (v:=v) (show bB M0 S v (.ref k id) from h)
 |iptr t id=>exact fb (M0:=M0) (v:=v) (show bB M0 S v (.iptr t id) from h)
 |arr id e i o n=>exact fb (M0:=M0) (v:=v) (show bB M0 S v (.arr id e i o n) from h)
 |agg cs=>exact trivial
 |tuple cs=>exact trivial
 |undef=>exact trivial
theorem fF{M0}{S}{v}{a}(h:cO M0 S v a):fX S.h.length a:=by
 cases a with
 |agg cs=>
  obtain⟨C,rfl,_,j⟩:=h
  exact λc i=>let ⟨_,e⟩:=j.mem i;dU e
 |_=>first|exact False.elim h|exact dU (M0:=M0) (S:=S) (v:=v) (a:=.p _) h|exact dU (M0:=M0) (S:=S) (v:=v) (a:=.ptr _ _ _ _) h|exact dU (M0:=M0) (S:=S) (v:=v) (a:=.slice _ _ _ _) h|exact dU (M0:=M0) (S:=S) (v:=v) (a:=.ref _ _) h|exact dU (M0:=M0) (S:=S) (v:=v) (a:=.iptr _ _) h|exact dU (M0:=M0) (S:=S) (v:=v) (a:=.arr _ _ _ _ _) h|exact dU (M0:=M0) (S:=S) (v:=v) (a:=.agg _) h|exact dU (M0:=M0) (S:=S) (v:=v) (a:=.tuple _) h|exact dU (M0:=M0) (S:=S) (v:=v) (a:=.undef) h|exact dU (M0:=M0) (S:=S) (v:=v) (a:=.func _ _ _) h
theorem Bh{M0}{S}{v}{a}(h:Rep M0 S v a):below S.h.length a:=by
 cases a with
 |tuple cs=>
  obtain⟨C,rfl,j⟩:=h
  exact λc i=>let ⟨_,e⟩:=j.mem i;fF e
 |_=>first|exact False.elim h|exact fF (M0:=M0) (S:=S) (v:=v) (a:=.p _) h|exact fF (M0:=M0) (S:=S) (v:=v) (a:=.ptr _ _ _ _) h|exact fF (M0:=M0) (S:=S) (v:=v) (a:=.slice _ _ _ _) h|exact fF (M0:=M0) (S:=S) (v:=v) (a:=.ref _ _) h|exact fF (M0:=M0) (S:=S) (v:=v) (a:=.iptr _ _) h|exact fF (M0:=M0) (S:=S) (v:=v) (a:=.arr _ _ _ _ _) h|exact fF (M0:=M0) (S:=S) (v:=v) (a:=.agg _) h|exact fF (M0:=M0) (S:=S) (v:=v) (a:=.tuple _) h|exact fF (M0:=M0) (S:=S) (v:=v) (a:=.undef) h|exact fF (M0:=M0) (S:=S) (v:=v) (a:=.func _ _ _) h
theorem Ev.keep{S i}(e:Ev S.h.length S i){M0}{v}{a}(h:Rep M0 S v a):Rep M0 i v a:=e.rep h (Bh h)
theorem Ev.keepS{S i}(e:Ev S.h.length S i){M0}{v}{a}(h:bm M0 S v a):bm M0 i v a:=e.repS h (dU h)
end Abs
end Go.Proofs.YtmndpldajflenaaGreatDoor
