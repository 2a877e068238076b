/- CONTRACTS of functions and laws. No conditions but those in the heads. -/
import Derived.Test.YtgafommgcfhkkaaGreatDoorRfAX
set_option linter.all false
set_option maxHeartbeats 4000000
open Go.Proofs.Tryz renaming prog->TP
namespace Go.Proofs.YtgafommgcfhkkaaGreatDoor
namespace Abs
namespace Ch
set_option maxRecDepth 100000
set_option maxRecDepth 4000
def gC (w:List UInt8):Option (List (List UInt8)×List Int)->Said×Int
 |some q=>(⟨w,q.1,q.2,[]⟩,0)
 |none=>(ly,6)
def Hz(w)(r)(hw:w≠gF):∀t,w∉t.map (·.1)->kz w r t=(ly,6)
 |[],_=>rfl
 |(v,f)::t,h=>by
  rw[bf,br,not_or]at h;rw[kz,if_neg (λe=>h.1 e.1.symm)];exact Hz w r hw t h.2
def Cj(w)(r)(hw:w≠gF):∀t,(t.map (·.1)).Nodup->kz w r t=gC w ((t.lookup w).bind λf=>eT f r)
 |[],_=>rfl
 |(v,f)::t,h=>by
  rw[bf,GS]at h;by_cases i:v=w
  .subst i;rw[MQ _ _ _ _ _ hw,if_pos rfl,List.lookup_cons_self]
   cases j:eT f r with
   |none=>
    rw[iv,j]
    exact Hz v r hw t h.1
   |some q=>simp[gC,j]
  .have l:(w==v)=false:=by simpa using λe=>i e.symm
   rw[List.lookup_cons,l,<-Cj w r hw t h.2,kz,if_neg (λe=>i e.1)]
def E5(r):∀t,kz gF r t=(ly,6)
 |[]=>rfl
 |(v,f)::t=>by
  rw[kz,if_neg (λe=>e.2.1 e.1)];exact E5 r t
def LD(w):∀t:List (List UInt8×List UInt8),w∉t.map (·.1)->t.lookup w=none
 |[],_=>rfl
 |(v,f)::t,h=>by
  rw[bf,br,not_or]at h;have e:(w==v)=false:=by simpa using h.1
  rw[List.lookup_cons,e];exact LD w t h.2
def gT:Option Cmd->Said×Int
 |some c=>(bp c,0)
 |none=>(ly,6)
def O4:(ir.map (·.1)).Nodup:=by decide
def R2(w)(r):kz w r ir=gT (dL w r):=by
 by_cases y:w=gF
 .subst y;rw[E5];rfl
 rw[Cj w r y ir O4];by_cases E:w=p7
 .subst E;rw[show ir.lookup p7=some [97,97,110,114] from rfl];unfold dL;rw[if_pos rfl,iv]
  match r with
  |[]=>rfl
  |[n]=>cases e:bn n<;>simp[eT,gC,gT,e]
  |[n,k]=>cases e:bn n<;>cases i:bn k<;>simp[eT,gC,gT,e,i]
  |n::k::g::rs=>cases e:bn n<;>cases i:bn k<;>cases j:bV g<;>cases q:cV rs<;>simp[eT,gC,gT,bp,e,i,j,q]
 by_cases e:w=j2
 .subst e;rw[show ir.lookup j2=some [97,97,97,110] from rfl];unfold dL;rw[if_neg (by decide),if_pos rfl,iv]
  match r with
  |[]=>rfl
  |[n]=>cases e:bn n<;>simp[eT,gC,gT,e]
  |[n,k]=>cases e:bn n<;>cases i:bn k<;>simp[eT,gC,gT,e,i]
  |[n,k,l]=>cases e:bn n<;>cases i:bn k<;>cases j:bn l<;>simp[eT,gC,gT,e,i,j]
  |[n,k,l,g]=>cases e:bn n<;>cases i:bn k<;>cases j:bn l<;>cases q:bV g<;>simp[eT,gC,gT,bp,e,i,j,q]
  |n::k::l::g::x::rs=>cases e:bn n<;>cases i:bn k<;>cases j:bn l<;>cases q:bV g<;>simp[eT,gC,gT,e,i,j,q]
 by_cases i:w=lg
 .subst i;rw[show ir.lookup lg=some [97] from rfl];unfold dL;rw[if_neg (by decide),if_neg (by decide),if_pos rfl,iv]
  match r with
  |[]=>rfl
  |[n]=>cases e:bn n<;>simp[eT,gC,gT,bp,e]
  |n::k::t=>cases e:bn n<;>simp[eT,gC,gT,e]
 by_cases j:w=l9
 .subst j;rw[show ir.lookup l9=some [97] from rfl];unfold dL;rw[if_neg (by decide),if_neg (by decide),if_neg (by decide),if_pos rfl,iv]
  match r with
  |[]=>rfl
  |[n]=>cases e:bn n<;>simp[eT,gC,gT,bp,e]
  |n::k::t=>cases e:bn n<;>simp[eT,gC,gT,e]
 by_cases q:w=jF
 .subst q;rw[show ir.lookup jF=some [97] from rfl];unfold dL;rw[if_neg (by decide),if_neg (by decide),if_neg (by decide),if_neg (by decide),if_pos rfl,iv]
  match r with
  |[]=>rfl
  |[n]=>cases e:bn n<;>simp[eT,gC,gT,bp,e]
  |n::k::t=>cases e:bn n<;>simp[eT,gC,gT,e]
 by_cases u:w=fj
 .subst u;rw[show ir.lookup fj=some [97] from rfl];unfold dL;rw[if_neg (by decide),if_neg (by decide),if_neg (by decide),if_neg (by decide),if_neg (by decide),if_pos rfl,iv]
  match r with
  |[]=>rfl
  |[n]=>cases e:bn n<;>simp[eT,gC,gT,bp,e]
  |n::k::t=>cases e:bn n<;>simp[eT,gC,gT,e]
 by_cases D:w=kn
 .subst D;rw[show ir.lookup kn=some [97,110] from rfl];unfold dL;rw[if_neg (by decide),if_neg (by decide),if_neg (by decide),if_neg (by decide),if_neg (by decide),if_neg (by decide),if_pos rfl,iv]
  match r with
  |[]=>rfl
  |[n]=>cases e:bn n<;>simp[eT,gC,gT,e]
  |[n,g]=>cases e:bn n<;>cases i:bV g<;>simp[eT,gC,gT,bp,e,i]
  |n::g::x::t=>cases e:bn n<;>cases i:bV g<;>simp[eT,gC,gT,e,i]
 by_cases C:w=jG
 .subst C;rw[show ir.lookup jG=some [] from rfl];unfold dL;rw[if_neg (by decide),if_neg (by decide),if_neg (by decide),if_neg (by decide),if_neg (by decide),if_neg (by decide),if_neg (by decide),if_pos rfl,iv]
  match r with
  |[]=>rfl
  |n::t=>rfl
 by_cases A:w=ji
 .subst A;rw[show ir.lookup ji=some [97,110,110,110,110] from rfl];unfold dL;rw[if_neg (by decide),if_neg (by decide),if_neg (by decide),if_neg (by decide),if_neg (by decide),if_neg (by decide),if_neg (by decide),if_neg (by decide),if_pos rfl,iv]
  match r with
  |[]=>rfl
  |[n]=>cases e:bn n<;>simp[eT,gC,gT,e]
  |[n,a]=>cases e:bn n<;>cases i:bV a<;>simp[eT,gC,gT,e,i]
  |[n,a,b]=>cases e:bn n<;>cases i:bV a<;>cases j:bV b<;>simp[eT,gC,gT,e,i,j]
  |[n,a,b,c]=>cases e:bn n<;>cases i:bV a<;>cases j:bV b<;>cases q:bV c<;>simp[eT,gC,gT,e,i,j,q]
  |[n,a,b,c,d]=>cases e:bn n<;>cases i:bV a<;>cases j:bV b<;>cases q:bV c<;>cases u:bV d<;>simp[eT,gC,gT,bp,e,i,j,q,u]
  |n::a::b::c::d::x::t=>cases e:bn n<;>cases i:bV a<;>cases j:bV b<;>cases q:bV c<;>cases u:bV d<;>simp[eT,gC,gT,e,i,j,q,u]
 by_cases z:w=gj
 .subst z;rw[show ir.lookup gj=some [110,110,110] from rfl];unfold dL;rw[if_neg (by decide),if_neg (by decide),if_neg (by decide),if_neg (by decide),if_neg (by decide),if_neg (by decide),if_neg (by decide),if_neg (by decide),if_neg (by decide),if_pos rfl,iv]
  match r with
  |[]=>rfl
  |[a]=>cases e:bV a<;>simp[eT,gC,gT,e]
  |[a,b]=>cases e:bV a<;>cases i:bV b<;>simp[eT,gC,gT,e,i]
  |[a,b,c]=>cases e:bV a<;>cases i:bV b<;>cases j:bV c<;>simp[eT,gC,gT,bp,e,i,j]
  |a::b::c::x::t=>cases e:bV a<;>cases i:bV b<;>cases j:bV c<;>simp[eT,gC,gT,e,i,j]
 by_cases v:w=gi
 .subst v;rw[show ir.lookup gi=some [] from rfl];unfold dL;rw[if_neg (by decide),if_neg (by decide),if_neg (by decide),if_neg (by decide),if_neg (by decide),if_neg (by decide),if_neg (by decide),if_neg (by decide),if_neg (by decide),if_neg (by decide),if_pos rfl,iv]
  match r with
  |[]=>rfl
  |n::t=>rfl
 have F:ir.lookup w=none:=LD w ir (by simp[ir,E,e,i,j,q,u,D,C,A,z,v,y]);rw[F];unfold dL;rw[if_neg E,if_neg e,if_neg i,if_neg j,if_neg q,if_neg u,if_neg D,if_neg C,if_neg A,if_neg z,if_neg v];rfl
def U4(l):wu l=yd l:=by
 unfold wu yd gc;split
 .rfl
 split
 .rfl
 cases e:aA 32 l with
 |nil=>rfl
 |cons w r=>
  simp only;rw[R2];cases dL w r<;>rfl
def NP(l):af TP 51 [.str (bs l)] (.tuple [(yd l).1.pv,.int .i64 (yd l).2]):=by
 rw[<-U4];exact zay l
def lR (v:List UInt8):Bool:=v==p7||v==j2||v==lg||v==jF||v==gF||v==kn
def FS(v):af TP 52 [.str (bs v)] (.bool (lR v)):=by
 refine ae (ag Tryz.func52 rfl) rfl ?_;have c0:(⟨#[108,111,116]⟩:ByteArray)=bs p7:=rfl;have c1:(⟨#[98,97,116,99,104]⟩:ByteArray)=bs j2:=rfl;have C:(⟨#[100,114,111,112]⟩:ByteArray)=bs lg:=rfl;have A:(⟨#[112,111,117,114]⟩:ByteArray)=bs jF:=rfl;have z:(⟨#[116,101,115,116]⟩:ByteArray)=bs gF:=rfl;have y:(⟨#[98,111,120]⟩:ByteArray)=bs kn:=rfl;simp only[c0,c1,C,A,z,y,cF,go_sem,simprocAttr];cases e:(v==p7)
 rotate_left
 .simp[lR,oZ,e,go_sem]
 refine zn @cF ?_;cases i:(v==j2)
 rotate_left
 .simp[lR,oZ,Bool.or_true,e,i,go_sem]
 refine zn @cF ?_;cases j:(v==lg)
 rotate_left
 .simp[lR,oZ,Bool.or_true,e,i,j,go_sem]
 refine zn @cF ?_;cases l:(v==jF)
 rotate_left
 .simp[lR,oZ,Bool.or_true,e,i,j,l,go_sem]
 refine zn @cF ?_;cases q:(v==gF)
 rotate_left
 .simp[lR,oZ,Bool.or_true,e,i,j,l,q,go_sem]
 refine zn @cF ?_;cases u:(v==kn)
 rotate_left
 .simp[lR,Bool.or_true,e,i,j,l,q,u,go_sem]
 simp only[lR,e,i,j,l,q,u];rfl
def xT(c):lR (bp c).verb=c.written:=by
 cases c<;>rfl
def Ic(b)(C:b.batches.length<=1000):il TP 195 [b.pv] (.slice 2 ((cJ b).map ClBatch.pv) false):=by
 refine e9 (ag Tryz.func195 rfl) rfl (zm ?_);refine bt 3 2 (by simp only[go_sem,simprocAttr]) (zm ?_);refine aG [1] b.batches (by omega) (τ:=Unit) (λ_ _ _=>True) (λd _=>[(3,.slice 1 d.length 0 d.length),(4,.p (.int .i64 d.length))]) (λd _=>[.row 6 [.p b.pv],.row 2 ((iB d).map Db)]) () trivial ?_ ?_ ?_
 .simp only[iB,bx,bS,go_sem,simprocAttr]
 .intro _ _;have e:¬((b.batches.length:Int)<(b.batches.length:Int)):=by omega
  have hw:iB b.batches=cJ b:=rfl;have i:(cJ b).length=b.batches.length:=by simp only[cJ,dQ]
  have z:List.take b.batches.length ((cJ b).map ClBatch.pv)=(cJ b).map ClBatch.pv:=dt (by rw[dQ,i];exact ba _);have A:∀n h (l:List ClBatch),aE (iI n h) (l.map Db)=some (l.map ClBatch.pv):=λn h l=>j6 n h ClBatch.pv (λ_=>rfl) l;simp only[e,decide_false,hw,z,i,A,go_sem,simprocAttr]
 .intro d x r _ y _ hx e u;have v:=congrArg List.length y;rw[ak]at v;have q:d.length+1<=ai:=by simp only[ai];omega
  have j:(iB d).length=d.length:=by simp[iB]
  simp only[e,hx,q,j,dQ,go_sem,simprocAttr];refine am (Inv:=λ_ _ _=>True) y () trivial ?_;simp only[u,iB,ak,aS,bf,bx,Db,ClBatch.pv,go_sem,simprocAttr]
def IK(b)(t):ib (B4 b++t) [bA b]=some [b.pv]:=by
 have q:∀n h (l:List ChLot),aE (bi n h) (l.map dI)=some (l.map ChLot.pv):=λn h l=>aW (bH n h) ChLot.pv l;have j:∀n h (l:List ChBatch),aE (bi n h) (l.map bD)=some (l.map ChBatch.pv):=λn h l=>aW (bH n h) ChBatch.pv l;have i:∀n h (l:List HrTest),aE (bi n h) (l.map er)=some (l.map HrTest.pv):=λn h l=>aW (bH n h) HrTest.pv l;have e:∀n h (l:List HrBox),aE (bi n h) (l.map jK)=some (l.map HrBox.pv):=λn h l=>aW (bH n h) HrBox.pv l;simp[q,j,i,e,ChBooks.pv,go_sem]
def F9{s}{b}{c}{k e}(q:an (λx=>x.name==bs c) s.colour.colours 0=k)(j:¬k<0)(i:iU s b c=.error e) :
  Cl.ml s.colour k (cJ b)=.tuple [.nilslice,.int .i64 0,.int .i64 e]/\(e != 0)=true:=by
 unfold iU at i;dsimp only at i;rw[q,if_neg j]at i;split at i
 .rename_i j;cases i;rw[Cl.ml,if_neg j];exact⟨rfl,by simpa using j⟩
 .rename_i j;have l:Cl.dj s.colour k (cJ b)=0:=by simpa using j
  split at i
  .rename_i u;cases i;rw[Cl.ml,if_pos l,u];exact⟨rfl,rfl⟩
  .cases i
def Dp{s}{b}{c}{k}{o}{m}(l:an (λx=>x.name==bs c) s.colour.colours 0=k)(i:¬k<0)(e:iU s b c=.ok (o,m)) :
  Cl.ml s.colour k (cJ b)=.tuple [.slice 1 (o.map Cl.cL) false,.int .i64 m,.int .i64 0]:=by
 unfold iU at e;dsimp only at e;rw[l,if_neg i]at e;split at e
 .cases e
 .rename_i i;have j:Cl.dj s.colour k (cJ b)=0:=by simpa using i
  split at e
  .cases e
  .rename_i q;cases e;rw[Cl.ml,if_pos j,q]
def uq (b:ChBooks) (o:List Nat):List UInt8:=o.flatMap λi=>kH b.batches i++[32]
def DZ{b}(e:∀i,(kH b.batches i).length<=1000):∀o,(uq b o).length<=1001*o.length
 |[]=>ba _
 |i::o=>by
  have j:=DZ e o;have l:=e i;unfold uq at j |-;simp only[mS,ak,bc,bS];omega
def HU(b)(d):∀o,joinL (o.map (kH b.batches)++[d])=uq b o++d
 |[]=>rfl
 |i::o=>by
  have l:=HU b d o;have e:uq b (i::o)=kH b.batches i++32::uq b o:=by simp[uq]
  rw[e]
  cases o with
  |nil=>simp[joinL,uq]
  |cons j o=>
   rw[bf,bf,ga,ga,joinL];rw[bf,ga]at l;rw[l];simp
def Vx(s)(b)(n)(S:SOk s)(D:BkOk s b n)(c) :
  aw TP 114 [.p s.pv,bA b,.p (bp (.plan c)).pv] (B4 b) (λr h'=>r=.ret (.p (mb b (aH s b (.plan c))))/\h'=List.replicate 4 .dead):=by
 have hl:=D.batches;have a0:(cJ b).length=b.batches.length:=by simp only[cJ,dQ]
 refine lL ?_;refine au (dv (by kernel_rfl) rfl Uc) rfl ?_;simp only[bp,Said.pv,aN,TY,aD,go_sem,simprocAttr];refine aj (zd s c S.colours) rfl (zm ?_);generalize C:an (λx:ClColour=>x.name==bs c) s.colour.colours 0=k at *
 cases U:decide (k<0);rotate_left
 .have i:k<0:=by simpa using U
  refine zm ?_;exact jn 4 (by simp only[aH,iU,C,if_pos i]) rfl rfl
 have i:¬k<0:=by simpa using U
 refine zn @aD ?_;refine Af (pargs:=[b.pv]) (Ic b (by omega)) (IK b [_,_,_,_]) (zm ?_);refine aj (Cl.Jg s.colour k (cJ b) (by omega)) rfl ?_
 cases v:iU s b c with
 |error e=>
  obtain⟨hp,L⟩:=F9 C i v;rw[hp];refine zn L ?_
  exact jn e (by simp only[aH,v]) rfl rfl
 |ok q=>
  obtain⟨o,m⟩:=q;rw[Dp C i v];obtain⟨X,V,f3⟩:=qi S D v;have fl:o.length=b.batches.length:=by rw[X.length_eq,List.length_range]
  have l:=CB D;have M:(bs l9==(⟨#[112,108,97,110]⟩:ByteArray))=true:=rfl;refine zn M ?_;refine aG [4,6,10,11] o (by omega) (τ:=Unit) (λ_ _ _=>True) (λd _=>[(13,.p (.str (bs (uq b d)))),(14,.p (.int .i64 d.length))]) (λd _=>B4 b++[.row 17 [.p s.pv],.row 6 [bA b],.row 4 [.p (bp (.plan c)).pv],.row 6 [.p fQ]]) () trivial ?_ ?_ ?_
  .simp only[bS,fQ,bp,Said.pv,aN,go_sem,simprocAttr];rfl
  .intro _ _;have u:¬((o.length:Int)<(o.length:Int)):=by omega
   have I:=DZ l o;have a1:=j8 V (by omega:m<1000000000);have q:(bs (uq b o)).size+(bs (aX m)).size<=aM:=by simp[al,aM];omega
   simp only[u,decide_false,fQ,bp,Said.pv,aN,aD,go_sem,simprocAttr];refine aj (js V (by omega)) rfl (zn q ?_);refine rU (b':=b) (w:=joinL (o.map (kH b.batches)++[aX m])) ?_ ?_ ?_
   .simp only[aH,v]
   .rfl
   .rw[HU];rfl
  .intro d x r _ E _ hx u K;have hw:x<b.batches.length:=by
    have:x∈o:=by rw[E];simp
    exact sq.1 (X.mem_iff.1 this)
   obtain⟨y,R⟩:∃y,b.batches[x]?=some y:=⟨_,bL hw⟩
   have F:(b.batches.map bD)[x]?=some (.p y.pv):=by rw[cX,R];rfl
   have T:kH b.batches x=bl y.name:=by rw[kH,R]
   have G:(x:Int)<(b.batches.length:Int):=by omega
   have N:=congrArg List.length E;rw[ak,bc]at N;have I:=DZ l d;have j:=l x;rw[T]at j;obtain⟨w,z⟩:∃w,y.name=bs w:=⟨bl y.name,(xp y.name).symm⟩
   have A:bl y.name=w:=by rw[z];rfl
   rw[A]at j;have O:(⟨#[32]⟩:ByteArray)=bs [32]:=rfl;have Z:(bs (uq b d)).size+(bs w).size<=aM:=by simp[al,aM];omega
   have Y:(bs (uq b d++w)).size+(bs [32]).size<=aM:=by simp[al,aM];omega
   have J:uq b (d++[x])=uq b d++(w++[32]):=by simp[uq,T,A]
   simp only[u,decide_true,hx,Cl.cL,F,G,z,Z,Y,O,cc,aD,go_sem,simprocAttr];refine am (Inv:=λ_ _ _=>True) E () trivial ?_;simp[K,J,fQ,bp,Said.pv,aN,dD,go_sem]
def Vw(s)(b)(n)(L:SOk s)(i:BkOk s b n)(c) :
  aw TP 114 [.p s.pv,bA b,.p (bp (.pour c)).pv] (B4 b) (λr h'=>r=.ret (.p (mb b (aH s b (.pour c))))/\h'=List.replicate 4 .dead):=by
 have U:=i.batches;have S:(cJ b).length=b.batches.length:=by simp only[cJ,dQ]
 refine lL ?_;refine au (dv (by kernel_rfl) rfl Uc) rfl ?_;simp only[bp,Said.pv,aN,TY,aD,go_sem,simprocAttr];refine aj (zd s c L.colours) rfl (zm ?_);generalize z:an (λx:ClColour=>x.name==bs c) s.colour.colours 0=k at *
 cases M:decide (k<0);rotate_left
 .have j:k<0:=by simpa using M
  refine zm ?_;exact jn 4 (by simp only[aH,iU,z,if_pos j]) rfl rfl
 have j:¬k<0:=by simpa using M
 refine zn @aD ?_;refine Af (pargs:=[b.pv]) (Ic b (by omega)) (IK b [_,_,_,_]) (zm ?_);refine aj (Cl.Jg s.colour k (cJ b) (by omega)) rfl ?_
 cases v:iU s b c with
 |error e=>
  obtain⟨O,G⟩:=F9 z j v;rw[O];refine zn G ?_
  exact jn e (by simp only[aH,v]) rfl rfl
 |ok q=>
  obtain⟨o,m⟩:=q;rw[Dp z j v];obtain⟨X,R,V⟩:=qi L i v;have I:(bs jF==(⟨#[112,108,97,110]⟩:ByteArray))=false:=rfl;refine zn I ?_;refine aG [4,6,11] b.batches (by omega) (τ:=Unit) (λ_ _ _=>True) (λd _=>[(15,.p (.int .i64 d.length))]) (λd _=>B4 b++[.row 17 [.p s.pv],.row 6 [bA { b with poured:=b.poured+lU d }],.row 4 [.p (bp (.pour c)).pv],.row 6 [.p fQ]]) () trivial ?_ ?_ ?_
  .simp[bS,fQ,bp,Said.pv,aN,lU,bx,List.sum_nil,uJ,go_sem]
  .intro _ _;have u:¬((b.batches.length:Int)<(b.batches.length:Int)):=by omega
   have y:=nU i b.batches (λx hx=>hx);have E:=i.poured;have T:=i.lost;have D:=i.few;have l:IntKind.i64.wrap (b.lost+m)=b.lost+m:=ah;simp only[u,decide_false,fQ,bp,Said.pv,aN,aD,l,go_sem,simprocAttr];refine aj (js R (by omega)) rfl (zm ?_);exact G2 (b':={ b with poured:=b.poured+MJ b.batches,batches:=[],lost:=b.lost+m }) (w:=aX m) (.p .nilslice) .nilslice (.row 4 (b.batches.map bD)) (by simp only[aH,v]) rfl rfl (.nil 4) rfl
  .intro d x r _ A _ hx u F;have C:(b.batches.map bD)[d.length]?=some (.p x.pv):=by rw[cX,hx];rfl
   have K:=congrArg List.length A;rw[ak,bc]at K;have y:=nU i (d++[x]) (λx hx=>by rw[A];simp at hx |-;rcases hx with h|h;exact .inl h;exact .inr (.inl h));have J:lU (d++[x])=lU d+x.grams:=by simp[lU]
   have N:(d++[x]).length<=7:=by simp;omega
   have E:=i.poured;have D:=i.few;have l:IntKind.i64.wrap (b.poured+lU d+x.grams)=b.poured+(lU d+x.grams):=by rw[Int.add_assoc];exact ah
   refine t_ u decide_true C l @aD ?_;refine am (Inv:=λ_ _ _=>True) A () trivial ?_;simp[F,J,fQ,bp,Said.pv,aN,go_sem]
def Ei (s:ChShop) (b:ChBooks):Cmd->List UInt8
 |.promise kind=>if an (λx:HrKind=>x.name==bs kind) s.hour.kinds 0<0 then [] else if(aY s.hour b.tests (an (λx:HrKind=>x.name==bs kind) s.hour.kinds 0)).2≠0 then aX 0 else []
 |.box kind _=>if an (λx:HrKind=>x.name==bs kind) s.hour.kinds 0<0 then [] else if(aY s.hour b.tests (an (λx:HrKind=>x.name==bs kind) s.hour.kinds 0)).2≠0 then aX 0 else []
 |.wick kind _ _ _ _=>if an (λx:Wax=>x.name==bs kind) s.wick.waxes 0<0 then [] else match s.wick.wicks[0]? with|none=>[]|some w=>bl w.name
 |_=>[]
def lB (a:List UInt8) (b:ChBooks) (q:Except Int (ChBooks×List UInt8)):PV:=match q with|.error e=>.tuple [b.pv,.str (bs a),.int .i64 e]|.ok (b',a)=>.tuple [b'.pv,.str (bs a),.int .i64 0]
def jJ (s:ChShop) (b:ChBooks) (c:Cmd):PV:=lB (Ei s b c) b (aH s b c)
def uy{b}{hh}{x}{q}(a)(e)(u:q=.error e)(i:hh.take 4=B4 b)(v:x=.tuple [bA b,.p (.str (bs a)),.p (.int .i64 e)]) :
  ∃l j,x=l/\bi 8 hh l=some j/\qt j (lB a b q):=by
 subst u;subst v;exact⟨_,_,rfl,by have h:=yP b (hh.drop 4) (.str (bs a)) (.int .i64 e);rw[<-i,ja]at h;exact h,pk⟩
def s8{b b'}{hh}{x}{q}{w}(a)(j:q=.ok (b',w))(e:hh.take 4=B4 b')(u:x=.tuple [bA b',.p (.str (bs w)),.p (.int .i64 0)]) :
  ∃l i,x=l/\bi 8 hh l=some i/\qt i (lB a b q):=by
 have:=rU (b:=b) j e u;subst j;exact this
def Vv(s)(b)(n)(O:SOk s)(L:BkOk s b n)(text) :
  aw TP 115 [.p s.pv,bA b,.p (bp (.test text)).pv] (B4 b) (λr h'=>r=.ret (.p (mb b (aH s b (.test text))))/\h'=List.replicate 4 .dead):=by
 have S:=L.tests;refine lL ?_;refine au (dv (by kernel_rfl) rfl Z2) rfl ?_;simp only[bp,Said.pv,aN,Zu,go_sem,simprocAttr];refine aa (S9 s.hour text) rfl ?_;by_cases j:(aI s.hour text).2=0;rotate_left
 .have D:((aI s.hour text).2==0)=false:=by simpa using j
  have C:((aI s.hour text).2 != 0)=true:=by simpa using j
  simp only[D,C,HrTest.pv,go_sem,simprocAttr];exact jn (aI s.hour text).2 (by simp only[aH,if_pos j]) rfl rfl
 obtain⟨K,T⟩:=Cp j;simp only[j,HrTest.pv,go_sem,simprocAttr];cases J:((b.tests.length:Int)==8)
 rotate_left
 .have F:¬b.tests.length<8:=by simp at J;omega
  refine zm ?_;exact jn 3 (by simp only[aH,if_neg (not_not_intro j),if_pos F]) rfl rfl
 have E:¬¬b.tests.length<8:=by simp at J;omega
 have z:b.tests.length+1<=ai:=by simp only[ai];omega
 have e:aH s b (.test text)=.ok ({ b with tests:=b.tests++[(aI s.hour text).1] },
   if(cf s.hour (aI s.hour text).1).2=0 then joinL [aX (cf s.hour (aI s.hour text).1).1.lo,aX (cf s.hour (aI s.hour text).1).1.hi]
   else joinL (A2::(ia s.hour (aI s.hour text).1).1.map aX)):=by simp only[aH,if_neg (not_not_intro j),if_neg E]
 refine zn z ?_;refine aa (Ta s.hour (aI s.hour text).1) rfl ?_;obtain⟨N,G⟩:=Py (s:=s.hour) K;have i:0<=(cf s.hour (aI s.hour text).1).1.lo/\(cf s.hour (aI s.hour text).1).1.lo<1000000000/\0<=(cf s.hour (aI s.hour text).1).1.hi/\(cf s.hour (aI s.hour text).1).1.hi<1000000000:=by
  have:=pq (eY K).1;unfold cf;split
  .split
   .dsimp only;omega
   .dsimp only;omega
  .dsimp only;omega
 have u:=Wd s.hour (aI s.hour text).1;by_cases y:(cf s.hour (aI s.hour text).1).2=0
 .rw[if_pos y]at e;simp only[y,Span.pv,aD,go_sem,simprocAttr];generalize (cf s.hour (aI s.hour text).1).1=R at *
  refine aj (js i.1 i.2.1) rfl (zm ?_);have hh:∀m,m∈[R.hi]->0<=m/\m<1000000000:=λm I=>by rw[dW]at I;subst I;exact i.2.2
  refine aj (mf [R.hi] true (by simp) hh) rfl ?_;have v:=ny [R.hi] hh;have M:=j8 i.1 i.2.1;have q:(bs (aX R.lo)).size+(bs (ea [R.hi])).size<=aM:=by simp[al,aM]at v |-;omega
  refine zn q ?_;exact rU (w:=joinL [aX R.lo,aX R.hi]) e (by simp[B4,er,HrTest.pv]) (by simp[bA,ea,joinL,cc])
 .rw[if_neg y]at e;have A:((cf s.hour (aI s.hour text).1).2==0)=false:=by simpa using y
  simp only[A,Span.pv,go_sem,simprocAttr];refine aa u rfl ?_;simp only[fi,aD,go_sem,simprocAttr];generalize (ia s.hour (aI s.hour text).1).1=l at *
  refine aj (mf l false (by omega) G) rfl ?_;have v:=ny l G;have q:3+(bs (ea l)).size<=aM:=by simp only[al,aM];omega
  refine zn q ?_;exact rU (w:=joinL (A2::l.map aX)) e (by simp[B4,er,HrTest.pv]) (by simp[bA,sI];exact cc A2 (ea l))
def yq{s}{l}{k}(h:(aY s l k).2≠0):(aY s l k).1=0:=by
 unfold aY at h |-;split at h
 .exact absurd rfl h
 .rename_i e;rw[if_neg e]
def FF(b)(t)(v w):ib (B4 b++t) [.p v,.slice 2 b.tests.length 0 b.tests.length,.p w]=some [v,.slice 3 (b.tests.map HrTest.pv) false,w]:=by
 have e:∀n h (l:List HrTest),aE (bi n h) (l.map er)=some (l.map HrTest.pv):=λn h l=>aW (bH n h) HrTest.pv l;simp[e,go_sem]
def X4(s)(b)(n)(I:SOk s)(J:BkOk s b n)(kind)(hours) :
  aw TP 116 [.p s.pv,bA b,.p (bp (.box kind hours)).pv] (B4 b) (λr h'=>r=.ret (.p (jJ s b (.box kind hours)))/\h'=List.replicate 4 .dead):=by
 have L:=J.boxes;refine lL ?_;refine au (dv (by kernel_rfl) rfl Ub) rfl ?_;simp only[bp,Said.pv,aN,TX,aD,go_sem,simprocAttr];refine aj (FU s kind I.kinds) rfl (zm ?_);unfold jJ;have K:Ei s b (.box kind hours)=if an (λx:HrKind=>x.name==bs kind) s.hour.kinds 0<0 then [] else if(aY s.hour b.tests (an (λx:HrKind=>x.name==bs kind) s.hour.kinds 0)).2≠0 then aX 0 else []:=rfl
 rw[K];generalize q:an (λx:HrKind=>x.name==bs kind) s.hour.kinds 0=k at *
 cases G:decide (k<0);rotate_left
 .have e:k<0:=by simpa using G
  rw[if_pos e];refine zm ?_;exact uy [] 4 (by simp only[aH,ej,q,if_pos e]) rfl rfl
 have e:¬k<0:=by simpa using G
 rw[if_neg e];refine zm ?_;refine bq (u4 s.hour b.tests k) (FF b [_,_,_,_] _ _) (.tuple (Flat.cons (.int _ _) (Flat.cons (.int _ _) Flat.nil))) ?_;by_cases i:(aY s.hour b.tests k).2=0;rotate_left
 .have D:((aY s.hour b.tests k).2 != 0)=true:=by simpa using i
  rw[if_pos i];have C:=yq i;refine zp D C @aD ?_;refine aj (js (n:=0) (by omega) (by omega)) rfl (zm ?_);exact uy (aX 0) (aY s.hour b.tests k).2 (by simp only[aH,ej,q,if_neg e,if_pos i]) rfl rfl
 rw[if_neg (not_not_intro i)];have j:ej s b kind=.ok (k,(aY s.hour b.tests k).1):=by simp only[ej,q,if_neg e,if_neg (not_not_intro i)]
 have v:(bs kn==(⟨#[112,114,111,109,105,115,101]⟩:ByteArray))=false:=rfl;refine zo i v ?_;generalize (aY s.hour b.tests k).1=m at *
 cases F:decide (m<hours);rotate_left
 .have A:¬hours<=m:=by simpa using F
  refine zm ?_;exact uy [] 9 (by simp only[aH,j,if_pos A]) rfl rfl
 have l:¬¬hours<=m:=by simp at F;omega
 refine zm ?_;cases E:((b.boxes.length:Int)==20)
 rotate_left
 .have z:¬b.boxes.length<20:=by simp at E;omega
  refine zm ?_;exact uy [] 3 (by simp only[aH,j,if_neg l,if_pos z]) rfl rfl
 have y:¬¬b.boxes.length<20:=by simp at E;omega
 have u:b.boxes.length+1<=ai:=by simp only[ai];omega
 refine zo u @aD ?_;exact s8 (b':={ b with boxes:=b.boxes++[⟨k,hours⟩] }) (w:=vg) [] (by simp only[aH,j,if_neg l,if_neg y]) (by simp[B4,jK,HrBox.pv]) (by simp[bA];rfl)
def Nu(s)(b)(n)(A:SOk s)(E:BkOk s b n)(kind) :
  aw TP 116 [.p s.pv,bA b,.p (bp (.promise kind)).pv] (B4 b) (λr h'=>r=.ret (.p (jJ s b (.promise kind)))/\h'=List.replicate 4 .dead):=by
 refine lL ?_;refine au (dv (by kernel_rfl) rfl Ub) rfl ?_;simp only[bp,Said.pv,aN,TX,aD,go_sem,simprocAttr];refine aj (FU s kind A.kinds) rfl (zm ?_);unfold jJ;have C:Ei s b (.promise kind)=if an (λx:HrKind=>x.name==bs kind) s.hour.kinds 0<0 then [] else if(aY s.hour b.tests (an (λx:HrKind=>x.name==bs kind) s.hour.kinds 0)).2≠0 then aX 0 else []:=rfl
 rw[C];generalize j:an (λx:HrKind=>x.name==bs kind) s.hour.kinds 0=k at *
 cases y:decide (k<0);rotate_left
 .have e:k<0:=by simpa using y
  rw[if_pos e];refine zm ?_;exact uy [] 4 (by simp only[aH,ej,j,if_pos e]) rfl rfl
 have e:¬k<0:=by simpa using y
 rw[if_neg e];refine zm ?_;refine bq (u4 s.hour b.tests k) (FF b [_,_,_,_] _ _) (.tuple (Flat.cons (.int _ _) (Flat.cons (.int _ _) Flat.nil))) ?_;by_cases i:(aY s.hour b.tests k).2=0;rotate_left
 .have v:((aY s.hour b.tests k).2 != 0)=true:=by simpa using i
  rw[if_pos i];have u:=yq i;refine zp v u @aD ?_;refine aj (js (n:=0) (by omega) (by omega)) rfl (zm ?_);exact uy (aX 0) (aY s.hour b.tests k).2 (by simp only[aH,ej,j,if_neg e,if_pos i]) rfl rfl
 rw[if_neg (not_not_intro i)];have l:ej s b kind=.ok (k,(aY s.hour b.tests k).1):=by simp only[ej,j,if_neg e,if_neg (not_not_intro i)]
 obtain⟨z,D⟩:=xG i;have q:(bs fj==(⟨#[112,114,111,109,105,115,101]⟩:ByteArray))=true:=rfl;refine zp i q @aD ?_;refine aj (js z (by omega)) rfl (zm ?_);exact s8 (w:=aX (aY s.hour b.tests k).1) [] (by simp only[aH,l]) rfl rfl
end Ch
open Go.Proofs.Tryz
open Go.IntKind (i64)
variable {P:Program} {M0:Nat->Prop}
def sD (ids:List Nat):AV->Prop
 |.p _=>True
 |.slice id _ _ _=>id∈ids
 |_=>False
def pickO (ids:List Nat):AObj->Prop
 |.row _ xs=>∀x,x∈xs->sD ids x
 |.dead=>True
 |_=>False
def pickA (ids:List Nat):AV->Prop
 |.tuple cs=>∀c,c∈cs->sD ids c
 |a=>sD ids a
def mvT (π:Nat->Nat):AV->AV
 |.tuple cs=>.tuple (cs.map (iL π))
 |a=>iL π a
def mvRow (π:Nat->Nat):AObj->AObj
 |.row sz xs=>.row sz (xs.map (iL π))
 |_=>.dead
def pickN (n:Nat) (ids:List Nat) (i:Nat):Nat:=n+ids.idxOf i
structure PickOk (n:Nat) (ids:List Nat) (h:Heap) (a0:AV) (a:AV) (t:Heap):Prop where
 nd:ids.Nodup
 lt:∀i,i∈ids->i<h.length
 t:t=ids.map λi=>mvRow (pickN n ids) (h.getD i .dead)
 o:∀i,i∈ids->pickO ids (h.getD i .dead)
 ok:pickA ids a0
 a:a=mvT (pickN n ids) a0
def Ko{ids}{π}{x}{cs}(e:sD ids x)(hx:x.cells=some cs):(iL π x).cells=some (cs.map (iL π))/\∀c,c∈cs->sD ids c:=by
 cases x with
 |p q=>
  cases q<;>simp[AV.cells]at hx<;>subst hx<;>refine⟨by simp[iL,AV.cells,gS],λc i=>?_⟩<;>simp at i<;>first|(subst i;trivial)|(obtain⟨_,_,rfl⟩:=i;trivial)
 |slice a b c d=>cases hx;exact⟨rfl,λc i=>by simp at i;subst i;exact e⟩
 |agg l=>exact e.elim
 |ptr a b c d=>exact e.elim
 |ref a b=>exact e.elim
 |func a b c=>exact e.elim
 |tuple l=>exact e.elim
 |undef=>exact e.elim
def M2{ids}{π}{c}(e:sD ids c):(iL π c).isCell=c.isCell:=by
 cases c<;>first|rfl|exact e.elim
def CW{f}{args}{pargs0 pargs}{h}(K)(ha:ib (aQ (λi=>!K i) h) args=some pargs0)(hle:vT pargs0 pargs){R}{a}{t}
  (hR:∀r h',R r h'->∃(ids:List Nat) (a0:AV),r=.ret a0/\PickOk h.length ids h' a0 a t) (hc:aw P f (pargs.map .p) [] R) :
  aw P f args h (λr h''=>r=.ret a/\h''=aQ K h++t):=by
 intro M0 m w cargs hS hargs;obtain⟨hl,hg⟩:=vD ha;have hkK:HOk P M0 ⟨cT K m,aQ K h,w⟩:=qM hS K;let M1:Nat->Prop:=λb=>M0 b\/Own (cT K m) b
 have hM1:∀b,M1 b->b<w.heap.size:=λb hb=>hb.elim (λhb=>(hS.m0 b hb).1) (λhb=>hkK.lt b hb);have ha':eD (Rep M1 ⟨[],[],w⟩) cargs (pargs.map .p):=by
  obtain⟨hle1,hle2⟩:=hle.get;refine⟨by rw[hargs.1,hl,hle1];simp,λi c hi=>?_⟩;rw[cX,bg]at hi;obtain⟨q',hq',rfl⟩:=hi;obtain⟨q,hq⟩:∃q,pargs0[i]?=some q:=⟨_,bL (by rw[hle1];exact(aC.1 hq').1)⟩
  obtain⟨x,h1,h2⟩:=hg i q hq;have:=PL.rep (hle2 i q q' hq hq') (nK (S:=⟨m,h,w⟩) hS K (hargs.2 i x h1) h2);exact RepP.less this λb hb=>by
   rcases hb with hb|hb
   .exact hb
   .simp[Own]at hb
 have:=hc M1 [] w cargs (pu hM1 hS.gl.1) ha';refine⟨this.1,this.2.mono λe w1 hh=>?_⟩;obtain⟨r,h1,m1,hR',hev,hk,hend⟩:=hh;obtain⟨ids,a0,rfl,hp⟩:=hR _ _ hR';have hend':∃v',e=.returned v'/\Rep M1 ⟨m1,h1,w1⟩ v' a0:=by
  cases e with
  |returned v'=>exact⟨v',rfl,hend⟩
  |panicked ch=>exact hend.elim
  |outgrown=>exact hend.elim
 obtain⟨v',rfl,hrep⟩:=hend';have hml:m.length=h.length:=hS.len;have hkm:(cT K m).length=h.length:=by simp[cT,hml]
 have hkh:(aQ K h).length=h.length:=by simp[aQ]
 have hm1l:m1.length=h1.length:=hk.len;obtain⟨m2,hm2⟩:∃m2,m2=cT K m++ids.map (λi=>m1.getD i none):=⟨_,rfl⟩
 have htl:t.length=ids.length:=by rw[hp.t];simp
 have hnew:∀b,Own m1 b->w.heap.size<=b:=λb hb=>by
  rcases hev.sub b hb with h|h
  .simp[Own]at h
  .exact h
 have hown2:∀b,Own m2 b->Own (cT K m) b\/Own m1 b:=λb hb=>by
  rw[hm2]at hb;rcases cn.1 hb with hb|hb
  .exact .inl hb
  .obtain⟨i,hi,he⟩:=cA.1 hb;exact .inr (aB (cI he))
 have hold:∀id,id<h.length->(aQ K h++t)[id]?=(aQ K h)[id]?/\m2.getD id none=(cT K m).getD id none:=λid hid=>
  ⟨bJ (by omega),by rw[hm2];exact fO (by omega)⟩
 have hpos:∀id,id∈ids->(aQ K h++t)[pickN h.length ids id]?=some (mvRow (pickN h.length ids) (h1.getD id .dead))/\m2.getD (pickN h.length ids id) none=m1.getD id none:=λid hid=>by
  have hx:ids.idxOf id<ids.length:=List.idxOf_lt_length_iff.2 hid;have hxe:ids[ids.idxOf id]?=some id:=by rw[bL hx,List.getElem_idxOf hx]
  constructor
  .rw[dB (by unfold pickN;omega),show pickN h.length ids id-(aQ K h).length=ids.idxOf id by unfold pickN;omega,hp.t,cX,hxe];rfl
  .rw[hm2,da,dB (by unfold pickN;omega),show pickN h.length ids id-(cT K m).length=ids.idxOf id by unfold pickN;omega,cX,hxe];rfl
 have hev2:Ev (aQ K h).length ⟨cT K m,aQ K h,w⟩ ⟨m2,aQ K h++t,w1⟩:=
  {fr:=⟨hev.fr.os,hev.fr.tape,hev.fr.output,hev.fr.size,λb hb _=>hev.fr.block b hb (by simp[Own]),hev.fr.shape⟩
   sub:=λb hb=>(hown2 b hb).imp id (hnew b)
   obj:=λid o hid ho=>by
    have hid':id<h.length:=by rw[hkh]at hid;exact hid
    refine⟨o,(hold id hid').1.trans ho,?_⟩;show ObjEv ((cT K m).getD id none) o (m2.getD id none) o;rw[(hold id hid').2]
    exact ObjEv.refl _ _ }
 have hav:∀b,Avoid M0 m2 b->Avoid M1 m1 b:=λb hb=>by
  rcases hb with hb|hb
  .exact .inl (.inl hb)
  .rcases hown2 b hb with hb|hb
   .exact .inl (.inr hb)
   .exact .inr hb
 have live:∀{id ver:Nat} {X:Nat->Option Nat->Prop},id∈ids->ei ⟨m1,h1,w1⟩ id ver X->ei ⟨m2,aQ K h++t,w1⟩ (pickN h.length ids id) ver X:=by
  intro id ver X hid hx;obtain⟨k1,k2⟩:=hpos id hid;rcases hx with hx|⟨sz,xs,hx,g1,g2⟩
  .refine .inl ?_;rw[da,show h1[id]?=some .dead from hx]at k1;exact k1
  .refine .inr ⟨sz,xs.map (iL (pickN h.length ids)),?_,by simpa using g1,λhe=>?_⟩
   .rw[da,show h1[id]?=some (.row sz xs) from hx]at k1;exact k1
   .show X sz (m2.getD _ none);rw[k2];exact g2 (by simpa using he)
 have rep0:∀{v:Value} {c:AV},sD ids c->dw M1 ⟨m1,h1,w1⟩ v c->dw M0 ⟨m2,aQ K h++t,w1⟩ v (iL (pickN h.length ids) c):=by
  intro v c hc hx
  cases c with
  |p q=>exact RepP.less (show RepP (Avoid M1 m1) w1 v q from hx) hav
  |slice id ver off len=>exact⟨hx.1,live (X:=sliceAt w1 v ver off len) hc hx.2⟩
  |ptr id ver i o=>exact hc.elim
  |ref q id=>exact hc.elim
  |undef=>exact hc.elim
  |agg cs=>exact hc.elim
  |func fn f c=>exact hc.elim
  |tuple vs=>exact hc.elim
 have repS:∀{v:Value} {c:AV},sD ids c->cb M1 ⟨m1,h1,w1⟩ v c->cb M0 ⟨m2,aQ K h++t,w1⟩ v (iL (pickN h.length ids) c):=by
  intro v c hc hx
  cases c with
  |p q=>exact rep0 (c:=.p q) hc hx
  |slice id ver off len=>exact rep0 (c:=.slice id ver off len) hc hx
  |ptr id ver i o=>exact hc.elim
  |ref q id=>exact hc.elim
  |undef=>exact hc.elim
  |agg cs=>exact hc.elim
  |func fn f c=>exact hc.elim
  |tuple vs=>exact hc.elim
 have repA:∀{v:Value} {c:AV},sD ids c->eE M1 ⟨m1,h1,w1⟩ v c->eE M0 ⟨m2,aQ K h++t,w1⟩ v (iL (pickN h.length ids) c):=by
  intro v c hc hx
  cases c with
  |p q=>exact rep0 (c:=.p q) hc hx
  |slice id ver off len=>exact rep0 (c:=.slice id ver off len) hc hx
  |ptr id ver i o=>exact hc.elim
  |ref q id=>exact hc.elim
  |undef=>exact hc.elim
  |agg cs=>exact hc.elim
  |func fn f c=>exact hc.elim
  |tuple vs=>exact hc.elim
 have hfin:Rep M0 ⟨m2,aQ K h++t,w1⟩ v' a:=by
  rw[hp.a];have h0:=hp.ok
  cases a0 with
  |tuple cs=>
   obtain⟨C,g1,g2,g3⟩:=hrep;refine⟨C,g1,by simpa using g2,λi c hi=>?_⟩;rw[cX,bg]at hi;obtain⟨c0,hc0,rfl⟩:=hi
   exact repA (h0 c0 (aB hc0)) (g3 i c0 hc0)
  |p q=>exact rep0 (c:=.p q) h0 hrep
  |slice id ver off len=>exact rep0 (c:=.slice id ver off len) h0 hrep
  |ptr id ver i o=>exact h0.elim
  |ref q id=>exact h0.elim
  |undef=>exact h0.elim
  |agg cs=>exact h0.elim
  |func fn f c=>exact h0.elim
 have hcat:∀{i b:Nat},m2[i]?=some (some b)->(i<h.length/\(cT K m)[i]?=some (some b))\/(h.length<=i/\∃j,ids[i-h.length]?=some j/\m1[j]?=some (some b)):=by
  intro i b hi;rw[hm2]at hi;rcases dO i h.length with hlt|hge
  .rw[bJ (by omega)]at hi;exact .inl ⟨hlt,hi⟩
  .rw[dB (by omega),hkm,cX,bg]at hi;obtain⟨j,hj,he⟩:=hi;exact .inr ⟨hge,j,hj,cI he⟩
 have hdis:∀b,Own (cT K m) b->Own m1 b->False:=λb g1 g2=>(hk.m0 b (.inr g1)).2 g2
 have hokf:HOk P M0 ⟨m2,aQ K h++t,w1⟩:=
  {len:=by show m2.length=_;rw[hm2];simp;omega
   lt:=λb hb=>by
    rcases hown2 b hb with hb|hb
    .exact iy (hkK.lt b hb) hev.fr.size
    .exact hk.lt b hb
   m0:=λb hb=>⟨(hk.m0 b (.inl hb)).1,λhn=>by
    rcases hown2 b hn with hn|hn
    .exact(hkK.m0 b hb).2 hn
    .exact(hk.m0 b (.inl hb)).2 hn⟩
   inj:=λi j b hi hj=>by
    rcases hcat hi with⟨_,g1⟩|⟨l1,x,g1,g2⟩<;>rcases hcat hj with⟨_,g3⟩|⟨l2,y,g3,g4⟩
    .exact hkK.inj i j b g1 g3
    .exact(hdis b (aB g1) (aB g4)).elim
    .exact(hdis b (aB g3) (aB g2)).elim
    .have hxy:=hk.inj x y b g2 g4;subst hxy;have e1:=(aC.1 g1)
     have e2:=(aC.1 g3)
     have:=(List.getElem_inj (h₀:=e1.1) (h₁:=e2.1) hp.nd).1 (e1.2.trans e2.2.symm);omega
   obj:=λid o ho=>by
    have ho':(aQ K h++t)[id]?=some o:=ho;show ObjOk P M0 _ (m2.getD id none) o;rcases dO id h.length with hlt|hge
    .rw[(hold id hlt).1]at ho';rw[(hold id hlt).2];exact(hkK.obj id o ho').keep hev2 λb hb=>hev.fr.block b (hkK.lt b (aB (cI hb))) (by simp[Own])
    .rw[dB (by omega),hkh,hp.t,cX,bg]at ho';obtain⟨j,hj,rfl⟩:=ho';have hjm:=aB hj;have hji:ids.idxOf j=id-h.length:=by
      have e1:=aC.1 hj;have e2:ids.idxOf j<ids.length:=List.idxOf_lt_length_iff.2 hjm;exact(List.getElem_inj (h₀:=e2) (h₁:=e1.1) hp.nd).1 ((List.getElem_idxOf e2).trans e1.2.symm)
     have hid:id=pickN h.length ids j:=by unfold pickN;omega
     rw[hid,(hpos j hjm).2];obtain⟨o,ho⟩:∃o,h1[j]?=some o:=⟨_,bL (hp.lt j hjm)⟩
     have hob:ObjOk P M1 ⟨m1,h1,w1⟩ (m1.getD j none) o:=hk.obj j o ho;have hpo:=hp.o j hjm;rw[show h1.getD j .dead=o by rw[da,ho];rfl]at hpo |-
     cases o with
     |row sz xs=>
      rcases hob with⟨g1,g2⟩|⟨b,T',C,g1,g2,g3,g4⟩
      .exact .inl ⟨g1,by rw[g2];rfl⟩
      .refine .inr ⟨b,T',C,g1,g2,by simpa using g3,λi x hx=>?_⟩;rw[cX,bg]at hx;obtain⟨x0,hx0,rfl⟩:=hx;obtain⟨cs,g5,g6,g7⟩:=g4 i x0 hx0;obtain⟨k1,k2⟩:=Ko (π:=pickN h.length ids) (hpo x0 (aB hx0)) g5;refine⟨cs.map (iL (pickN h.length ids)),k1,by simpa using g6,λl c hc=>?_⟩;rw[cX,bg]at hc;obtain⟨c0,hc0,rfl⟩:=hc;have hsc:=k2 c0 (aB hc0)
       exact⟨by rw[M2 hsc];exact(g7 l c0 hc0).1,repS hsc (g7 l c0 hc0).2⟩
     |dead=>exact trivial
     |strIter s p=>exact hpo.elim
     |mp es=>exact hpo.elim
     |memo f=>exact hpo.elim
     |loop n tmps ps assign body st pend=>exact hpo.elim
     |dblock=>exact hpo.elim
     |bld T' el x=>exact hpo.elim
   gl:=hev2.glob hkK.gl }
 exact⟨.ret a,_,m2,⟨rfl,rfl⟩,(s7 ⟨m,h,w⟩ K _).trans (by rw[hkh]at hev2;exact hev2),hokf,hfin⟩
def rG (r:List Int):AV:=.p (.slice 1 (r.map ay) false)
def mv (L:List (List Int)):List AV:=L.map rG
def fM (L:List (List Int)) (i kk n:Nat):List AV:=(mv L).set i (.slice kk n 0 n)
def lI (r:List Int):List AV:=r.map λn=>.p (ay n)
def mJ(L):(mv L).length=L.length:=by simp[mv]
def iF(L)(i e n):(fM L i e n).length=L.length:=by simp[fM,mv]
def DS(a c):mv a++mv c=mv (a++c):=by simp[mv]
def HK{a c}{i}(e n)(h:i<a.length):fM a i e n++mv c=fM (a++c) i e n:=by
 rw[fM,fM,<-DS,ue _ _ (by rw[mJ];exact h)]
def Fd{a c}{i}(e n)(h:a.length<=i):mv a++fM c (i-a.length) e n=fM (a++c) i e n:=by
 rw[fM,fM,<-DS,ra _ _ (by rw[mJ];exact h),mJ]
def Oz (L:List (List Int)) (i:Nat) (r:List Int) (rr:AEnd) (h':Heap):Prop:=
 ∃id kk,id≠kk/\rr=.ret (.slice id L.length 0 L.length)/\h'[id]?=some (.row 1 (fM L i kk r.length))/\h'[kk]?=some (.row 1 (lI r))
def Sb{n id e N m i}{h'}{L}{r}(l:id≠e)(v:h'[id]?=some (.row 1 (fM L i e m)))(u:h'[e]?=some (.row 1 (lI r))) :
  PickOk n [id,e] h' (.slice id N 0 N) (.slice n N 0 N) [.row 1 (fM L i (n+1) m),.row 1 (lI r)]:=by
 have A:h'.getD id .dead=.row 1 (fM L i e m):=by rw[da,v];rfl
 have z:h'.getD e .dead=.row 1 (lI r):=by rw[da,u];rfl
 have D:pickN n [id,e] id=n:=by simp[pickN]
 have C:pickN n [id,e] e=n+1:=by
  have:List.idxOf e [id,e]=1:=by rw[List.idxOf_cons,show (id==e)=false by simpa using l];simp
  rw[pickN,this]
 refine⟨by simp[l],?_,?_,?_,?_,?_⟩
 .intro i hi;simp only[br,dP,or_false]at hi;rcases hi with rfl|rfl
  .exact(aC.1 v).1
  .exact(aC.1 u).1
 .simp only[bf,bx,A,z,mvRow]
  congr 2
  .rw[fM,fM,we]
   congr 1
   .rw[mv,g8];rfl
   .rw[iL,C]
  .rw[lI,g8];rfl
 .intro j q;simp only[br,dP,or_false]at q;rcases q with rfl|rfl
  .rw[A];intro x hx;rcases BZ hx with hx|rfl
   .obtain⟨y,_,rfl⟩:=cA.1 hx;trivial
   .show e∈_;simp
  .rw[z];intro x hx;obtain⟨y,_,rfl⟩:=cA.1 hx;trivial
 .show id∈_;simp
 .show _=AV.slice (pickN n [id,e] id) N 0 N;rw[D]
def Qc{P}{f}{args}{pargs0 pargs}{h}(K)(y:ib (aQ (λi=>!K i) h) args=some pargs0)(e:vT pargs0 pargs){L}{i}{r}
  (v:aw P f (pargs.map .p) [] (Oz L i r)):aw P f args h (λl j=>l=.ret (.slice h.length L.length 0 L.length)/\j=aQ K h++[.row 1 (fM L i (h.length+1) r.length),.row 1 (lI r)]):=
 CW K y e (λl h' u=>by
  obtain⟨id,q,D,C,A,z⟩:=u
  exact⟨[id,q],_,C,Sb D A z⟩) v
def Dw{P}{H}{Q}{ops}{rest}{dst}{A}{f}{args}{pargs0 pargs}{L}{i}{r}{h'}
  (l:aw P f (pargs.map .p) [] (Oz L i r)) (K) (n) (q:ib (aQ (λi=>!K i) A.h) args=some pargs0) (e:vT pargs0 pargs) (j:A.h.length=n)
  (hh:aQ K A.h++[.row 1 (fM L i (n+1) r.length),.row 1 (lI r)]=h') (k:@WO ⟨P,H,ops,rest,Q⟩ (A.put dst (.slice n L.length 0 L.length) h')):@WF ⟨P,H,ops,rest,Q,dst⟩ A f args:=by
 subst j;subst hh;exact cw (Qc K q e l) k
def Ls(L)(i e n):List.take L.length (fM L i e n)=fM L i e n:=
 dt (by rw[iF];exact ba _)
def eU{L}{i e m n}(h:e<n):∀x,x∈fM L i e m->below n x:=by
 intro x hx;rcases BZ hx with hx|rfl
 .obtain⟨y,_,rfl⟩:=cA.1 hx;trivial
 .exact h
def iW{r}{n}:∀x,x∈lI r->below n x:=by
 intro x hx;obtain⟨y,_,rfl⟩:=cA.1 hx;trivial
def fp (k:Nat) (begin:List Int) (left:Int):List (List Int):=(eK k left).map (begin++·)
def Co(k)(begin)(left):fp (k+1) begin left=(iC 0 left).flatMap λn=>fp k (begin++[n]) (left-n):=by
 rw[fp,eK,List.map_flatMap]
 congr 1
 funext n;rw[fp,g8]
 congr 1
 funext t;simp
def Pj{k}{begin}{left}(h:left<=20):(fp k begin left).length<=21^k:=by
 rw[fp,dQ];exact wA k left h
def ID:∀(k) (begin) (left),0<=left->left<=20->k<=4->begin.length+k<=100->∀(i) (r),(fp k begin left)[i]?=some r ->
  aw Tryz.prog 334 [.p (.int .i64 ((k+1:Nat):Int)),.p (.slice 1 (begin.map ay) false),.p (.int .i64 left)] [] (Oz (fp k begin left) i r)
 |0,begin,left,h0,h1,Z,K,i,r,hi=>by
  have U:i=0/\r=begin++[left]:=by
   cases i with
   |zero=>simp[fp,eK]at hi;exact⟨rfl,hi.symm⟩
   |succ i=>simp[fp,eK]at hi
  obtain⟨rfl,rfl⟩:=U;refine au (ag func334 rfl) rfl ?_;have I:(0:Nat)<=ai:=cG _;have G:(1:Nat)<=ai:=by simp[ai]
  have hL:fp 0 begin left=[begin++[left]]:=by simp[fp,eK]
  rw[hL];refine zm ?_
  cases begin with
  |nil=>
   refine zo I G ?_
   exact⟨1,0,by decide,rfl,rfl,rfl⟩
  |cons c cs=>
   simp only[bc]at K;have y1:cs.length+1<=ai:=by simp[ai];omega
   have y2:cs.length+1+1<=ai:=by simp[ai];omega
   simp only[y1,y2,go_sem,simprocAttr]
   exact⟨1,0,by decide,rfl,by simp[fM,mv],by simp[lI,ay]⟩
 |k+1,begin,left,h0,h1,Z,K,i,r,hi=>by
  refine au (ag func334 rfl) rfl ?_;have Y:(((k+1+1:Nat):Int)==1)=false:=by simp<;>omega
  have I:(0:Nat)<=ai:=cG _;have G:(1:Nat)<=ai:=by simp[ai]
  have A:i64.wrap (((k+1+1:Nat):Int)-1)=((k+1:Nat):Int):=by rw[ct (by omega) (by simp[ai];omega)];omega
  have hp:21^k<=194481:=by
   have:=mX (n:=21) (by omega) (show k<=4 by omega);simpa using this
  refine zn Y ?_;refine bt 7 1 (by simp only[go_sem,simprocAttr]) (zm ?_)
  refine aG [0,1,2] (iC 0 left) (by rw[sY];omega) (τ:=List (List Int)×List AV) (λd_ rest q=>q.1=(d_.flatMap λn=>fp k (begin++[n]) (left-n))/\q.1.length<=d_.length*194481/\∀x,x∈q.2->below 4 x)
   (λd_ q=>[(8,.p (.int .i64 d_.length)),(7,.slice 0 q.1.length 0 q.1.length)]) (λ_ q=>if i<q.1.length then [.row 1 (fM q.1 i 3 r.length),.dead,.row 1 q.2,.row 1 (lI r)] else [.row 1 (mv q.1)]) ([],[]) ⟨rfl,by simp,λx hx=>by cases hx⟩ ?_ ?_ ?_
  .rw[if_neg (by simp)];simp[bS,mv,bx,go_sem]
  .rintro⟨e,E⟩ ⟨F,_⟩
   have N:¬(((iC 0 left).length:Nat):Int)<=left:=by rw[sY];omega
   rw[<-Co]at F;dsimp only at F |-;subst F;rw[if_pos (aC.1 hi).1];refine zn N ?_;exact⟨0,3,by decide,rfl,rfl,rfl⟩
  .rintro d_ y rest ⟨e,E⟩ D ⟨F,e3,L⟩ hx N v
   dsimp only at F e3 L |-;obtain⟨X,a0⟩:=DK hx;rw[Mv]at X;have z:((d_.length:Nat):Int)<=left:=by omega
   have hw:i64.wrap (left-((d_.length:Nat):Int))=left-((d_.length:Nat):Int):=ah;have a1:=Pj (k:=k) (begin:=begin++[(d_.length:Int)]) (left:=left-(d_.length:Int)) (by omega);have V:d_.length<=20:=by omega
   have j:e.length+(fp k (begin++[(d_.length:Int)]) (left-(d_.length:Int))).length<=ai:=by
    have:d_.length*194481<=20*194481:=gp _ V;simp[ai];omega
   have J:=BE k (begin++[(d_.length:Int)]) (left-(d_.length:Int)) false (by omega) (by omega) (by omega) (by simp;omega);have S:=ID k (begin++[(d_.length:Int)]) (left-(d_.length:Int)) (by omega) (by omega) (by omega) (by simp;omega);have C:e++fp k (begin++[(d_.length:Int)]) (left-(d_.length:Int))=((d_++[y]).flatMap λn=>fp k (begin++[n]) (left-n)):=by rw[F,X];simp
   have l:(e++fp k (begin++[(d_.length:Int)]) (left-(d_.length:Int))).length<=(d_++[y]).length*194481:=by simp;omega
   rw[show Cn ((eK k (left-(d_.length:Int))).map ((begin++[(d_.length:Int)])++·))=.slice 1 ((fp k (begin++[(d_.length:Int)]) (left-(d_.length:Int))).map λr=>.slice 1 (r.map ay) false) false from rfl]at J;by_cases c1:i<e.length
   .rw[if_pos c1];generalize fp k (begin++[(d_.length:Int)]) (left-(d_.length:Int))=R at *
    have u:fM e i 3 r.length++(R.map λx=>AV.p (.slice 1 (x.map ay) false))=fM (e++R) i 3 r.length:=HK 3 r.length c1
    cases begin with
    |nil=>
     refine t_ z I G A hw ?_;refine te J 4 1 [ay d_.length] ?_ ?_ ?_ ?_
     .simp[go_sem]
     .simp[go_sem]
     .simp[go_sem]
     refine zo j @iF ?_;refine am D (e++R,E) ⟨C,l,L⟩ ?_;rw[if_pos (by simp;omega)];simp only[v,ak,g8,gS,u,go_sem,simprocAttr]
     exact⟨eU (by decide),L,iW⟩
    |cons c cs=>
     simp only[bc]at K;have y1:cs.length+1<=ai:=by simp[ai];omega
     have y2:cs.length+1+1<=ai:=by simp[ai];omega
     simp only[z,y1,y2,A,hw,go_sem,simprocAttr];refine te J 4 1 ((c::cs++[(d_.length:Int)]).map ay) ?_ ?_ ?_ ?_
     .simp[aS,go_sem]
     .simp[go_sem]
     .simp only[aS,ak,go_sem,simprocAttr]
     refine zo j @iF ?_;refine am D (e++R,E) ⟨C,l,L⟩ ?_;rw[if_pos (by simp;omega)];simp only[v,ak,g8,gS,u,go_sem,simprocAttr];exact⟨eU (by decide),L,iW⟩
   rw[if_neg c1];by_cases c2:i<e.length+(fp k (begin++[(d_.length:Int)]) (left-(d_.length:Int))).length
   .have T:(fp k (begin++[(d_.length:Int)]) (left-(d_.length:Int)))[i-e.length]?=some r:=by
     have O:fp (k+1) begin left=e++(fp k (begin++[(d_.length:Int)]) (left-(d_.length:Int))++(rest.flatMap λn=>fp k (begin++[n]) (left-n))):=by
      rw[Co,D,<-dD,C];simp
     rw[O,dB (by omega),bJ (by omega)]at hi;exact hi
    have M:=S (i-e.length) r T;generalize fp k (begin++[(d_.length:Int)]) (left-(d_.length:Int))=R at *
    have u:mv e++fM R (i-e.length) 3 r.length=fM (e++R) i 3 r.length:=Fd 3 r.length (by omega)
    cases begin with
    |nil=>
     refine t_ z I G A hw ?_;refine Dw (pargs0:=[.int .i64 ((k+1:Nat):Int),.slice 1 (List.map ay ([]++[(d_.length:Int)])) false,.int .i64 (left-(d_.length:Int))]) (pargs:=[.int .i64 ((k+1:Nat):Int),.slice 1 (List.map ay ([]++[(d_.length:Int)])) false,.int .i64 (left-(d_.length:Int))]) M (λi=>i==1) 2 ?_ ⟨.refl _,.refl _,.refl _,trivial⟩ rfl rfl ?_
     .simp[aQ,List.mapIdx_cons,List.mapIdx_nil,go_sem]
     simp only[aQ,List.mapIdx_cons,List.mapIdx_nil,j,mJ,iF,Ls,ba,go_sem,simprocAttr];refine am D (e++R,fM R (i-e.length) 3 r.length) ⟨C,l,eU (by decide)⟩ ?_;rw[if_pos (by simp;omega)];simp only[v,ak,u,go_sem,simprocAttr]
     exact⟨eU (by decide),eU (by decide),iW⟩
    |cons c cs=>
     simp only[bc]at K;have y1:cs.length+1<=ai:=by simp[ai];omega
     have y2:cs.length+1+1<=ai:=by simp[ai];omega
     simp only[z,y1,y2,A,hw,go_sem,simprocAttr];refine Dw (pargs0:=[.int .i64 ((k+1:Nat):Int),.slice 1 (List.map ay ((c::cs)++[(d_.length:Int)])) false,.int .i64 (left-(d_.length:Int))]) (pargs:=[.int .i64 ((k+1:Nat):Int),.slice 1 (List.map ay ((c::cs)++[(d_.length:Int)])) false,.int .i64 (left-(d_.length:Int))]) M (λi=>i==1) 2 ?_ ⟨.refl _,.refl _,.refl _,trivial⟩ rfl rfl ?_
     .simp only[aQ,List.mapIdx_cons,List.mapIdx_nil,aS,ak,go_sem,simprocAttr]
     simp only[aQ,List.mapIdx_cons,List.mapIdx_nil,j,mJ,iF,Ls,ba,go_sem,simprocAttr];refine am D (e++R,fM R (i-e.length) 3 r.length) ⟨C,l,eU (by decide)⟩ ?_;rw[if_pos (by simp;omega)];simp only[v,ak,u,go_sem,simprocAttr];exact⟨eU (by decide),eU (by decide),iW⟩
   .generalize fp k (begin++[(d_.length:Int)]) (left-(d_.length:Int))=R at *
    cases begin with
    |nil=>
     refine t_ z I G A hw ?_;refine te J 1 1 [ay d_.length] ?_ ?_ ?_ ?_
     .simp[go_sem]
     .simp[go_sem]
     .simp[go_sem]
     refine zo j @mJ ?_;refine am D (e++R,[]) ⟨C,l,λx hx=>by cases hx⟩ ?_;rw[if_neg (by simp;omega)];simp only[v,ak,mv,rG,aS,g8,gS,go_sem,simprocAttr]
     rfl
    |cons c cs=>
     simp only[bc]at K;have y1:cs.length+1<=ai:=by simp[ai];omega
     have y2:cs.length+1+1<=ai:=by simp[ai];omega
     simp only[z,y1,y2,A,hw,go_sem,simprocAttr];refine te J 1 1 ((c::cs++[(d_.length:Int)]).map ay) ?_ ?_ ?_ ?_
     .simp[aS,go_sem]
     .simp[go_sem]
     .simp only[aS,ak,go_sem,simprocAttr]
     refine zo j @mJ ?_;refine am D (e++R,[]) ⟨C,l,λx hx=>by cases hx⟩ ?_;rw[if_neg (by simp;omega)];simp only[v,ak,mv,rG,aS,g8,gS,go_sem,simprocAttr];rfl
def Fb(k)(left):fp k [] left=eK k left:=by simp[fp]
def U6{L}{j:Nat}{r}(h:L[j]?=some r):(mv L)[j]?=some (rG r):=by rw[mv,cX,h];rfl
def zO{L}{i j l n}{r}(h:L[j]?=some r):(fM L i l n)[j]?=some (if j=i then .slice l n 0 n else rG r):=by
 by_cases e:j=i
 .subst e;rw[if_pos rfl,fM,jp (by rw[mJ];exact(aC.1 h).1)]
 .rw[if_neg e,fM,eS (Ne.symm e)];exact U6 h
def Eg{α:Type}(p):∀(l:List α) (i) (r),(l.filter p)[i]?=some r->∃j,l[j]?=some r/\p r=true/\((l.take j).filter p).length=i
 |[],i,r,h=>by simp at h
 |x::l,i,r,h=>by
  rw[List.filter_cons]at h
  cases e:p x with
  |true=>
   rw[e,if_pos rfl]at h
   cases i with
   |zero=>cases h;exact⟨0,rfl,e,rfl⟩
   |succ i=>
    obtain⟨j,v,u,q⟩:=Eg p l i r (by simpa using h)
    exact⟨j+1,by simpa using v,u,by rw[List.take_succ_cons,List.filter_cons,e,if_pos rfl,bc,q]⟩
  |false=>
   rw[e,if_neg (by simp)]at h;obtain⟨j,v,u,q⟩:=Eg p l i r h;exact⟨j+1,by simpa using v,u,by rw[List.take_succ_cons,List.filter_cons,e,if_neg (by simp),q]⟩
def IH(n)(h)(r):aE (bi n h) (lI r)=some (r.map ay):=aW (bH n h) ay r
def zN(r):(lI r).length=r.length:=by simp[lI]
def KH(l)(w)(S:BdWaxesOk l)(hw:WishOk l.length w)(i)(r)(hi:(fits l w)[i]?=some r):aw Tryz.prog 272 [.p (dg l),.p w.pv] [] (Oz (fits l w) i r):=by
 have a3:=S.len;have a4:=wz S;have hk:((l.length:Nat):Int)=((l.length-1+1:Nat):Int):=by omega
 obtain⟨j,T,I,Y⟩:=Eg _ _ _ _ hi;refine au (ag func272 rfl) rfl (zm ?_);have hR:=ID (l.length-1) [] 20 (by omega) (by omega) (by omega) (by simp;omega) j r (by rw[Fb];exact T);rw[Fb,<-hk]at hR;refine Dw (pargs0:=[.int .i64 l.length,.nilslice,.int .i64 20]) (pargs:=[.int .i64 l.length,.slice 1 [] false,.int .i64 20]) hR (λ_=>false) 1 rfl ⟨.refl _,.nil _,.refl _,trivial⟩ rfl rfl ?_;simp only[aQ,List.mapIdx_cons,List.mapIdx_nil,go_sem,simprocAttr];refine bt 6 1 (by simp only[go_sem,simprocAttr]) (zm ?_);generalize M:eK (l.length-1) 20=R at *
 refine aG [0,3,5] R (by omega) (τ:=List (List Int)) (λd_ rest e=>e=d_.filter (λr=>gb l w r==0)/\e.length<=d_.length/\(j<d_.length->i<e.length))
  (λd_ e=>[(7,.p (.int .i64 d_.length)),(6,.slice 3 e.length 0 e.length)]) (λd e=>[.row 5 [.p w.pv],.row 1 (fM R j 2 r.length),.row 1 (lI r),.row 1 (if j<d.length then fM e i 2 r.length else mv e)]) [] ⟨rfl,by simp,λh=>by simp at h⟩ ?_ ?_ ?_
 .simp only[bS,mv,bx,go_sem,simprocAttr];exact⟨rfl,eU (by decide),iW,λx hx=>by simp at hx⟩
 .rintro e ⟨U,_⟩
  have N:fits l w=e:=by rw[fits,M,U]
  rw[if_pos (aC.1 T).1,N];refine zn @iF ?_;exact⟨3,2,by decide,rfl,rfl,rfl⟩
 .rintro d_ q rest e D ⟨U,e3,V⟩ hx z A
  have a0:=congrArg List.length D;rw[ak,bc]at a0;have G:e.length+1<=ai:=by simp[ai];omega
  have F:=Bc S (by rw[M,D];simp:q∈eK (l.length-1) 20);have hW:=NO false S hw F.len F.rng;have Z:R.take d_.length=d_:=by rw[D,eX rfl]
  have v:(d_++[q]).filter (λr=>gb l w r==0)=e++if(gb l w q==0)=true then [q] else []:=by rw[Mr,<-U,List.filter_cons];rfl
  by_cases J:d_.length=j
  .subst J;rw[hx]at T;cases T;rw[Z,<-U]at Y;rw[if_pos I]at v;have C:(fM R d_.length 2 r.length)[d_.length]?=some (.slice 2 r.length 0 r.length):=by rw[zO hx,if_pos rfl]
   rw[if_neg (by omega)];refine zp z @iF C ?_;refine pC hW ?_ (.int _ _) ?_
   .simp[IH,zN,go_sem]
   refine zn I ?_;refine t_ z @iF C @mJ G ?_;refine am D (e++[r]) ⟨v.symm,by simp;omega,λ_=>by simp;omega⟩ ?_;rw[if_pos (by simp)];have O:mv e++[AV.slice 2 r.length 0 r.length]=fM (e++[r]) i 2 r.length:=by
    rw[<-Fd 2 r.length (by omega:e.length<=i)]
    congr 1
    rw[show i-e.length=0 by omega];rfl
   simp only[A,O,ak,aK,go_sem,simprocAttr];exact⟨eU (by decide),iW,eU (by decide)⟩
  .have C:(fM R j 2 r.length)[d_.length]?=some (rG q):=by rw[zO hx,if_neg J]
   obtain⟨X,E⟩:∃X,X=if j<d_.length then fM e i 2 r.length else mv e:=⟨_,rfl⟩
   have a2:X.length=e.length:=by
    rw[E];split
    .rw[iF]
    .rw[mJ]
   have K:∀x,x∈X->below 4 x:=by
    rw[E];split
    .exact eU (by decide)
    .intro x hx;obtain⟨y,_,rfl⟩:=cA.1 hx;trivial
   have L:X++[rG q]=if j<(d_++[q]).length then fM (e++[q]) i 2 r.length else mv (e++[q]):=by
    rw[ak,aK,E];by_cases u:j<d_.length
    .rw[if_pos u,if_pos (by omega)];exact HK (c:=[q]) 2 r.length (V u)
    .rw[if_neg u,if_neg (by omega)];exact DS e [q]
   have a1:X=if j<(d_++[q]).length then fM e i 2 r.length else mv e:=by
    rw[ak,aK,E];by_cases u:j<d_.length
    .rw[if_pos u,if_pos (by omega)]
    .rw[if_neg u,if_neg (by omega)]
   rw[<-E];rw[rG]at C L;refine zp z @iF C ?_;refine aj hW rfl (zm ?_);cases hb:(gb l w q==0)
   .rw[hb,if_neg (by simp),bI]at v;refine zm ?_;refine am D e ⟨v.symm,by simp;omega,λh=>V (by simp at h;omega)⟩ ?_;rw[<-a1];refine zn A ?_;exact⟨eU (by decide),iW,K⟩
   .rw[hb,if_pos rfl]at v;refine zm ?_;refine t_ z @iF C a2 G ?_;refine am D (e++[q]) ⟨v.symm,by simp;omega,λh=>by have:=V (by simp at h;omega);simp;omega⟩ ?_;rw[<-L];simp only[A,ak,aK,go_sem,simprocAttr];exact⟨eU (by decide),iW,K⟩
def Jt (p:List Int->Int) (q:Nat×List Int) (n:Nat) (r:List Int):Nat×List Int:=if p r<p q.2 then(n,r) else q
def kZ (p:List Int->Int) (q:Nat×List Int):Nat->List (List Int)->Nat×List Int
 |_,[]=>q
 |n,r::t=>kZ p (Jt p q n r) (n+1) t
def F6(p):∀(t) (q) (n) (r),kZ p q n (t++[r])=Jt p (kZ p q n t) (n+t.length) r
 |[],q,n,r=>rfl
 |x::t,q,n,r=>by
  rw[ga,kZ,F6 p t,kZ,bc,show n+1+t.length=n+(t.length+1) by omega]
def Mc(p):∀(t) (q) (n),cE p (some q.2) t=some (kZ p q n t).2
 |[],q,n=>rfl
 |r::t,q,n=>by
  rw[cE,kZ,<-Mc p t];unfold Jt;split<;>rfl
def EF(p):∀(t all:List (List Int)) (q) (n),all[q.1]?=some q.2->(∀j r,t[j]?=some r->all[n+j]?=some r)->all[(kZ p q n t).1]?=some (kZ p q n t).2
 |[],all,q,n,h,_=>h
 |r::t,all,q,n,h,e=>by
  rw[kZ];refine EF p t all _ _ ?_ λj i l=>?_
  .unfold Jt;split
   .exact e 0 r rfl
   .exact h
  .have:=e (j+1) i (by simpa using l);rwa [show n+(j+1)=n+1+j by omega]at this
def IC(l)(w)(h0:(aJ l w).2.2=0):aw Tryz.prog 203 [.p (dg l),.p w.pv] []
  (λrr h'=>∃kk,rr=.ret (.tuple [.slice kk (aJ l w).1.length 0 (aJ l w).1.length,.p (.int .i64 (aJ l w).2.1),.p (.int .i64 0)])/\h'[kk]?=some (.row 1 (lI (aJ l w).1))):=by
 have R:fe l w=0:=by
  unfold aJ at h0;split at h0
  .assumption
  .exact h0
 obtain⟨hl,hw⟩:=ug R;have b8:=hl.len;have I:aJ l w=match cE (bo l) none (fits l w) with|none=>([],0,9)|some b=>(b,bo l b,0):=by rw[aJ,if_pos R];rfl
 have a8:=C7 w hl;have C:∀r,r∈fits l w->RecOk l.length r:=λr hr=>(tN hl hr).1;have hF:=KH l w hl hw;refine au (ag func203 rfl) rfl (zm ?_)
 (first|refine aa (xm l w) rfl ?_|refine aj (xm l w) rfl ?_)
 have a6:(fe l w != 0)=false:=by simpa using R
 refine zn a6 ?_;generalize fits l w=all at *
 cases all with
 |nil=>rw[I]at h0;cases h0
 |cons x t=>
  obtain⟨q,hq⟩:∃q,kZ (bo l) (0,x) 1 t=q:=⟨_,rfl⟩
  have T:=Mc (bo l) t (0,x) 1;have z:=EF (bo l) t (x::t) (0,x) 1 rfl λj r hj=>by rw[Nat.add_comm];simpa using hj
  rw[hq]at T z;obtain⟨i,r⟩:=q;dsimp only at T z;have a4:aJ l w=(r,bo l r,0):=by rw[I,cE,T]
  rw[a4];obtain⟨all,A⟩:∃all,x::t=all:=⟨_,rfl⟩
  rw[A]at z a8 C hF;refine Dw (pargs0:=[dg l,w.pv]) (pargs:=[dg l,w.pv]) (hF i r z) (λ_=>false) 1 rfl ⟨.refl _,.refl _,trivial⟩ rfl rfl ?_;have b5:all.length=t.length+1:=by rw[<-A];rfl
  have a9:(((all.length:Nat):Int)==0)=false:=by rw[beq_eq_false_iff_ne];omega
  have a3:all[0]?=some x:=by rw[<-A];rfl
  have b3:(0:Int)<(all.length:Int):=by omega
  obtain⟨v0,O⟩:∃v,v=if 0=i then AV.slice 2 r.length 0 r.length else rG x:=⟨_,rfl⟩
  have b0:(fM all i 2 r.length)[0]?=some v0:=by rw[zO a3,O]
  have N:∀(j:Nat) (y:List Int),(if j=i then AV.slice 2 r.length 0 r.length else rG y).cells=some [if j=i then AV.slice 2 r.length 0 r.length else rG y]:=λj y=>by split<;>rfl
  have L:v0.cells=some [v0]:=by rw[O];exact N 0 x
  simp only[AV.cells,PV.cells]at L;simp only[aQ,List.mapIdx_cons,List.mapIdx_nil,a9,iF,b3,b0,L,go_sem,simprocAttr]
  have X:∀(v:AV) (y:List Int),(v=rG y\/(v=.slice 2 r.length 0 r.length/\y=r))->RecOk l.length y->aw Tryz.prog 273 [.p (dg l),v] [.row 5 [.p w.pv],.row 1 (fM all i 2 r.length),.row 1 (lI r)]
    (λrr h'=>rr=.ret (.p (.int .i64 (bo l y)))/\h'=[.row 5 [.p w.pv],.row 1 (fM all i 2 r.length),.row 1 (lI r)]):=by
   intro v y Z hy;have hP:=mh false false hl hy.len hy.rng;refine yJ hP ?_ (.int _ _);rcases Z with rfl|⟨rfl,rfl⟩
   .rfl
   .simp[IH,zN,go_sem]
  obtain⟨val,u⟩:∃val:List (List Int)->AV,val=λd=>if(kZ (bo l) (0,x) 1 d).1=i then AV.slice 2 r.length 0 r.length else rG (kZ (bo l) (0,x) 1 d).2:=⟨_,rfl⟩
  have b4:∀d,(val d).cells=some [val d]:=λd=>by rw[u];exact N _ _
  have Y:v0=val []:=by rw[O,u];rfl
  have J:∀d e,t=d++e->all[(kZ (bo l) (0,x) 1 d).1]?=some (kZ (bo l) (0,x) 1 d).2:=λd e S=>EF (bo l) d all (0,x) 1 a3 λj y hj=>by
   rw[<-A,Nat.add_comm,AU,S,bJ (aC.1 hj).1];exact hj
  have G:∀d e,t=d++e->val d=rG (kZ (bo l) (0,x) 1 d).2\/(val d=.slice 2 r.length 0 r.length/\(kZ (bo l) (0,x) 1 d).2=r):=λd e S=>by
   rw[u];by_cases hi:(kZ (bo l) (0,x) 1 d).1=i
   .have:=J d e S;rw[hi,z]at this;simp only[hi,if_true];exact .inr ⟨trivial,(kw this).symm⟩
   .simp only[hi,if_false];exact .inl trivial
  have F:∀(v:AV) (y:List Int),(v=rG y\/(v=.slice 2 r.length 0 r.length/\y=r))->below 3 v:=λv y h=>by
   rcases h with rfl|⟨rfl,_⟩
   .exact trivial
   .show 2<3;decide
  rw[Y];refine aG [0,8] t (by omega) (τ:=Unit) (λ_ _ _=>True) (λd _=>[(10,.p (.int .i64 ((d.length+1:Nat):Int))),(9,val d)]) (λ_ _=>[.row 5 [.p w.pv],.row 1 (fM all i 2 r.length),.row 1 (lI r)]) () trivial ?_ ?_ ?_
  .simp only[bS,go_sem,simprocAttr];exact⟨F _ _ (G [] t rfl),eU (by decide),iW⟩
  .intro _ _;have K:¬(((t.length+1:Nat):Int)<(all.length:Int)):=by omega
   have a7:val t=.slice 2 r.length 0 r.length:=by rw[u];simp only[hq,if_true]
   have hok:=C r (aB z);refine zp K @iF a7 ?_;refine cw (X _ r (.inr ⟨rfl,rfl⟩) hok) (zm ?_);exact⟨2,rfl,rfl⟩
  .intro d y e _ e1 _ hx b6 b7;have b1:=congrArg List.length e1;rw[ak,bc]at b1;have K:(((d.length+1:Nat):Int)<(all.length:Int)):=by omega
   have V:all[d.length+1]?=some y:=by rw[<-A,AU];exact hx
   obtain⟨v,Z⟩:∃v,v=if d.length+1=i then AV.slice 2 r.length 0 r.length else rG y:=⟨_,rfl⟩
   have hg:(fM all i 2 r.length)[d.length+1]?=some v:=by rw[zO V,Z]
   have E:v.cells=some [v]:=by rw[Z];exact N _ y
   simp only[AV.cells,PV.cells]at E;have a1:v=rG y\/(v=.slice 2 r.length 0 r.length/\y=r):=by
    rw[Z];split
    .rename_i h;rw[<-h,V]at z;exact .inr ⟨rfl,kw z⟩
    .exact .inl rfl
   have a5:=C y (aB V);have b2:=C _ (aB (J d (y::e) e1));have D:=F6 (bo l) d (0,x) 1 y;rw[Jt]at D;have a0:i64.wrap (((d.length+1:Nat):Int)+1)=(((d++[y]).length+1:Nat):Int):=by rw[ah];simp
   have a2:=G d (y::e) e1;refine s_ K @iF hg E ?_;refine cw (X v y a1 a5) (zm ?_);refine cw (X (val d) _ a2 b2) (zm ?_);cases hc:decide (bo l y<bo l (kZ (bo l) (0,x) 1 d).2)
   .have U:¬bo l y<bo l (kZ (bo l) (0,x) 1 d).2:=by simpa using hc
    rw[if_neg U]at D;have M:val (d++[y])=val d:=by rw[u];simp only[D]
    refine zm ?_;refine am (Inv:=λ_ _ _=>True) e1 () trivial (zo a0 M ?_);exact⟨F _ _ a2,eU (by decide),iW⟩
   .have U:bo l y<bo l (kZ (bo l) (0,x) 1 d).2:=by simpa using hc
    rw[if_pos U]at D;have M:val (d++[y])=v:=by rw[u,Z];simp only[D,Nat.add_comm 1 d.length]
    refine s_ K @iF hg E ?_;refine am (Inv:=λ_ _ _=>True) e1 () trivial (zo a0 M ?_);exact⟨F _ _ a1,eU (by decide),iW⟩
end Abs
end Go.Proofs.YtgafommgcfhkkaaGreatDoor
