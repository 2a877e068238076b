/- CONTRACTS of functions and laws. No conditions but those in the heads. -/
import Derived.Test.YtgafommgcfhkkaaGreatDoorChMustX
set_option linter.all false
set_option maxHeartbeats 4000000
open Go.Proofs.Tryz renaming prog->TP
open Go.Proofs.Tryz
open Go.IntKind (i64 u64)
namespace Go.Proofs.YtgafommgcfhkkaaGreatDoor
namespace Abs
namespace Ch
set_option maxRecDepth 4000
def YH(n)(z:1<=n)(y:n<=5):af TP 357 [.int .u64 1,.int .u64 n] (.tuple [.int .u64 0,.int .u64 n]):=by
 have v:n=1\/n=2\/n=3\/n=4\/n=5:=by omega
 have u:gG .shr .u64 0 32=some (.int .u64 0):=rfl;have q:gG .shr .u64 1 32=some (.int .u64 0):=rfl;have l:u64.wrap 0=0:=rfl;have j:u64.wrap 1=1:=rfl;rcases v with rfl|rfl|rfl|rfl|rfl
 .have i:gG .shr .u64 1 32=some (.int .u64 0):=rfl;have e:u64.wrap 1=1:=rfl;refine ae (ag func357 rfl) rfl ?_;simp[q,u,l,j,DE,Hd,AY,uJ,go_sem]
 .have i:gG .shr .u64 2 32=some (.int .u64 0):=rfl;have e:u64.wrap 2=2:=rfl;refine ae (ag func357 rfl) rfl ?_;simp[q,u,i,l,j,e,DE,Hd,AY,uJ,go_sem]
 .have i:gG .shr .u64 3 32=some (.int .u64 0):=rfl;have e:u64.wrap 3=3:=rfl;refine ae (ag func357 rfl) rfl ?_;simp[q,u,i,l,j,e,DE,Hd,AY,uJ,go_sem]
 .have i:gG .shr .u64 4 32=some (.int .u64 0):=rfl;have e:u64.wrap 4=4:=rfl;refine ae (ag func357 rfl) rfl ?_;simp[q,u,i,l,j,e,DE,Hd,AY,uJ,go_sem]
 .have i:gG .shr .u64 5 32=some (.int .u64 0):=rfl;have e:u64.wrap 5=5:=rfl;refine ae (ag func357 rfl) rfl ?_;simp[q,u,i,l,j,e,DE,Hd,AY,uJ,go_sem]
def Jh(n)(i:1<=n)(e:n<=5):af TP 317 [.int .u64 1,.int .u64 n] (.tuple [.int .u64 0,.int .u64 n]):=by
 refine ae (ag func317 rfl) rfl (zm ?_);refine aa (YH n i e) rfl ?_;simp[go_sem]
def ER:Hints:=dx [(38,.low),(45,.app 41),(5000001,.nop)]
def Cw:cu ER f253=true:=by kernel_rfl
def Ii:Nat.min 1 1=1/\Nat.min 1 2=1/\Nat.min 1 3=1/\Nat.min 1 4=1/\Nat.min 2 1=1/\Nat.min 2 2=2/\Nat.min 2 3=2/\Nat.min 4 1=1:=by decide
def iw:i64.wrap 1=1/\i64.wrap (1+1)=2/\i64.wrap (2+1)=3/\i64.wrap (2+2)=4/\i64.wrap (4+1)=5:=by decide
def mU:PV:=.agg [.int .i64 0,.int .i64 20]
def Sk:il TP 253 [.slice 2 [.agg [.int .i64 0,.int .i64 20]] true,.int .i64 1] (.slice 2 (List.replicate 1 mU) false):=by
 obtain⟨z,y,v,u,q,l,j,i⟩:=Ii;obtain⟨F,E,D,C,A⟩:=iw;refine e9 (dv (by kernel_rfl) rfl Cw) rfl ?_;simp only[ER,go_sem,simprocAttr];refine aa (Jh 1 (by decide) (by decide)) rfl ?_;have e:(1:Int)<=(ai:Int):=by decide
 refine zn e ?_;refine bw ?_;simp only[mU,go_sem,simprocAttr]
 trace_state
def Sj:il TP 253 [.slice 2 [.agg [.int .i64 0,.int .i64 20]] true,.int .i64 2] (.slice 2 (List.replicate 2 mU) false):=by
 obtain⟨i,z,y,v,u,q,l,j⟩:=Ii;obtain⟨F,E,D,C,A⟩:=iw;refine e9 (dv (by kernel_rfl) rfl Cw) rfl ?_;simp only[ER,go_sem,simprocAttr];refine aa (Jh 2 (by decide) (by decide)) rfl ?_;have e:(2:Int)<=(ai:Int):=by decide
 refine zn e ?_;refine bw (zn @aD ?_);refine And.intro (.inr ⟨0,_,rfl,rfl⟩) (zn i ?_);refine bw ?_;simp[mU,go_sem]
def Si:il TP 253 [.slice 2 [.agg [.int .i64 0,.int .i64 20]] true,.int .i64 3] (.slice 2 (List.replicate 3 mU) false):=by
 obtain⟨z,q,l,y,j,i,v,u⟩:=Ii;obtain⟨F,E,D,C,A⟩:=iw;refine e9 (dv (by kernel_rfl) rfl Cw) rfl ?_;simp only[ER,go_sem,simprocAttr];refine aa (Jh 3 (by decide) (by decide)) rfl ?_;have e:(3:Int)<=(ai:Int):=by decide
 refine zn e ?_;refine bw (zn @aD ?_);refine And.intro (.inr ⟨0,_,rfl,rfl⟩) (zo q l ?_);refine bw (zn @aD ?_);refine And.intro (.inr ⟨0,_,rfl,rfl⟩) (zo j i ?_);refine bw ?_;simp[mU,go_sem]
def Sh:il TP 253 [.slice 2 [.agg [.int .i64 0,.int .i64 20]] true,.int .i64 4] (.slice 2 (List.replicate 4 mU) false):=by
 obtain⟨z,q,l,y,j,i,v,u⟩:=Ii;obtain⟨F,E,D,C,A⟩:=iw;refine e9 (dv (by kernel_rfl) rfl Cw) rfl ?_;simp only[ER,go_sem,simprocAttr];refine aa (Jh 4 (by decide) (by decide)) rfl ?_;have e:(4:Int)<=(ai:Int):=by decide
 refine zn e ?_;refine bw (zn @aD ?_);refine And.intro (.inr ⟨0,_,rfl,rfl⟩) (zo q l ?_);refine bw (zn @aD ?_);refine And.intro (.inr ⟨0,_,rfl,rfl⟩) (zo j i ?_);refine bw ?_;simp[mU,go_sem]
def Sg:il TP 253 [.slice 2 [.agg [.int .i64 0,.int .i64 20]] true,.int .i64 5] (.slice 2 (List.replicate 5 mU) false):=by
 obtain⟨z,y,v,l,u,q,j,i⟩:=Ii;obtain⟨F,E,D,C,A⟩:=iw;refine e9 (dv (by kernel_rfl) rfl Cw) rfl ?_;simp only[ER,go_sem,simprocAttr];refine aa (Jh 5 (by decide) (by decide)) rfl ?_;have e:(5:Int)<=(ai:Int):=by decide
 refine zn e ?_;refine bw (zn @aD ?_);refine And.intro (.inr ⟨0,_,rfl,rfl⟩) (zn l ?_);refine bw (zn @aD ?_);refine And.intro (.inr ⟨0,_,rfl,rfl⟩) (zn j ?_);refine bw (zn @aD ?_);refine And.intro (.inr ⟨0,_,rfl,rfl⟩) (zn i ?_);refine bw ?_;simp[mU,go_sem]
def Vl(n:Nat)(i:1<=n)(e:n<=5):il TP 253 [.slice 2 [.agg [.int .i64 0,.int .i64 20]] true,.int .i64 n] (.slice 2 (List.replicate n mU) false):=by
 match n,i,e with
 |1,_,_=>exact Sk
 |2,_,_=>exact Sj
 |3,_,_=>exact Si
 |4,_,_=>exact Sh
 |5,_,_=>exact Sg
def SOk.wickwaxes{s}(h:SOk s):s.wick.waxes.length<1000000000:=by
 have:=(Wk.rD h.wick).lx;omega
def B8{s}{c}{x}(h:(Wk.de s c x).2=0):Wk.rd s (Wk.de s c x).1:=by
 unfold Wk.de at h |-;split at h
 .rename_i j;rw[if_pos j];split at h
  .cases h
  .rename_i i;rw[if_neg i];rcases Wk.xt s (Wk.et s c x s.wicks 0) (-1) (Wk.ot s c x s.wicks 0 (by simp)) (.inl rfl) with e|e
   .rw[e]at i;exact absurd (by decide) i
   .exact e
 .rename_i j;exact absurd h j
def Z'(s)(b)(ex)(n)(F:SOk s)(L:BkOk s b n)(kind)(a b' c d):aw TP 185 [.ptr 2 1 0 0,.p (.str (bs kind)),.p (.agg [.int .i64 a,.int .i64 b',.int .i64 c,.int .i64 d])] (B7 s b ex) (mo s b ex (aH s b (.wick kind a b' c d))):=by
 refine ci (ag func185 rfl) rfl ?_;simp only[ChShop.cells,go_sem,simprocAttr];rcases pp (λx:Wax=>x.name==bs kind) s.wick.waxes 0 with I|⟨j,x,y,hx,_⟩
 .refine t6 (XJ s.wick.waxes (bs kind) false F.wickwaxes I) rfl (o9 _) (zm ?_);exact ez (e:=4) (by simp only[aH,if_pos I]) [_] rfl
 rw[gZ]at y;have q:¬(j:Int)<0:=by omega
 have u:=YK s.wick.waxes (bs kind) false F.wickwaxes (by omega);rw[y]at u;refine aa u rfl (zm ?_);have J:=Wk.GC s.wick ⟨(j:Int),a,b',⟨c,d⟩⟩ x (λK=>by
  obtain⟨x',l⟩:=Wk.Hv K;have:=l.hx;dsimp only at this;rw[gX,hx]at this;cases this
  exact l)
 refine aj J rfl ?_;by_cases i:(Wk.de s.wick ⟨(j:Int),a,b',⟨c,d⟩⟩ x).2=0;rotate_left
 .have D:((Wk.de s.wick ⟨(j:Int),a,b',⟨c,d⟩⟩ x).2==0)=false:=by simpa using i
  refine zn D ?_;refine az (λh=>by cases h) (λ_=>?_);refine zm ?_;exact ez (e:=(Wk.de s.wick ⟨(j:Int),a,b',⟨c,d⟩⟩ x).2) (by simp only[aH,y,if_neg q,gX,hx,if_pos i]) [_] rfl
 have C:¬(Wk.de s.wick ⟨(j:Int),a,b',⟨c,d⟩⟩ x).2≠0:=λh=>h i;have E:=B8 i;refine zn i ?_;refine az (λ_=>?_) (λh=>by cases h);obtain⟨k,G⟩:=na E.1;have z:k<s.wick.wicks.length:=by have:=E.2;omega
 obtain⟨w,hw⟩:∃w,s.wick.wicks[k]?=some w:=⟨_,bL z⟩
 have A:(k:Int)<(s.wick.wicks.length:Int):=by omega
 refine zp G A hw ?_;have v:aH s b (.wick kind a b' c d)=.ok (b,bl w.name):=by
  simp only[aH,y,if_neg q,gX,hx,if_neg C,G,hw]
 have:=jx (s:=s) (b:=b) (ex:=ex) (ex':=ex) v (hh:=B7 s b ex++[.row 4 [.p (.agg [.int .i64 a,.int .i64 b',.int .i64 c,.int .i64 d])]]) [_] rfl;rw[xp]at this;exact this
def Ri{l}(h:(bdCheck l).2.2=0):1<=l.length/\l.length<=5:=by
 unfold bdCheck at h;split at h
 .rename_i e;simp[aq]at e;omega
 .cases h
def AG{l}{w}(h:(aJ l w).2.2=0):((aJ l w).1.length<=1000/\∀n,n∈(aJ l w).1->0<=n/\n<1000000000)/\0<=(aJ l w).2.1/\(aJ l w).2.1<1000000000:=by
 unfold aJ at h |-;split at h
 .rename_i i;rw[if_pos i];obtain⟨j,hw⟩:=ug i;split at h
  .cases h
  .rename_i r u;dsimp only;have y:r∈fits l w:=by
    rcases mL _ _ _ _ u with h|h
    .cases h
    .exact h
   have e:=(tN j y).1;have z:=(DN (nq j e.rng)).2.2.2.2.1;have C:=j.len;have A:=e.len;have q:bv dh (l.zip r)=bo l r:=rfl;refine⟨⟨by omega,λn v=>?_⟩,?_,?_⟩
   .have:=e.rng n v;omega
   .rw[<-q];exact z.1
   .rw[<-q];omega
 .rename_i i;exact absurd h i
def DJ(s)(a b' c):(e6 s a b' c).pv=.agg [.slice 2 (List.replicate s.blend.length mU) false,.int .i64 a,.int .i64 b',.int .i64 0,.int .i64 c]:=by
 simp only[BdWish.pv,e6,List.map_replicate,Span.pv,mU]
def IF(s)(b)(ex)(n)(v:SOk s)(A:BkOk s b n)(a b' c):aw TP 187 [.ptr 2 1 0 0,.p (.agg [.int .i64 a,.int .i64 b',.int .i64 c])] (B7 s b ex) (mo s b ex (aH s b (.blend a b' c))):=by
 refine ci (ag func187 rfl) rfl ?_;simp only[ChShop.cells,go_sem,simprocAttr];have j:=Ri v.blend;have y:=Vl s.blend.length j.1 j.2;refine zy y rfl (zm ?_);refine aj (Q2 s.blend (e6 s a b' c)) (by rw[DJ];rfl) ?_;by_cases i:(aJ s.blend (e6 s a b' c)).2.2=0;rotate_left
 .have u:((aJ s.blend (e6 s a b' c)).2.2==0)=false:=by simpa using i
  simp only[nO,u,go_sem,simprocAttr];refine az (λh=>by cases h) (λ_=>?_);refine zm ?_;exact ez (e:=(aJ s.blend (e6 s a b' c)).2.2) (by simp only[aH,if_pos i]) [_,_] rfl
 have q:¬(aJ s.blend (e6 s a b' c)).2.2≠0:=λh=>h i;obtain⟨c1,z⟩:=AG i;simp only[nO,i,go_sem,simprocAttr];refine az (λ_=>?_) (λh=>by cases h);refine zm ?_;have l:=rp [.ns (aJ s.blend (e6 s a b' c)).1,.n (aJ s.blend (e6 s a b' c)).2.1] true (by simp) (λw hw=>by
  simp only[br,dP,or_false]at hw;rcases hw with rfl|rfl
  .exact c1
  .exact z)
 refine aa l rfl (zm ?_);exact jx (b':=b) (ex':=ex) (a:=joinL ([Word.ns (aJ s.blend (e6 s a b' c)).1,.n (aJ s.blend (e6 s a b' c)).2.1].flatMap Word.ws)) (by simp only[aH,if_neg q];rfl) [_,_] rfl
end Ch
def KD{P}{f}{args args'}{h}{R}(K)(G:args'.length=args.length)
  (L:∀(i:Nat) (v),args'[i]?=some v->args[i]?=some v\/∃a q,args[i]?=some a/\v=.p q/\oH (aQ (λi=>!K i) h) a=some q)
  (J:aw P f args' (aQ K h) R):aw P f args h R:=by
 intro M0 m w l E j;have F:=s7 ⟨m,h,w⟩ K h.length;have I:=qM E K;have u:eD (Rep M0 (Mem.kill K ⟨m,h,w⟩)) l args':=by
  refine⟨by rw[j.1,G],λi v hi=>?_⟩;rcases L i v hi with C|⟨a,q,C,rfl,N⟩
  .exact F.keep (j.2 i v C)
  .exact nK (S:=⟨m,h,w⟩) E K (j.2 i a C) N
 have:=J M0 (cT K m) w l I u;refine⟨this.1,this.2.mono λe w' hh=>?_⟩;obtain⟨r,h',m',M,y,D,A⟩:=hh;have z:(aQ K h).length=h.length:=by simp[aQ]
 rw[z]at y;exact⟨r,h',m',M,F.trans y,D,A⟩
def qL{n}{a}(h:fb n a):sf (·≠n) a:=by
 cases a<;>first|exact zF h|exact trivial
def LO{n}{a}(h:gn n a):tI (·≠n) a:=by
 cases a<;>first|exact zF h|exact trivial|exact⟨λc e=>qL (h.1 c e),λc e=>qL (h.2 c e)⟩
def Vu{n}{a}(h:iD n a):uY (·≠n) a:=by
 cases a<;>first|exact zF h|exact trivial|exact λc e=>LO (h c e)|exact⟨λc e=>qL (h.1 c e),λc e=>qL (h.2 c e)⟩
def vv{n}{a}(h:below n a):ids (·≠n) a:=by
 cases a<;>first|exact zF h|exact trivial|exact λc e=>Vu (h c e)|exact λc e=>LO (h c e)|exact⟨λc e=>qL (h.1 c e),λc e=>qL (h.2 c e)⟩
def uv{n}{o}(h:bB n o):rK (·≠n) o:=by
 cases o<;>first|exact trivial|exact λx hx=>vv (h x hx)|exact λt=>vv (h t)|exact qL h
def n6{T}:∀(live) (t),(cM (bP T live []) t=T t/\t∈live)\/cM (bP T live []) t=.undef
 |[],t=>.inr rfl
 |x::r,t=>by
  unfold bP cM;by_cases h:t=x
  .subst h;rw[if_pos rfl];exact .inl ⟨rfl,by simp⟩
  .rw[if_neg h];rcases n6 r t with⟨e,i⟩|e
   .exact .inl ⟨e,by simp[i]⟩
   .exact .inr e
def EM{P}{H}{Q}{x}{A}(live)(i sz)(hi:A.bs<=i)(I:A.bs<=A.h.length)(hx:A.h[i]?=some (.row 1 [.p .nilslice]))(F:∀t,t∈live->below A.h.length (A.tmps t))(E:∀o,o∈A.h->bB A.h.length o)(G:A.df=[])
  (k:@W ⟨P,H,.loop x,Q⟩ { n:=A.n,bs:=A.bs,rc:=A.rc,tmps:=cM (bP A.tmps live []),h:=A.h.set i (.row 1 [.slice A.h.length 0 0 0])++[.row sz []],df:=A.df }):@W ⟨P,H,.loop x,Q⟩ A:=by
 have z:i<A.h.length:=(aC.1 hx).1
 have hw:=pK (P:=P) (A:={ A with h:=A.h++[.row sz []] }) (T:=cM (bP A.tmps live [])) A.h.length i sz 1 [.p .nilslice] [.slice A.h.length 0 0 0] I hi (by simp) (by omega)
  (by rw[bJ z];exact hx) rfl (λn x y l u=>by
   match n,l,u with
   |0,l,u=>
    cases l;cases u;refine⟨_,_,rfl,rfl,rfl,λj c d v C=>?_⟩
    match j,v,C with
    |0,v,C=>cases v;cases C;exact .inr ⟨rfl,rfl⟩
    |j+1,v,C=>cases v
   |n+1,l,u=>simp at l) (λt=>by
   rcases n6 (T:=A.tmps) live t with⟨l,u⟩|l
   .exact .inl ⟨l,vv (F t u)⟩
   .exact .inr l) (λid o J q=>by
   have D:id<A.h.length:=by
    have:=(aC.1 q).1;simp at this;omega
   rw[bJ D]at q
   exact uv (E o (aB q))) G
 have e:((A.h++[AObj.row sz []]).set A.h.length (.row sz [])).set i (.row 1 [.slice A.h.length 0 0 0])=A.h.set i (.row 1 [.slice A.h.length 0 0 0])++[.row sz []]:=by
  rw[ra _ _ (ba _),ud];show (A.h++[AObj.row sz []]).set i _=_;rw[ue _ _ z]
 refine eR (wk sz) (eR hw ?_);dsimp only;rw[e];exact k
namespace Ch
set_option maxRecDepth 4000
def dK (l:List (List UInt8)):AObj:=.row 1 [.p (bG l)]
def CY(w)(ws)(id)(h)(e:h[id]?=some (dK (w::ws))) :
  aw TP 165 [.ptr id 1 0 0] h (λr h'=>r=.ret (.p (.str (bs w)))/\h'=h.set id (dK ws)):=by
 unfold dK bG at e |-;have l:(0:Int)<((ws.length+1:Nat):Int):=by omega
 have j:decide ((0:Int)<((ws.length+1:Nat):Int))=true:=decide_eq_true l;refine au (ag func165 rfl) rfl ?_;simp only[e,j,go_sem,simprocAttr];refine az (λ_=>?_) (λh=>by cases h);have q:(1:Int)<=((ws.length+1:Nat):Int):=by omega
 have i:List.take (ws.length+1) (PV.str (bs w)::ws.map λx=>PV.str (bs x))=PV.str (bs w)::ws.map λx=>PV.str (bs x):=dt (by simp);simp only[e,l,q,i,go_sem,simprocAttr]
def LP(id)(h)(e:h[id]?=some (dK [])) :
  aw TP 165 [.ptr id 1 0 0] h (λr h'=>r=.panic (iJ 6)/\h'=h):=by
 unfold dK bG at e;refine au (ag func165 rfl) rfl (zn e ?_);refine az (λh=>by cases h) (λ_=>?_);simp[go_sem]
def ky (id:Nat):AObj:=.row 1 [.func (.func 165) [] [.ptr id 1 0 0]]
def zad(w)(ws)(id q)(h)(l:h[id]?=some (dK (w::ws)))(e:h[q]?=some (ky id))(i:bn w=some w) :
  aw TP 166 [.ptr q 1 0 0] h (λr h'=>r=.ret (.p (.str (bs w)))/\h'=h.set id (dK ws)):=by
 have j:nameOk (bs w)=true:=by
  unfold bn at i;split at i
  .assumption
  .cases i
 unfold ky at e;refine au (ag func166 rfl) rfl (zn e ?_);refine cw (CY w ws id h l) (zm ?_);refine aa (kY (bs w)) rfl (zn j ?_);refine az (λ_=>?_) (λh=>by cases h);simp[go_sem]
def Sf{w v}(h:bn w=some v):v=w:=by
 unfold bn at h;split at h
 .cases h;rfl
 .cases h
def Vz(l)(id q)(h)(e:h[id]?=some (dK l))(i:h[q]?=some (ky id))(u:∀w ws,l=w::ws->bn w=none) :
  aw TP 166 [.ptr q 1 0 0] h (λr h'=>r=.panic (iJ 6)/\∃o,h'=h.set id o):=by
 unfold ky at i;refine au (ag func166 rfl) rfl (zn i ?_)
 cases l with
 |nil=>
  refine vQ (LP id h e) (zm ?_)
  exact⟨_,(kU e).symm⟩
 |cons w ws=>
  have j:nameOk (bs w)=false:=by
   have:=u w ws rfl;unfold bn at this;split at this
   .cases this
   .rename_i h;simpa using h
  refine cw (CY w ws id h e) (zm ?_);refine aa (kY (bs w)) rfl (zn j ?_);refine az (λh=>by cases h) (λ_=>?_);refine zm ?_;exact⟨_,rfl⟩
def PA{w}{v}(h:bV w=some v):kV w=some v/\0<=v/\v<=10000000/\aX v=w:=by
 unfold bV at h;split at h
 .rename_i x hx;split at h
  .rename_i e;cases h;exact⟨hx,e⟩
  .cases h
 .cases h
def Vy(w)(ws)(id l)(h)(v)(D:w.length<=1000000)(i:h[id]?=some (dK (w::ws)))(e:h[l]?=some (ky id))(z:bV w=some v) :
  aw TP 167 [.ptr l 1 0 0] h (λr h'=>r=.ret (.p (.int .i64 v))/\h'=h.set id (dK ws)):=by
 obtain⟨n1,j,u,q⟩:=PA z;have y:mF (bs w)=.tuple [.int .i64 v,.niliface]:=by
  unfold kV at n1;rw[mF,io];cases C:Lib.atoiAll w<;>rw[C]at n1<;>first|cases n1;done|skip
  cases n1;rfl
 unfold ky at e;refine au (ag func167 rfl) rfl (zn e ?_);refine cw (CY w ws id h i) (zm ?_);refine aa (G4 (bs w) (by rw[al];omega)) rfl ?_;refine zp y j u ?_;refine aa (Dk v j (by omega)) rfl ?_;have A:(bs (aX v)==bs w)=true:=by rw[q,cF];exact beq_self_eq_true _
 refine zn A ?_;refine az (λ_=>?_) (λh=>by cases h);simp[go_sem]
def Qg(l)(id E)(h)(G:∀w,w∈l->w.length<=1000000)(j:h[id]?=some (dK l))(u:h[E]?=some (ky id))(F:∀w ws,l=w::ws->bV w=none) :
  aw TP 167 [.ptr E 1 0 0] h (λr h'=>r=.panic (iJ 6)/\∃o,h'=h.set id o):=by
 unfold ky at u;refine au (ag func167 rfl) rfl (zn u ?_)
 cases l with
 |nil=>
  refine vQ (LP id h j) (zm ?_)
  exact⟨_,(kU j).symm⟩
 |cons w ws=>
  have i:=F w ws rfl;have K:=G w (by simp);refine cw (CY w ws id h j) (zm ?_);refine aa (G4 (bs w) (by rw[al];omega)) rfl ?_
  cases e:kV w with
  |none=>
   have hx:∃v,mF (bs w)=.tuple [.int .i64 v,.iface 345 .any]:=by
    unfold kV at e;rw[mF,io];cases z:Lib.atoiAll w<;>rw[z]at e<;>first|cases e;done|exact⟨_,rfl⟩
   obtain⟨v,hx⟩:=hx;refine zn hx ?_;refine az (λh=>by cases h) (λ_=>?_);refine zm ?_
   exact⟨_,rfl⟩
  |some v=>
   have y:mF (bs w)=.tuple [.int .i64 v,.niliface]:=by
    unfold kV at e;rw[mF,io];cases z:Lib.atoiAll w<;>rw[z]at e<;>first|cases e;done|skip
    cases e;rfl
   by_cases q:0<=v;rotate_left
   .have D:decide (0<=v)=false:=by simpa using q
    refine zo y D ?_;refine az (λh=>by cases h) (λ_=>?_);refine zm ?_;exact⟨_,rfl⟩
   by_cases A:v<=10000000;rotate_left
   .have C:decide (v<=10000000)=false:=by simpa using A
    refine zp y q C ?_;refine az (λh=>by cases h) (λ_=>?_);refine zm ?_;exact⟨_,rfl⟩
   refine zp y q A ?_;refine aa (Dk v q (by omega)) rfl ?_;have J:(bs (aX v)==bs w)=false:=by
    rw[cF]
    cases I:(aX v==w) with
    |false=>rfl
    |true=>
     rw[bV,e]at i;simp only[q,A,true_and,eq_of_beq I,if_true]at i;cases i
   refine zn J ?_;refine az (λh=>by cases h) (λ_=>?_);refine zm ?_;exact⟨_,rfl⟩
def lF{H}{Q}{ops}{rest}{dst}{A}(l)(id q)(j:A.h[id]?=some (dK l))(i:A.h[q]?=some (ky id))
  (D:∀w ws,l=w::ws->bn w=some w->@WO ⟨TP,H,ops,rest,Q⟩ (A.put dst (.p (.str (bs w))) (A.h.set id (dK ws))))
  (C:(∀w ws,l=w::ws->bn w=none)->∀o,@WQ ⟨Q⟩ (.panic (iJ 6)) { A with h:=A.h.set id o }):@WF ⟨TP,H,ops,rest,Q,dst⟩ A 166 [.ptr q 1 0 0]:=by
 by_cases u:∀w ws,l=w::ws->bn w=none
 .refine cZ (Vz l id q A.h j i u) (λv h y=>by cases y.1) (λv h y=>?_);obtain⟨e,o,rfl⟩:=y;cases e;exact C u o
 .cases l with
  |nil=>exact absurd (λw ws h=>by cases h) u
  |cons w ws=>
   have hw:bn w=some w:=by
    cases z:bn w with
    |none=>exact absurd (λw' E h=>by cases h;exact z) u
    |some v=>rw[Sf z]
   exact cw (zad w ws id q A.h j i hw) (D w ws rfl hw)
def i6{H}{Q}{ops}{rest}{dst}{A}(l)(id q)(C:∀w,w∈l->w.length<=1000000)(j:A.h[id]?=some (dK l))(i:A.h[q]?=some (ky id))
  (E:∀w ws v,l=w::ws->bV w=some v->@WO ⟨TP,H,ops,rest,Q⟩ (A.put dst (.p (.int .i64 v)) (A.h.set id (dK ws))))
  (D:(∀w ws,l=w::ws->bV w=none)->∀o,@WQ ⟨Q⟩ (.panic (iJ 6)) { A with h:=A.h.set id o }):@WF ⟨TP,H,ops,rest,Q,dst⟩ A 167 [.ptr q 1 0 0]:=by
 by_cases u:∀w ws,l=w::ws->bV w=none
 .refine cZ (Qg l id q A.h C j i u) (λv h y=>by cases y.1) (λv h y=>?_);obtain⟨e,o,rfl⟩:=y;cases e;exact D u o
 .cases l with
  |nil=>exact absurd (λw ws h=>by cases h) u
  |cons w ws=>
   cases z:bV w with
   |none=>exact absurd (λw' F h=>by cases h;exact z) u
   |some v=>exact cw (Vy w ws id q A.h v (C w (by simp)) j i z) (E w ws v rfl z)
end Ch
set_option maxRecDepth 100000
def N6(l p)(z:l.length<1000000000)(y:p.length<1000000000):af TP 282 [.str (bs l),.str (bs p)] (.bool (decide (l.take p.length=p))):=by
 refine ae (ag func282 rfl) rfl ?_;by_cases v:p.length<=l.length
 .have e:decide ((((bs p).size:Nat):Int)<=(((bs l).size:Nat):Int))=true:=by rw[al,al];simp;omega
  have q:((((bs p).size:Nat):Int))<=(((bs l).size:Nat):Int):=by rw[al,al];omega
  have j:(bs l).extract 0 (bs p).size=bs (l.take p.length):=by rw[dF,qy,al]
  have i:(bs (l.take p.length)==bs p)=decide (l.take p.length=p):=by
   rw[cF,km];simp
  simp only[q,j,i,go_sem,simprocAttr]
 .have e:decide ((((bs p).size:Nat):Int)<=(((bs l).size:Nat):Int))=false:=by rw[al,al];simp;omega
  have u:decide (l.take p.length=p)=false:=by
   rw[decide_eq_false_iff_not];intro h;have:=congrArg List.length h;rw[wg]at this;omega
  simp only[e,u,go_sem,simprocAttr]
def Et(l p)(j:l.length<1000000000)(i:p.length<1000000000):af TP 224 [.str (bs l),.str (bs p)] (.tuple [.str (bs (if l.take p.length=p then l.drop p.length else l)),.bool (decide (l.take p.length=p))]):=by
 refine ae (ag func224 rfl) rfl (zm ?_);refine aa (N6 l p j i) rfl ?_;by_cases h:l.take p.length=p
 .have v:p.length<=l.length:=by
   have:=congrArg List.length h;rw[wg]at this;omega
  have u:((((bs p).size:Nat):Int))<=(((bs l).size:Nat):Int):=by rw[al,al];omega
  have q:(bs l).extract (bs p).size (bs l).size=bs (l.drop p.length):=by
   rw[dF,al,al,nS]
  have e:decide (l.take p.length=p)=true:=decide_eq_true h;simp[e,u,q,if_pos h,go_sem]
 .have e:decide (l.take p.length=p)=false:=decide_eq_false h;simp[e,if_neg h,go_sem]
def N7(l p)(i:l.length<1000000000)(e:p.length<1000000000):af TP 161 [.str (bs l),.str (bs p)] (.tuple [.str (bs (if l.take p.length=p then l.drop p.length else l)),.bool (decide (l.take p.length=p))]):=by
 refine ae (ag func161 rfl) rfl (zm ?_);refine aa (Et l p i e) rfl ?_;simp[go_sem]
namespace Ch
set_option maxRecDepth 4000
def H7 (s:ChShop) (b:ChBooks) (ex:List PV) (t:Heap):Heap:=B7 s b ex++t
def li (s:ChShop) (b:ChBooks) (ex:List PV) (t:Heap) (q:Except Int (ChBooks×List UInt8)) (r:AEnd) (h'':Heap):Prop:=∃h' t',h''=h'++t'/\mo s b ex q r h'/\t'.length=t.length/\t'.take 3=t.take 3
def J1{s}{b}{ex}{q}{r}{h'}(h:mo s b ex q r h'):h'.length=7:=by
 unfold mo at h;split at h
 .rw[h.2];rfl
 .rcases h.2 with⟨_,h⟩|⟨_,_,_,h⟩<;>rw[h]<;>rfl
def lG{f}{args}{s}{b}{ex}{q}(j:aw TP f args (B7 s b ex) (mo s b ex q))(l:∀a,a∈args->below 7 a)(t):aw TP f args (H7 s b ex t) (li s b ex t q):=by
 refine(iR (gJ s b ex) l (j.mono λr h' i=>⟨J1 i,i⟩) t).mono λr u i=>?_;obtain⟨h',e,_,i⟩:=i;exact⟨h',t,e,i,rfl,rfl⟩
def kT{s}{b}{ex}{t}{q}{v}{h}(i:li s b ex t q (.ret v) h):∃a,v=.p (.str (bs a)):=by
 obtain⟨h',j,_,e,_⟩:=i;unfold mo at e;split at e
 .cases e.1
 .rename_i b' a;cases e.1;exact⟨a,rfl⟩
def zao(s)(b)(ex)(t)(n)(l:SOk s)(u:BkOk s b n)(i j)(text)(hi:(H7 s b ex t)[i]?=some (.row 1 [.ptr 2 1 0 0]))(q:(H7 s b ex t)[j]?=some (.row 1 [.p (.str (bs text))])) :
  aw TP 162 [.ptr i 1 0 0,.ptr j 1 0 0] (H7 s b ex t) (li s b ex t (aH s b (.test text))):=by
 refine au (ag func162 rfl) rfl (zo hi q ?_);refine cZ (lG (zaa s b ex n l u text) (by simp[go_sem]) t) (λv h e=>?_) (λv h e=>?_)
 .obtain⟨a,rfl⟩:=kT e;refine zm ?_;exact e
 .refine zm ?_;exact e
def Ys(s)(b)(ex)(t)(n)(l:SOk s)(u:BkOk s b n)(i j)(w)(hi:(H7 s b ex t)[i]?=some (.row 1 [.ptr 2 1 0 0]))(q:(H7 s b ex t)[j]?=some (.row 1 [.p (.str (bs w))])) :
  aw TP 173 [.ptr i 1 0 0,.ptr j 1 0 0] (H7 s b ex t) (li s b ex t (aH s b (.drop w))):=by
 refine au (ag func173 rfl) rfl (zo hi q ?_);refine cZ (lG (zag s b ex n l u w) (by simp[go_sem]) t) (λv h e=>?_) (λv h e=>?_)
 .obtain⟨a,rfl⟩:=kT e;refine zm ?_;exact e
 .refine zm ?_;exact e
def Yr(s)(b)(ex)(t)(n)(l:SOk s)(u:BkOk s b n)(i j)(w)(hi:(H7 s b ex t)[i]?=some (.row 1 [.ptr 2 1 0 0]))(q:(H7 s b ex t)[j]?=some (.row 1 [.p (.str (bs w))])) :
  aw TP 175 [.ptr i 1 0 0,.ptr j 1 0 0] (H7 s b ex t) (li s b ex t (aH s b (.plan w))):=by
 refine au (ag func175 rfl) rfl (zo hi q ?_);refine cZ (lG (G0 s b ex n l u w) (by simp[go_sem]) t) (λv h e=>?_) (λv h e=>?_)
 .obtain⟨a,rfl⟩:=kT e;refine zm ?_;exact e
 .refine zm ?_;exact e
def Yq(s)(b)(ex)(t)(n)(l:SOk s)(u:BkOk s b n)(i j)(w)(hi:(H7 s b ex t)[i]?=some (.row 1 [.ptr 2 1 0 0]))(q:(H7 s b ex t)[j]?=some (.row 1 [.p (.str (bs w))])) :
  aw TP 177 [.ptr i 1 0 0,.ptr j 1 0 0] (H7 s b ex t) (li s b ex t (aH s b (.pour w))):=by
 refine au (ag func177 rfl) rfl (zo hi q ?_);refine cZ (lG (zac s b ex n l u w) (by simp[go_sem]) t) (λv h e=>?_) (λv h e=>?_)
 .obtain⟨a,rfl⟩:=kT e;refine zm ?_;exact e
 .refine zm ?_;exact e
def Yx(s)(b)(ex)(t)(n)(q:SOk s)(C:BkOk s b n)(i j k l m)(name colour lot)(grams)(hi:(H7 s b ex t)[i]?=some (.row 1 [.ptr 2 1 0 0]))(A:(H7 s b ex t)[j]?=some (.row 1 [.p (.str (bs name))]))
  (z:(H7 s b ex t)[k]?=some (.row 1 [.p (.str (bs colour))])) (y:(H7 s b ex t)[l]?=some (.row 1 [.p (.str (bs lot))])) (u:(H7 s b ex t)[m]?=some (.row 1 [.p (.int .i64 grams)])) :
  aw TP 171 [.ptr i 1 0 0,.ptr j 1 0 0,.ptr k 1 0 0,.ptr l 1 0 0,.ptr m 1 0 0] (H7 s b ex t) (li s b ex t (aH s b (.batch name colour lot grams))):=by
 refine au (ag func171 rfl) rfl (t_ hi A z y u ?_);refine cZ (lG (Ya s b ex n q C name colour lot grams) (by simp[go_sem]) t) (λv h e=>?_) (λv h e=>?_)
 .obtain⟨a,rfl⟩:=kT e;refine zm ?_;exact e
 .refine zm ?_;exact e
def zbh(s)(b)(ex)(t)(n)(l:SOk s)(y:BkOk s b n)(i j k)(kind)(hours)(hi:(H7 s b ex t)[i]?=some (.row 1 [.ptr 2 1 0 0]))(u:(H7 s b ex t)[j]?=some (.row 1 [.p (.str (bs kind))]))
  (q:(H7 s b ex t)[k]?=some (.row 1 [.p (.int .i64 hours)])) :
  aw TP 181 [.ptr i 1 0 0,.ptr j 1 0 0,.ptr k 1 0 0] (H7 s b ex t) (li s b ex t (aH s b (.box kind hours))):=by
 refine au (ag func181 rfl) rfl (zp hi u q ?_);refine cZ (lG (zbe s b ex n l y kind hours) (by simp[go_sem]) t) (λv h e=>?_) (λv h e=>?_)
 .obtain⟨a,rfl⟩:=kT e;refine zm ?_;exact e
 .refine zm ?_;exact e
def zan(s)(b)(ex)(t)(n)(l:SOk s)(y:BkOk s b n)(i j k)(kind)(a b' c d)(hi:(H7 s b ex t)[i]?=some (.row 1 [.ptr 2 1 0 0]))(u:(H7 s b ex t)[j]?=some (.row 1 [.p (.str (bs kind))]))
  (q:(H7 s b ex t)[k]?=some (.row 4 [.p (.agg [.int .i64 a,.int .i64 b',.int .i64 c,.int .i64 d])])) :
  aw TP 184 [.ptr i 1 0 0,.ptr j 1 0 0,.ptr k 1 0 0] (H7 s b ex t) (li s b ex t (aH s b (.wick kind a b' c d))):=by
 refine au (ag func184 rfl) rfl (zp hi u q ?_);refine cZ (lG (Z' s b ex n l y kind a b' c d) (by simp[go_sem]) t) (λv h e=>?_) (λv h e=>?_)
 .obtain⟨a,rfl⟩:=kT e;refine zm ?_;exact e
 .refine zm ?_;exact e
def Yw(s)(b)(ex)(t)(n)(j:SOk s)(q:BkOk s b n)(i k)(a b' c)(hi:(H7 s b ex t)[i]?=some (.row 1 [.ptr 2 1 0 0]))
  (l:(H7 s b ex t)[k]?=some (.row 3 [.p (.agg [.int .i64 a,.int .i64 b',.int .i64 c])])) :
  aw TP 186 [.ptr i 1 0 0,.ptr k 1 0 0] (H7 s b ex t) (li s b ex t (aH s b (.blend a b' c))):=by
 refine au (ag func186 rfl) rfl (zo hi l ?_);refine cZ (lG (IF s b ex n j q a b' c) (by simp[go_sem]) t) (λv h e=>?_) (λv h e=>?_)
 .obtain⟨a,rfl⟩:=kT e;refine zm ?_;exact e
 .refine zm ?_;exact e
def SS(s)(b)(ex)(t)(n)(D:SOk s)(G:BkOk s b n)(i j)(kind)(hi:(H7 s b ex t)[i]?=some (.row 1 [.ptr 2 1 0 0]))(F:(H7 s b ex t)[j]?=some (.row 1 [.p (.str (bs kind))])) :
  aw TP 179 [.ptr i 1 0 0,.ptr j 1 0 0] (H7 s b ex t) (li s b ex t (aH s b (.promise kind))):=by
 have C:=AR s b ex n D G kind;have u:∀{R:AEnd->Heap->Prop},aw TP 180 [.ptr 2 1 0 0,.p (.str (bs kind))] (B7 s b ex) (λr h'=>R r h'/\h'=B7 s b ex)->aw TP 180 [.ptr 2 1 0 0,.p (.str (bs kind))] (H7 s b ex t) (λr h'=>h'=H7 s b ex t/\R r (B7 s b ex)):=λ{R} z=>by
  refine(iR (gJ s b ex) (by simp[go_sem]) (z.mono λr h' l=>⟨by rw[l.2],l⟩) t).mono λr J l=>?_;obtain⟨h',e,_,l,I⟩:=l;subst I;exact⟨e,l⟩
 refine au (ag func179 rfl) rfl (zo hi F ?_)
 cases y:ej s b kind with
 |error e=>
  refine cZ (u (C.1 e y)) (λv h l=>by cases l.2) (λv h l=>?_);obtain⟨rfl,l⟩:=l;cases l;refine zm ?_
  exact⟨_,t,rfl,by simp only[aH,y];exact⟨rfl,rfl⟩,rfl,rfl⟩
 |ok q=>
  obtain⟨k,m⟩:=q;obtain⟨E,z⟩:=C.2 k m y;refine cZ (u z) (λv h l=>?_) (λv h l=>by cases l.2);obtain⟨rfl,l⟩:=l;cases l;refine zm ?_;have A:=rp [.n m] true (by simp) (λw hw=>by
   simp only[br,dP,or_false]at hw;subst hw
   exact⟨E.1,by omega⟩)
  refine aa A rfl (zm ?_);exact⟨_,t,rfl,by simp only[aH,y];exact⟨rfl,.inl ⟨_,rfl⟩⟩,rfl,rfl⟩
def zbg(s)(b)(ex)(t)(n)(E:SOk s)(K:BkOk s b n)(i j k l m r)(name kind)(grams)(rs)(z:rs.length<1000000000)(hi:(H7 s b ex t)[i]?=some (.row 1 [.ptr 2 1 0 0]))(I:(H7 s b ex t)[j]?=some (.row 1 [.p (.str (bs name))]))
  (y:(H7 s b ex t)[k]?=some (.row 1 [.p (.str (bs kind))])) (G:(H7 s b ex t)[l]?=some (.row 1 [.p (.int .i64 grams)])) (F:(H7 s b ex t)[m]?=some (.row 1 [.slice r rs.length 0 rs.length])) (N:10<=r) (u:(H7 s b ex t)[r]?=some (.row 1 (rs.map λv=>.p (ay v)))) :
  aw TP 169 [.ptr i 1 0 0,.ptr j 1 0 0,.ptr k 1 0 0,.ptr l 1 0 0,.ptr m 1 0 0] (H7 s b ex t) (li s b ex t (aH s b (.lot name kind grams rs))):=by
 have q:aw TP 170 [.ptr 2 1 0 0,.p (.str (bs name)),.p (.str (bs kind)),.p (.int .i64 grams),.slice r rs.length 0 rs.length] (H7 s b ex t) (li s b ex t (aH s b (.lot name kind grams rs))):=by
  have e:aQ (λx=>x==r) (H7 s b ex t)=H7 s b ex (t.set (r-7) .dead):=by
   rw[Bq];unfold H7;rw[ra _ _ (show (B7 s b ex).length<=r by show 7<=r;omega)];rfl
  refine KD (args':=[.ptr 2 1 0 0,.p (.str (bs name)),.p (.str (bs kind)),.p (.int .i64 grams),.p (.slice 1 (rs.map ay) false)]) (λx=>x==r) rfl (λx O hx=>?_) ?_
  .match x,hx with
   |0,hx=>exact .inl hx
   |1,hx=>exact .inl hx
   |2,hx=>exact .inl hx
   |3,hx=>exact .inl hx
   |4,hx=>
    cases hx;refine .inr ⟨_,_,rfl,rfl,?_⟩;have y:(aQ (λi=>!(i==r)) (H7 s b ex t))[r]?=some (.row 1 (rs.map λv=>.p (ay v))):=by rw[l8 (by simp)];exact u
    have J:∀(n:Nat) (h:Heap),aE (bi n h) (rs.map λv=>.p (ay v))=some (rs.map ay):=λn h=>aW (bH n h) ay rs;unfold oH bi;rw[y];simp only[mB,J];rw[if_pos (by simp)];show some (PV.slice 1 (List.drop 0 (List.take (0+rs.length) (rs.map ay))) false)=_
    rw[qy,dt (by simp)]
   |n+5,hx=>simp at hx
  .rw[e];refine(lG (zbd s b ex n E K name kind grams rs z) (by simp[go_sem]) _).mono λx h' hx=>?_;obtain⟨L,A,M,C,D,k1⟩:=hx;refine⟨L,A,M,C,by rw[D,wh],by rw[k1];exact List.take_set_of_le (by omega)⟩
 refine au (ag func169 rfl) rfl (t_ hi I y G F ?_);refine cZ q (λv h u=>?_) (λv h u=>?_)
 .obtain⟨a,rfl⟩:=kT u;refine zm ?_;exact u
 .refine zm ?_;exact u
set_option maxRecDepth 4000
def D3:Heap:=[.row 1 [.p (.str .empty)],.row 1 [.p (.bool false)],.row 1 [.p (.int .i64 0)]]
def Zy (s:ChShop) (b:ChBooks) (ex:List PV):Heap:=B7 s b ex++D3
attribute [go_sem] D3 Zy
def xz (s:ChShop) (b:ChBooks) (ex:List PV) (line:List UInt8) (r:AEnd) (h':Heap):Prop:=
 match gc line with
 |.error e=>r=.panic (iJ e)/\∃t,t.take 3=D3/\h'=H7 s b ex t
 |.ok c=>∃F first caps t,t.take 3=D3/\r=.ret (.agg [.p (.bool c.written),.func (.func F) first caps])/\h'=H7 s b ex t/\(∀o,o∈h'->bB h'.length o)/\(∀a,a∈first++caps->below h'.length a)/\aw Tryz.prog F (first++caps) h' (li s b ex t (aH s b c))
def bK{s}{b}{ex}{i}{e}(h:gc i=.error e){h'}(t)(hh:h'=B7 s b ex++t)(j:t.take 3=D3:=by rfl):xz s b ex i (.panic (iJ e)) h':=by
 unfold xz;rw[h];exact⟨rfl,t,j,hh⟩
def ML(c):∀(l),∀w,w∈aA c l->w.length<=l.length:=by
 intro l
 induction l with
 |nil=>intro w hw;simp[aA]at hw;subst hw;exact ba _
 |cons x r e=>
  intro w hw;rw[aA]at hw;split at hw
  .rcases br.1 hw with rfl|hw
   .exact cG _
   .exact Nat.le_succ_of_le (e w hw)
  .split at hw
   .rename_i h;exact absurd h (rC _ _)
   .rename_i a t h;rw[h]at e;rcases br.1 hw with rfl|hw
    .have:=e a (by simp);simp only[bc];omega
    .exact Nat.le_succ_of_le (e w (by simp[hw]))
def bE (o:Option Cmd):Except Int Cmd:=match o with|some c=>.ok c|none=>.error 6
def Pa{e}{v}{ws}(l:¬400<e.length)(j:¬e.take 5=jj)(i:aA 32 e=v::ws):gc e=bE (dL v ws):=by
 unfold gc;rw[if_neg l,if_neg j,i];rfl
def tx(ws):dL p7 ws=(match ws with|n::k::g::r=>(match bn n,bn k,bV g,cV r with|some n,some k,some g,some r=>some (.lot n k g r)|_,_,_,_=>none)|_=>none):=by unfold dL;rw[if_pos rfl];rfl
def nW(ws):dL j2 ws=(match ws with|[n,c,l,g]=>(match bn n,bn c,bn l,bV g with|some n,some c,some l,some g=>some (.batch n c l g)|_,_,_,_=>none)|_=>none):=by
 unfold dL;rw[if_neg (by decide),if_pos rfl];rfl
def yc(ws):dL lg ws=(match ws with|[n]=>(bn n).map .drop|_=>none):=by
 unfold dL;rw[if_neg (by decide),if_neg (by decide),if_pos rfl];rfl
def yb(ws):dL l9 ws=(match ws with|[n]=>(bn n).map .plan|_=>none):=by
 unfold dL;rw[if_neg (by decide),if_neg (by decide),if_neg (by decide),if_pos rfl];rfl
def ya(ws):dL jF ws=(match ws with|[n]=>(bn n).map .pour|_=>none):=by
 unfold dL;rw[if_neg (by decide),if_neg (by decide),if_neg (by decide),if_neg (by decide),if_pos rfl];rfl
def tv(ws):dL fj ws=(match ws with|[n]=>(bn n).map .promise|_=>none):=by
 unfold dL;rw[if_neg (by decide),if_neg (by decide),if_neg (by decide),if_neg (by decide),if_neg (by decide),if_pos rfl];rfl
def wt(ws):dL kn ws=(match ws with|[n,g]=>(match bn n,bV g with|some n,some g=>some (.box n g)|_,_=>none)|_=>none):=by
 unfold dL;rw[if_neg (by decide),if_neg (by decide),if_neg (by decide),if_neg (by decide),if_neg (by decide),if_neg (by decide),if_pos rfl];rfl
def E4(ws):dL jG ws=(match ws with|[]=>some .look|_=>none):=by
 unfold dL;rw[if_neg (by decide),if_neg (by decide),if_neg (by decide),if_neg (by decide),if_neg (by decide),if_neg (by decide),if_neg (by decide),if_pos rfl];rfl
def ni(ws):dL ji ws=(match ws with|[n,a,b,c,d]=>(match bn n,bV a,bV b,bV c,bV d with|some n,some a,some b,some c,some d=>some (.wick n a b c d)|_,_,_,_,_=>none)|_=>none):=by
 unfold dL;rw[if_neg (by decide),if_neg (by decide),if_neg (by decide),if_neg (by decide),if_neg (by decide),if_neg (by decide),if_neg (by decide),if_neg (by decide),if_pos rfl];rfl
def pQ(ws):dL gj ws=(match ws with|[a,b,c]=>(match bV a,bV b,bV c with|some a,some b,some c=>some (.blend a b c)|_,_,_=>none)|_=>none):=by
 unfold dL;rw[if_neg (by decide),if_neg (by decide),if_neg (by decide),if_neg (by decide),if_neg (by decide),if_neg (by decide),if_neg (by decide),if_neg (by decide),if_neg (by decide),if_pos rfl];rfl
def Ci(ws):dL gi ws=(match ws with|[]=>some .stock|_=>none):=by
 unfold dL;rw[if_neg (by decide),if_neg (by decide),if_neg (by decide),if_neg (by decide),if_neg (by decide),if_neg (by decide),if_neg (by decide),if_neg (by decide),if_neg (by decide),if_neg (by decide),if_pos rfl];rfl
def U3{v}{ws}(c0:(v==p7)=false)(c1:(v==j2)=false)(A:(v==lg)=false)(z:(v==l9)=false)(y:(v==jF)=false)(u:(v==fj)=false)(q:(v==kn)=false)(l:(v==jG)=false)
  (j:(v==ji)=false) (i:(v==gj)=false) (e:(v==gi)=false):dL v ws=none:=by
 rw[beq_eq_false_iff_ne]at c0 c1 A z y u q l j i e;unfold dL;rw[if_neg c0,if_neg c1,if_neg A,if_neg z,if_neg y,if_neg u,if_neg q,if_neg l,if_neg j,if_neg i,if_neg e]
def PP(v):(bs v==({ data:=#[108,111,116] }:ByteArray))=(v==p7):=cF v p7
def Iu(v):(bs v==({ data:=#[98,97,116,99,104] }:ByteArray))=(v==j2):=cF v j2
def LK(v):(bs v==({ data:=#[100,114,111,112] }:ByteArray))=(v==lg):=cF v lg
def LI(v):(bs v==({ data:=#[112,108,97,110] }:ByteArray))=(v==l9):=cF v l9
def LH(v):(bs v==({ data:=#[112,111,117,114] }:ByteArray))=(v==jF):=cF v jF
def CM(v):(bs v==({ data:=#[112,114,111,109,105,115,101] }:ByteArray))=(v==fj):=cF v fj
def PQ(v):(bs v==({ data:=#[98,111,120] }:ByteArray))=(v==kn):=cF v kn
def LJ(v):(bs v==({ data:=#[108,111,111,107] }:ByteArray))=(v==jG):=cF v jG
def LG(v):(bs v==({ data:=#[119,105,99,107] }:ByteArray))=(v==ji):=cF v ji
def It(v):(bs v==({ data:=#[98,108,101,110,100] }:ByteArray))=(v==gj):=cF v gj
def Is(v):(bs v==({ data:=#[115,116,111,99,107] }:ByteArray))=(v==gi):=cF v gi
def kF:fd Tryz.prog 93=.func:=by kernel_rfl
def GX (v:Int):AV:=.p (ay v)
def WG(n)(x):below n (GX x)=True:=eq_true trivial
attribute [go_sem] WG
def XX(v):(bs v==({ data:=#[120] }:ByteArray))=(v==kX):=cF v kX
def keepS(n)(a)(h):gE (n+1) (a::h)=.dead::gE n h:=by
 unfold gE;rw[List.mapIdx_cons]
 congr 1
 .apply pE;intro i;simp
def Z9(a)(h):gE 0 (a::h)=a::h.map λ_=>.dead:=by
 unfold gE;rw[List.mapIdx_cons]
 congr 1
 apply pE;intro i;simp
def XZ(F E D C A z y v u q l j i e)(h):gE 13 (F::E::D::C::A::z::y::v::u::q::l::j::i::e::h)=.dead::.dead::.dead::.dead::.dead::.dead::.dead::.dead::.dead::.dead::.dead::.dead::.dead::e::h.map λ_=>.dead:=by
 rw[keepS,keepS,keepS,keepS,keepS,keepS,keepS,keepS,keepS,keepS,keepS,keepS,keepS,Z9]
def OE:Hints:=dx [(66,.app 64),(67,.low),(68,.low),(1015066,.sto),(5000001,.app 7)]
def XS:cu OE Tryz.f109=true:=by kernel_rfl
def jr{s}{b}{ex}{i}{c}(h:gc i=.ok c){F}{first e}{h'}(t)(hh:h'=H7 s b ex t)(j:∀o,o∈h'->bB h'.length o)(q:∀a,a∈first++e->below h'.length a)
  (l:aw Tryz.prog F (first++e) (H7 s b ex t) (li s b ex t (aH s b c))) (u:t.take 3=D3:=by rfl):xz s b ex i (.ret (.agg [.p (.bool c.written),.func (.func F) first e])) h':=by
 unfold xz;rw[h];subst hh;exact⟨F,first,e,t,u,rfl,rfl,j,q,l⟩
def zab(s)(b)(ex)(n)(O:SOk s)(N:BkOk s b n)(j):aw Tryz.prog 109 [.ptr 2 1 0 0,.p (.str (bs j))] (Zy s b ex) (xz s b ex j):=by
 refine au (dv (by kernel_rfl) rfl XS) rfl (zm ?_);refine az (λh1=>?_) (λh1=>?_);rotate_left
 .have S:400<j.length:=by rw[al]at h1;simp at h1;omega
  refine zm ?_;exact bK (e:=3) (by rw[gc,if_pos S]) _ rfl
 have S:¬400<j.length:=by rw[al]at h1;simp at h1;omega
 refine zm ?_;have a3:j.length<1000000000:=by omega
 refine aa (N7 j jj a3 (by decide)) rfl ?_;by_cases h2:j.take 5=jj
 .have D:decide (j.take jj.length=jj)=true:=decide_eq_true h2;have L:(if j.take jj.length=jj then j.drop jj.length else j)=j.drop 5:=if_pos h2;refine zo D L ?_;refine jr (c:=.test (j.drop 5)) (by rw[gc,if_neg S,if_pos h2]) _ rfl ?_ ?_ (zao s b ex _ n O N 10 12 _ rfl rfl)
  .simp only[go_sem,simprocAttr]
  .simp[go_sem]
 have D:decide (j.take jj.length=jj)=false:=decide_eq_false h2;have L:(if j.take jj.length=jj then j.drop jj.length else j)=j:=if_neg h2;have a0:=ML 32 j;refine zo D L ?_;refine aa (FT j 32 a3) rfl ?_
 cases R:aA 32 j with
 |nil=>exact absurd R (rC _ _)
 |cons v ws=>
 rw[R]at a0;have i:=Pa S h2 R;have l:∀w,w∈ws->w.length<=1000000:=λw hw=>by have:=a0 w (by simp[hw]);omega
 simp only[bG,go_sem,simprocAttr];refine cw (CY v ws 13 _ rfl) (zm ?_);cases c0:v==p7;rotate_left
 .have A:=eq_of_beq c0;subst A;refine zo @PP c0 ?_;refine lF ws 13 14 rfl rfl (λJ u D n1=>?_) (λz o=>?_);rotate_left
  .refine zm ?_;exact bK (e:=6) (by rw[i,tx];rcases ws with _|⟨F,_|⟨E,_|⟨M,_|⟨U,_|⟨x5,_⟩⟩⟩⟩⟩<;>simp_all [bE]) _ rfl
  subst D;simp only[dK,bG,go_sem,simprocAttr];refine lF u 13 14 rfl rfl (λV K L Z=>?_) (λz o=>?_);rotate_left
  .refine zm ?_;exact bK (e:=6) (by rw[i,tx];rcases u with _|⟨F,_|⟨E,_|⟨M,_|⟨U,_⟩⟩⟩⟩<;>simp_all [bE]) _ rfl
  subst L;simp only[dK,bG,go_sem,simprocAttr];refine i6 K 13 14 (λw hw=>l w (by simp[hw])) rfl rfl (λw3 G Y X n3=>?_) (λz o=>?_);rotate_left
  .refine zm ?_;exact bK (e:=6) (by rw[i,tx];rcases K with _|⟨F,_|⟨E,_|⟨M,_⟩⟩⟩<;>simp_all [bE]) _ rfl
  subst X;simp only[dK,bG,go_sem,simprocAttr];have a8:G.length<=400:=by
   have h:=pc 32 j;rw[R]at h;simp at h;omega
  refine EM [2,4,7,10,11,12,13,14,15] 19 1 (show 10<=19 by decide) (show 10<=20 by decide) rfl ?_ ?_ rfl ?_
  .simp[go_sem]
  .simp only[go_sem,simprocAttr]
  refine zm ?_
  refine dl [2,4,7,10,11,12,13,14,15] (σ:=List (List UInt8)×List Int) (λq=>cV G=(cV q.1).map (q.2++·)/\(∀w,w∈q.1->w.length<=1000000)/\q.2.length+q.1.length=G.length) (λq=>q.1.length) (λq=>[])
   (λq=>Zy s b ex++[.row 1 [.ptr 2 1 0 0],.row 2 [.p (.agg [.bool false,.nilfunc])],.row 1 [.p (.str (bs j))],dK q.1,ky 13,.row 2 [.p (.agg [.bool false,.nilfunc])],.row 1 [.p (.str (bs J))],.row 1 [.p (.str (bs V))],.row 1 [.p (.int .i64 Y)],.row 1 [.slice 20 q.2.length 0 q.2.length],.row 1 (q.2.map GX)])
   (G,[]) ⟨?_,λw hw=>l w (by simp[hw]),by simp⟩ ?_ ?_
  .show cV G=(cV G).map ([]++·);cases cV G<;>rfl
  .simp only[dK,ky,bG,go_sem,simprocAttr]
  rintro⟨q,rs⟩ ⟨i1,i2,i3⟩
  dsimp only at i1 i2 i3
  cases q with
  |nil=>
   have C:gc j=.ok (.lot J V Y rs):=by
    rw[i,tx];have:cV G=some rs:=by rw[i1];simp[cV]
    simp only[n1,Z,n3,this];rfl
   simp only[dK,ky,bG,kF,go_sem,simprocAttr];refine az (λ_=>?_) (λh=>by cases h);refine zm ?_;refine jr C _ rfl ?_ ?_ (zbg s b ex _ n O N 10 16 17 18 19 20 _ _ _ rs (by simp at i3;omega) rfl rfl rfl rfl rfl (by decide) rfl)
   .simp only[go_sem,simprocAttr]
   .simp[go_sem]
  |cons w r=>
   have a9:decide ((0:Int)<((r.length+1:Nat):Int))=true:=decide_eq_true (by omega);have a2:(0:Int)<((r.length+1:Nat):Int):=by omega
   have a7:(1:Int)<=((r.length+1:Nat):Int):=by omega
   have a5:List.take (r.length+1) (PV.str (bs w)::r.map λx=>PV.str (bs x))=PV.str (bs w)::r.map λx=>PV.str (bs x):=dt (by simp);have a1:rs.length+1<=ai:=by simp at i3;simp only[ai];omega
   cases hx:w==kX;rotate_left
   .have a4:=eq_of_beq hx;simp only[dK,ky,bG,a2,a7,a5,a1,XX,hx,OE,aD,XZ,go_sem,simprocAttr];refine And.intro (.inr ⟨20,_,rfl,rfl⟩) ?_;refine aF (r,rs++[-1]) ⟨?_,λw hw=>i2 w (by simp[hw]),by simp at i3 |-;omega⟩ (by dsimp only[List.length_cons];omega) ?_
    .show cV G=(cV r).map ((rs++[-1])++·);rw[i1,cV,if_pos a4];cases cV r<;>simp
    .simp only[dK,ky,bG,ak,aK,aS,bf,bx,GX,go_sem,simprocAttr]
   simp only[dK,ky,bG,a2,XX,hx,go_sem,simprocAttr];refine i6 (w::r) 13 14 i2 rfl rfl (λw' r' z' e' n'=>?_) (λz o=>?_);rotate_left
   .refine zm ?_
    exact bK (e:=6) (by
     rw[i,tx];have a6:=z w r rfl;have:cV G=none:=by rw[i1,cV,if_neg (by simpa using hx),a6];rfl
     simp only[n1,Z,n3,this]
     rfl) _ rfl
   cases e';simp only[a1,OE,go_sem,simprocAttr];refine aF (r,rs++[z']) ⟨?_,λw hw=>i2 w (by simp[hw]),by simp at i3 |-;omega⟩ (by dsimp only[List.length_cons];omega) ?_
   .show cV G=(cV r).map ((rs++[z'])++·);rw[i1,cV,if_neg (by simpa using hx),n'];cases cV r<;>simp
   .simp only[dK,ky,bG,ak,aK,aS,bf,bx,GX,go_sem,simprocAttr]
 refine zo @PP c0 ?_;cases c1:v==j2;rotate_left
 .have A:=eq_of_beq c1;subst A;refine zo @Iu c1 ?_;refine lF ws 13 14 rfl rfl (λJ u D n1=>?_) (λz o=>?_);rotate_left
  .refine zm ?_;exact bK (e:=6) (by rw[i,nW];rcases ws with _|⟨F,_|⟨E,_|⟨M,_|⟨U,_|⟨x5,_⟩⟩⟩⟩⟩<;>simp_all [bE]) _ rfl
  subst D;simp only[dK,bG,go_sem,simprocAttr];refine lF u 13 14 rfl rfl (λV K L Z=>?_) (λz o=>?_);rotate_left
  .refine zm ?_;exact bK (e:=6) (by rw[i,nW];rcases u with _|⟨F,_|⟨E,_|⟨M,_|⟨U,_⟩⟩⟩⟩<;>simp_all [bE]) _ rfl
  subst L;simp only[dK,bG,go_sem,simprocAttr];refine lF K 13 14 rfl rfl (λw3 G X n3=>?_) (λz o=>?_);rotate_left
  .refine zm ?_;exact bK (e:=6) (by rw[i,nW];rcases K with _|⟨F,_|⟨E,_|⟨M,_⟩⟩⟩<;>simp_all [bE]) _ rfl
  subst X;simp only[dK,bG,go_sem,simprocAttr];refine i6 G 13 14 (λw hw=>l w (by simp[hw])) rfl rfl (λw4 r4 z4 e4 n4=>?_) (λz o=>?_);rotate_left
  .refine zm ?_;exact bK (e:=6) (by rw[i,nW];rcases G with _|⟨F,_|⟨E,_⟩⟩<;>simp_all [bE]) _ rfl
  subst e4;simp only[dK,bG,go_sem,simprocAttr]
  cases r4 with
  |cons y q=>
   have I:(((q.length+1:Nat):Int)==0)=false:=by rw[beq_eq_false_iff_ne];omega
   refine zn I ?_;refine az (λh=>by cases h) (λ_=>?_);refine zm ?_
   exact bK (e:=6) (by rw[i,nW];simp_all [bE]) _ rfl
  |nil=>
   refine zm ?_;refine az (λ_=>?_) (λh=>by cases h);refine zm ?_;have C:gc j=.ok (.batch J V w3 z4):=by rw[i,nW];simp_all [bE]
   refine jr C _ rfl ?_ ?_ (Yx s b ex _ n O N 10 16 17 18 19 _ _ _ _ rfl rfl rfl rfl rfl)
   .simp only[go_sem,simprocAttr]
   .simp[go_sem]
 refine zo @Iu c1 ?_;cases c2:v==lg;rotate_left
 .have A:=eq_of_beq c2;subst A;refine zo @LK c2 ?_;refine lF ws 13 14 rfl rfl (λJ u D n1=>?_) (λz o=>?_);rotate_left
  .refine zm ?_;exact bK (e:=6) (by rw[i,yc];rcases ws with _|⟨F,_|⟨E,_⟩⟩<;>simp_all [bE]) _ rfl
  subst D;simp only[dK,bG,go_sem,simprocAttr]
  cases u with
  |cons y q=>
   have I:(((q.length+1:Nat):Int)==0)=false:=by rw[beq_eq_false_iff_ne];omega
   refine zn I ?_;refine az (λh=>by cases h) (λ_=>?_);refine zm ?_
   exact bK (e:=6) (by rw[i,yc];simp_all [bE]) _ rfl
  |nil=>
   refine zm ?_;refine az (λ_=>?_) (λh=>by cases h);refine zm ?_;have C:gc j=.ok (.drop J):=by rw[i,yc];simp_all [bE]
   refine jr C _ rfl ?_ ?_ (Ys s b ex _ n O N 10 16 _ rfl rfl)
   .simp only[go_sem,simprocAttr]
   .simp[go_sem]
 refine zo @LK c2 ?_;cases c3:v==l9;rotate_left
 .have A:=eq_of_beq c3;subst A;refine zo @LI c3 ?_;refine lF ws 13 14 rfl rfl (λJ u D n1=>?_) (λz o=>?_);rotate_left
  .refine zm ?_;exact bK (e:=6) (by rw[i,yb];rcases ws with _|⟨F,_|⟨E,_⟩⟩<;>simp_all [bE]) _ rfl
  subst D;simp only[dK,bG,go_sem,simprocAttr]
  cases u with
  |cons y q=>
   have I:(((q.length+1:Nat):Int)==0)=false:=by rw[beq_eq_false_iff_ne];omega
   refine zn I ?_;refine az (λh=>by cases h) (λ_=>?_);refine zm ?_
   exact bK (e:=6) (by rw[i,yb];simp_all [bE]) _ rfl
  |nil=>
   refine zm ?_;refine az (λ_=>?_) (λh=>by cases h);refine zm ?_;have C:gc j=.ok (.plan J):=by rw[i,yb];simp_all [bE]
   refine jr C _ rfl ?_ ?_ (Yr s b ex _ n O N 10 16 _ rfl rfl)
   .simp only[go_sem,simprocAttr]
   .simp[go_sem]
 refine zo @LI c3 ?_;cases c4:v==jF;rotate_left
 .have A:=eq_of_beq c4;subst A;refine zo @LH c4 ?_;refine lF ws 13 14 rfl rfl (λJ u D n1=>?_) (λz o=>?_);rotate_left
  .refine zm ?_;exact bK (e:=6) (by rw[i,ya];rcases ws with _|⟨F,_|⟨E,_⟩⟩<;>simp_all [bE]) _ rfl
  subst D;simp only[dK,bG,go_sem,simprocAttr]
  cases u with
  |cons y q=>
   have I:(((q.length+1:Nat):Int)==0)=false:=by rw[beq_eq_false_iff_ne];omega
   refine zn I ?_;refine az (λh=>by cases h) (λ_=>?_);refine zm ?_
   exact bK (e:=6) (by rw[i,ya];simp_all [bE]) _ rfl
  |nil=>
   refine zm ?_;refine az (λ_=>?_) (λh=>by cases h);refine zm ?_;have C:gc j=.ok (.pour J):=by rw[i,ya];simp_all [bE]
   refine jr C _ rfl ?_ ?_ (Yq s b ex _ n O N 10 16 _ rfl rfl)
   .simp only[go_sem,simprocAttr]
   .simp[go_sem]
 refine zo @LH c4 ?_;cases c5:v==fj;rotate_left
 .have A:=eq_of_beq c5;subst A;refine zo @CM c5 ?_;refine lF ws 13 14 rfl rfl (λJ u D n1=>?_) (λz o=>?_);rotate_left
  .refine zm ?_;exact bK (e:=6) (by rw[i,tv];rcases ws with _|⟨F,_|⟨E,_⟩⟩<;>simp_all [bE]) _ rfl
  subst D;simp only[dK,bG,go_sem,simprocAttr]
  cases u with
  |cons y q=>
   have I:(((q.length+1:Nat):Int)==0)=false:=by rw[beq_eq_false_iff_ne];omega
   refine zn I ?_;refine az (λh=>by cases h) (λ_=>?_);refine zm ?_
   exact bK (e:=6) (by rw[i,tv];simp_all [bE]) _ rfl
  |nil=>
   refine zm ?_;refine az (λ_=>?_) (λh=>by cases h);refine zm ?_;have C:gc j=.ok (.promise J):=by rw[i,tv];simp_all [bE]
   refine jr C _ rfl ?_ ?_ (SS s b ex _ n O N 10 16 _ rfl rfl)
   .simp only[go_sem,simprocAttr]
   .simp[go_sem]
 refine zo @CM c5 ?_;cases c6:v==kn;rotate_left
 .have A:=eq_of_beq c6;subst A;refine zo @PQ c6 ?_;refine lF ws 13 14 rfl rfl (λJ u D n1=>?_) (λz o=>?_);rotate_left
  .refine zm ?_;exact bK (e:=6) (by rw[i,wt];rcases ws with _|⟨F,_|⟨E,_|⟨M,_⟩⟩⟩<;>simp_all [bE]) _ rfl
  subst D;simp only[dK,bG,go_sem,simprocAttr];refine i6 u 13 14 (λw hw=>l w (by simp[hw])) rfl rfl (λV K z2 L Z=>?_) (λz o=>?_);rotate_left
  .refine zm ?_;exact bK (e:=6) (by rw[i,wt];rcases u with _|⟨F,_|⟨E,_⟩⟩<;>simp_all [bE]) _ rfl
  subst L;simp only[dK,bG,go_sem,simprocAttr]
  cases K with
  |cons y q=>
   have I:(((q.length+1:Nat):Int)==0)=false:=by rw[beq_eq_false_iff_ne];omega
   refine zn I ?_;refine az (λh=>by cases h) (λ_=>?_);refine zm ?_
   exact bK (e:=6) (by rw[i,wt];simp_all [bE]) _ rfl
  |nil=>
   refine zm ?_;refine az (λ_=>?_) (λh=>by cases h);refine zm ?_;have C:gc j=.ok (.box J z2):=by rw[i,wt];simp_all [bE]
   refine jr C _ rfl ?_ ?_ (zbh s b ex _ n O N 10 16 17 _ _ rfl rfl rfl)
   .simp only[go_sem,simprocAttr]
   .simp[go_sem]
 refine zo @PQ c6 ?_;cases c7:v==jG;rotate_left
 .have A:=eq_of_beq c7;subst A;refine zo @LJ c7 ?_
  cases ws with
  |cons y q=>
   have I:(((q.length+1:Nat):Int)==0)=false:=by rw[beq_eq_false_iff_ne];omega
   simp only[I,dK,bG,go_sem,simprocAttr];refine az (λh=>by cases h) (λ_=>?_);refine zm ?_
   exact bK (e:=6) (by rw[i,E4];simp_all [bE]) _ rfl
  |nil=>
   simp only[dK,bG,go_sem,simprocAttr];refine az (λ_=>?_) (λh=>by cases h);refine zm ?_;have C:gc j=.ok (.look):=by rw[i,E4];simp_all [bE]
   refine jr C _ rfl ?_ ?_ (lG (Ny s b ex n N) (by simp[go_sem]) _)
   .simp only[go_sem,simprocAttr]
   .simp[go_sem]
 refine zo @LJ c7 ?_;cases c8:v==ji;rotate_left
 .have A:=eq_of_beq c8;subst A;refine zo @LG c8 ?_;refine lF ws 13 14 rfl rfl (λJ u D n1=>?_) (λz o=>?_);rotate_left
  .refine zm ?_;exact bK (e:=6) (by rw[i,ni];rcases ws with _|⟨F,_|⟨E,_|⟨M,_|⟨U,_|⟨x5,_|⟨x6,_⟩⟩⟩⟩⟩⟩<;>simp_all [bE]) _ rfl
  subst D;simp only[dK,bG,go_sem,simprocAttr];refine i6 u 13 14 (λw hw=>l w (by simp[hw])) rfl rfl (λV K z2 L Z=>?_) (λz o=>?_);rotate_left
  .refine zm ?_;exact bK (e:=6) (by rw[i,ni];rcases u with _|⟨F,_|⟨E,_|⟨M,_|⟨U,_|⟨x5,_⟩⟩⟩⟩⟩<;>simp_all [bE]) _ rfl
  subst L;simp only[dK,bG,go_sem,simprocAttr];refine i6 K 13 14 (λw hw=>l w (by simp[hw])) rfl rfl (λw3 G Y X n3=>?_) (λz o=>?_);rotate_left
  .refine zm ?_;exact bK (e:=6) (by rw[i,ni];rcases K with _|⟨F,_|⟨E,_|⟨M,_|⟨U,_⟩⟩⟩⟩<;>simp_all [bE]) _ rfl
  subst X;simp only[dK,bG,go_sem,simprocAttr];refine i6 G 13 14 (λw hw=>l w (by simp[hw])) rfl rfl (λw4 r4 z4 e4 n4=>?_) (λz o=>?_);rotate_left
  .refine zm ?_;exact bK (e:=6) (by rw[i,ni];rcases G with _|⟨F,_|⟨E,_|⟨M,_⟩⟩⟩<;>simp_all [bE]) _ rfl
  subst e4;simp only[dK,bG,go_sem,simprocAttr];refine i6 r4 13 14 (λw hw=>l w (by simp[hw])) rfl rfl (λw5 r5 z5 e5 n5=>?_) (λz o=>?_);rotate_left
  .refine zm ?_;exact bK (e:=6) (by rw[i,ni];rcases r4 with _|⟨F,_|⟨E,_⟩⟩<;>simp_all [bE]) _ rfl
  subst e5;simp only[dK,bG,go_sem,simprocAttr]
  cases r5 with
  |cons y q=>
   have I:(((q.length+1:Nat):Int)==0)=false:=by rw[beq_eq_false_iff_ne];omega
   refine zn I ?_;refine az (λh=>by cases h) (λ_=>?_);refine zm ?_
   exact bK (e:=6) (by rw[i,ni];simp_all [bE]) _ rfl
  |nil=>
   refine zm ?_;refine az (λ_=>?_) (λh=>by cases h);refine zm ?_;have C:gc j=.ok (.wick J z2 Y z4 z5):=by rw[i,ni];simp_all [bE]
   refine jr C _ rfl ?_ ?_ (zan s b ex _ n O N 10 16 17 _ _ _ _ _ rfl rfl rfl)
   .simp only[go_sem,simprocAttr]
   .simp[go_sem]
 refine zo @LG c8 ?_;cases c9:v==gj;rotate_left
 .have A:=eq_of_beq c9;subst A;refine zo @It c9 ?_;refine i6 ws 13 14 (λw hw=>l w (by simp[hw])) rfl rfl (λJ u z1 D n1=>?_) (λz o=>?_);rotate_left
  .refine zm ?_;exact bK (e:=6) (by rw[i,pQ];rcases ws with _|⟨F,_|⟨E,_|⟨M,_|⟨U,_⟩⟩⟩⟩<;>simp_all [bE]) _ rfl
  subst D;simp only[dK,bG,go_sem,simprocAttr];refine i6 u 13 14 (λw hw=>l w (by simp[hw])) rfl rfl (λV K z2 L Z=>?_) (λz o=>?_);rotate_left
  .refine zm ?_;exact bK (e:=6) (by rw[i,pQ];rcases u with _|⟨F,_|⟨E,_|⟨M,_⟩⟩⟩<;>simp_all [bE]) _ rfl
  subst L;simp only[dK,bG,go_sem,simprocAttr];refine i6 K 13 14 (λw hw=>l w (by simp[hw])) rfl rfl (λw3 G Y X n3=>?_) (λz o=>?_);rotate_left
  .refine zm ?_;exact bK (e:=6) (by rw[i,pQ];rcases K with _|⟨F,_|⟨E,_⟩⟩<;>simp_all [bE]) _ rfl
  subst X;simp only[dK,bG,go_sem,simprocAttr]
  cases G with
  |cons y q=>
   have I:(((q.length+1:Nat):Int)==0)=false:=by rw[beq_eq_false_iff_ne];omega
   refine zn I ?_;refine az (λh=>by cases h) (λ_=>?_);refine zm ?_
   exact bK (e:=6) (by rw[i,pQ];simp_all [bE]) _ rfl
  |nil=>
   refine zm ?_;refine az (λ_=>?_) (λh=>by cases h);refine zm ?_;have C:gc j=.ok (.blend z1 z2 Y):=by rw[i,pQ];simp_all [bE]
   refine jr C _ rfl ?_ ?_ (Yw s b ex _ n O N 10 16 _ _ _ rfl rfl)
   .simp only[go_sem,simprocAttr]
   .simp[go_sem]
 refine zo @It c9 ?_;cases T:v==gi;rotate_left
 .have A:=eq_of_beq T;subst A;refine zo @Is T ?_
  cases ws with
  |cons y q=>
   have I:(((q.length+1:Nat):Int)==0)=false:=by rw[beq_eq_false_iff_ne];omega
   simp only[I,dK,bG,go_sem,simprocAttr];refine az (λh=>by cases h) (λ_=>?_);refine zm ?_
   exact bK (e:=6) (by rw[i,Ci];simp_all [bE]) _ rfl
  |nil=>
   simp only[dK,bG,go_sem,simprocAttr];refine az (λ_=>?_) (λh=>by cases h);refine zm ?_;have C:gc j=.ok (.stock):=by rw[i,Ci];simp_all [bE]
   refine jr C _ rfl ?_ ?_ (lG (X2 s b ex n O N) (by simp[go_sem]) _)
   .simp only[go_sem,simprocAttr]
   .simp[go_sem]
 refine zp @Is T @kF ?_;refine az (λh=>by cases h) (λ_=>?_);refine zm ?_;exact bK (e:=6) (by rw[i,U3 c0 c1 c2 c3 c4 c5 c6 c7 c8 c9 T];rfl) _ rfl
end Ch
end Abs
end Go.Proofs.YtgafommgcfhkkaaGreatDoor
