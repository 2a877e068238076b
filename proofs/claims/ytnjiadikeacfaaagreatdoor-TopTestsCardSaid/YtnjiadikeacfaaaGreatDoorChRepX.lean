/- CONTRACTS of the program's functions, and laws on what they return. No conditions but those in the theorems' heads. -/
import Derived.Test.YtnjiadikeacfaaaGreatDoorChBk3X
set_option linter.all false
open Go.Proofs.Tryz renaming prog->TP
namespace Go.Proofs.YtnjiadikeacfaaaGreatDoor
namespace Abs
namespace Ch
set_option maxRecDepth 4000
theorem Uj(n)(h1:1<=n)(h5:n<=5):af TP 296 [.int .u64 1,.int .u64 n] (.tuple [.int .u64 0,.int .u64 n]):=by
 have hn:n=1\/n=2\/n=3\/n=4\/n=5:=by omega
 have f0:fg .shr .u64 0 32=some (.int .u64 0):=rfl;have f1:fg .shr .u64 1 32=some (.int .u64 0):=rfl;have w0:IntKind.u64.wrap 0=0:=rfl;have w1:IntKind.u64.wrap 1=1:=rfl;rcases hn with rfl|rfl|rfl|rfl|rfl
 .have f2:fg .shr .u64 1 32=some (.int .u64 0):=rfl;have w2:IntKind.u64.wrap 1=1:=rfl;refine aa (ah Tryz.func296 rfl (by kernel_rfl)) rfl ?_;simp only[f1,f0,w0,w1,AJ,DL,tq,uR,go_sem,simprocAttr]
 .have f2:fg .shr .u64 2 32=some (.int .u64 0):=rfl;have w2:IntKind.u64.wrap 2=2:=rfl;refine aa (ah Tryz.func296 rfl (by kernel_rfl)) rfl ?_;simp only[f1,f0,f2,w0,w1,w2,AJ,DL,tq,uR,go_sem,simprocAttr]
 .have f2:fg .shr .u64 3 32=some (.int .u64 0):=rfl;have w2:IntKind.u64.wrap 3=3:=rfl;refine aa (ah Tryz.func296 rfl (by kernel_rfl)) rfl ?_;simp only[f1,f0,f2,w0,w1,w2,AJ,DL,tq,uR,go_sem,simprocAttr]
 .have f2:fg .shr .u64 4 32=some (.int .u64 0):=rfl;have w2:IntKind.u64.wrap 4=4:=rfl;refine aa (ah Tryz.func296 rfl (by kernel_rfl)) rfl ?_;simp only[f1,f0,f2,w0,w1,w2,AJ,DL,tq,uR,go_sem,simprocAttr]
 .have f2:fg .shr .u64 5 32=some (.int .u64 0):=rfl;have w2:IntKind.u64.wrap 5=5:=rfl;refine aa (ah Tryz.func296 rfl (by kernel_rfl)) rfl ?_;simp only[f1,f0,f2,w0,w1,w2,AJ,DL,tq,uR,go_sem,simprocAttr]
theorem FB(n)(h1:1<=n)(h5:n<=5):af TP 268 [.int .u64 1,.int .u64 n] (.tuple [.int .u64 0,.int .u64 n]):=by
 refine aa (ah Tryz.func268 rfl (by kernel_rfl)) rfl ?_;simp only[go_sem,simprocAttr];refine ae (Uj n h1 h5) rfl ?_;simp only[go_sem,simprocAttr]
def BN:Hints:=eu [(38,.low),(45,.app 41),(5000001,.nop)]
theorem zC:cv BN Tryz.f215=true:=by kernel_rfl
theorem EP:Nat.min 1 1=1/\Nat.min 1 2=1/\Nat.min 1 3=1/\Nat.min 1 4=1/\Nat.min 2 1=1/\Nat.min 2 2=2/\Nat.min 2 3=2/\Nat.min 4 1=1:=by decide
theorem iw:IntKind.i64.wrap 1=1/\IntKind.i64.wrap (1+1)=2/\IntKind.i64.wrap (2+1)=3/\IntKind.i64.wrap (2+2)=4/\IntKind.i64.wrap (4+1)=5:=by decide
def nN:PV:=.agg [.int .i64 0,.int .i64 20]
theorem N7:gZ TP 215 [.slice 2 [.agg [.int .i64 0,.int .i64 20]] true,.int .i64 1] (.slice 2 (List.replicate 1 nN) false):=by
 obtain⟨m1,m2,m3,m4,m5,m6,m7,m8⟩:=EP;obtain⟨i1,i2,i3,i4,i5⟩:=iw;refine fO (eA (by kernel_rfl) rfl zC) rfl ?_;simp only[BN,go_sem,simprocAttr];refine ae (FB 1 (by decide) (by decide)) rfl ?_;have hrm:(1:Int)<=(ar:Int):=by decide
 simp only[hrm,go_sem,simprocAttr];refine aU ?_;simp only[nN,go_sem,simprocAttr]
 trace_state
theorem N6:gZ TP 215 [.slice 2 [.agg [.int .i64 0,.int .i64 20]] true,.int .i64 2] (.slice 2 (List.replicate 2 nN) false):=by
 obtain⟨m1,m2,m3,m4,m5,m6,m7,m8⟩:=EP;obtain⟨i1,i2,i3,i4,i5⟩:=iw;refine fO (eA (by kernel_rfl) rfl zC) rfl ?_;simp only[BN,go_sem,simprocAttr];refine ae (FB 2 (by decide) (by decide)) rfl ?_;have hrm:(2:Int)<=(ar:Int):=by decide
 simp only[hrm,go_sem,simprocAttr];refine aU ?_;simp only[aV,go_sem,simprocAttr];refine And.intro (.inr ⟨0,_,rfl,rfl⟩) ?_;simp only[m1,go_sem,simprocAttr];refine aU ?_;simp only[nN,go_sem,simprocAttr]
theorem N5:gZ TP 215 [.slice 2 [.agg [.int .i64 0,.int .i64 20]] true,.int .i64 3] (.slice 2 (List.replicate 3 nN) false):=by
 obtain⟨m1,m2,m3,m4,m5,m6,m7,m8⟩:=EP;obtain⟨i1,i2,i3,i4,i5⟩:=iw;refine fO (eA (by kernel_rfl) rfl zC) rfl ?_;simp only[BN,go_sem,simprocAttr];refine ae (FB 3 (by decide) (by decide)) rfl ?_;have hrm:(3:Int)<=(ar:Int):=by decide
 simp only[hrm,go_sem,simprocAttr];refine aU ?_;simp only[aV,go_sem,simprocAttr];refine And.intro (.inr ⟨0,_,rfl,rfl⟩) ?_;simp only[m2,m3,go_sem,simprocAttr];refine aU ?_;simp only[aV,go_sem,simprocAttr];refine And.intro (.inr ⟨0,_,rfl,rfl⟩) ?_;simp only[m5,m6,go_sem,simprocAttr];refine aU ?_;simp only[nN,go_sem,simprocAttr]
theorem N4:gZ TP 215 [.slice 2 [.agg [.int .i64 0,.int .i64 20]] true,.int .i64 4] (.slice 2 (List.replicate 4 nN) false):=by
 obtain⟨m1,m2,m3,m4,m5,m6,m7,m8⟩:=EP;obtain⟨i1,i2,i3,i4,i5⟩:=iw;refine fO (eA (by kernel_rfl) rfl zC) rfl ?_;simp only[BN,go_sem,simprocAttr];refine ae (FB 4 (by decide) (by decide)) rfl ?_;have hrm:(4:Int)<=(ar:Int):=by decide
 simp only[hrm,go_sem,simprocAttr];refine aU ?_;simp only[aV,go_sem,simprocAttr];refine And.intro (.inr ⟨0,_,rfl,rfl⟩) ?_;simp only[m2,m3,go_sem,simprocAttr];refine aU ?_;simp only[aV,go_sem,simprocAttr];refine And.intro (.inr ⟨0,_,rfl,rfl⟩) ?_;simp only[m5,m6,go_sem,simprocAttr];refine aU ?_;simp only[nN,go_sem,simprocAttr]
theorem N3:gZ TP 215 [.slice 2 [.agg [.int .i64 0,.int .i64 20]] true,.int .i64 5] (.slice 2 (List.replicate 5 nN) false):=by
 obtain⟨m1,m2,m3,m4,m5,m6,m7,m8⟩:=EP;obtain⟨i1,i2,i3,i4,i5⟩:=iw;refine fO (eA (by kernel_rfl) rfl zC) rfl ?_;simp only[BN,go_sem,simprocAttr];refine ae (FB 5 (by decide) (by decide)) rfl ?_;have hrm:(5:Int)<=(ar:Int):=by decide
 simp only[hrm,go_sem,simprocAttr];refine aU ?_;simp only[aV,go_sem,simprocAttr];refine And.intro (.inr ⟨0,_,rfl,rfl⟩) ?_;simp only[m4,go_sem,simprocAttr];refine aU ?_;simp only[aV,go_sem,simprocAttr];refine And.intro (.inr ⟨0,_,rfl,rfl⟩) ?_;simp only[m7,go_sem,simprocAttr];refine aU ?_;simp only[aV,go_sem,simprocAttr];refine And.intro (.inr ⟨0,_,rfl,rfl⟩) ?_;simp only[m8,go_sem,simprocAttr];refine aU ?_;simp only[nN,go_sem,simprocAttr]
theorem QM(n:Nat)(h1:1<=n)(h5:n<=5):gZ TP 215 [.slice 2 [.agg [.int .i64 0,.int .i64 20]] true,.int .i64 n] (.slice 2 (List.replicate n nN) false):=by
 match n,h1,h5 with
 |1,_,_=>exact N7
 |2,_,_=>exact N6
 |3,_,_=>exact N5
 |4,_,_=>exact N4
 |5,_,_=>exact N3
theorem SOk.wickwaxes{s}(h:SOk s):s.wick.waxes.length<1000000000:=by
 have:=(Wk.vd h.wick).lx;omega
theorem I3{s}{c}{x}(h:(Wk.d9 s c x).2=0):Wk.rH s (Wk.d9 s c x).1:=by
 unfold Wk.d9 at h |-;split at h
 .rename_i h0;rw[if_pos h0];split at h
  .cases h
  .rename_i h1;rw[if_neg h1];rcases Wk.uA s (Wk.gH s c x s.wicks 0) (-1) (Wk.ox s c x s.wicks 0 (by simp)) (.inl rfl) with e|e
   .rw[e]at h1;exact absurd (by decide) h1
   .exact e
 .rename_i h0;exact absurd h h0
set_option maxHeartbeats 1000000 in
theorem VB(s)(b)(ex)(n)(hs:SOk s)(hb:BkOk s b n)(kind)(a b' c d):aB TP 150 [.ptr 2 1 0 0,.p (.str (bs kind)),.p (.agg [.int .i64 a,.int .i64 b',.int .i64 c,.int .i64 d])] (B7 s b ex) (j4 s b ex (aP s b (.wick kind a b' c d))):=by
 refine bK (ah Tryz.func150 rfl (by kernel_rfl)) rfl ?_;simp only[ChShop.cells,go_sem,simprocAttr];rcases rS (λx:Wax=>x.name==bs kind) s.wick.waxes 0 with h3|⟨j,x,hj,hx,_⟩
 .refine ro (S8 s.wick.waxes (bs kind) false hs.wickwaxes h3) rfl (mv _) ?_;simp only[go_sem,simprocAttr];exact dl (e:=4) (by simp only[aP,if_pos h3]) [_] rfl
 rw[d5]at hj;have hnj:¬(j:Int)<0:=by omega
 have hfd:=Ul s.wick.waxes (bs kind) false hs.wickwaxes (by omega);rw[hj]at hfd;refine ae hfd rfl ?_;simp only[go_sem,simprocAttr];have hT:=Wk.Dg s.wick ⟨(j:Int),a,b',⟨c,d⟩⟩ x (λh0=>by
  obtain⟨x',hx'⟩:=Wk.NH h0;have:=hx'.hx;dsimp only at this;rw[jO,hx]at this;cases this
  exact hx')
 refine ay hT rfl ?_;by_cases h4:(Wk.d9 s.wick ⟨(j:Int),a,b',⟨c,d⟩⟩ x).2=0;rotate_left
 .have h4':((Wk.d9 s.wick ⟨(j:Int),a,b',⟨c,d⟩⟩ x).2==0)=false:=by simpa using h4
  simp only[h4',go_sem,simprocAttr];refine au (λh=>by cases h) (λ_=>?_);simp only[go_sem,simprocAttr];exact dl (e:=(Wk.d9 s.wick ⟨(j:Int),a,b',⟨c,d⟩⟩ x).2) (by simp only[aP,hj,if_neg hnj,jO,hx,if_pos h4]) [_] rfl
 have h4n:¬(Wk.d9 s.wick ⟨(j:Int),a,b',⟨c,d⟩⟩ x).2≠0:=λh=>h h4;have hv:=I3 h4;simp only[h4,go_sem,simprocAttr];refine au (λ_=>?_) (λh=>by cases h);obtain⟨k,hk⟩:=pq hv.1;have hkl:k<s.wick.wicks.length:=by have:=hv.2;omega
 obtain⟨w,hw⟩:∃w,s.wick.wicks[k]?=some w:=⟨_,bA hkl⟩
 have hkB:(k:Int)<(s.wick.wicks.length:Int):=by omega
 simp only[hk,hkB,hw,go_sem,simprocAttr];have hact:aP s b (.wick kind a b' c d)=.ok (b,bl w.name):=by
  simp only[aP,hj,if_neg hnj,jO,hx,if_neg h4n,hk,hw]
 have:=gX (s:=s) (b:=b) (ex:=ex) (ex':=ex) hact (hh:=B7 s b ex++[.row 4 [.p (.agg [.int .i64 a,.int .i64 b',.int .i64 c,.int .i64 d])]]) [_] rfl;rw[J9]at this;exact this
theorem UA{l}(h:(bdCheck l).2.2=0):1<=l.length/\l.length<=5:=by
 unfold bdCheck at h;split at h
 .rename_i h1;simp[al]at h1;omega
 .cases h
theorem GY{l}{w}(h:(b9 l w).2.2=0):((b9 l w).1.length<=1000/\∀n,n∈(b9 l w).1->0<=n/\n<1000000000)/\0<=(b9 l w).2.1/\(b9 l w).2.1<1000000000:=by
 unfold b9 at h |-;split at h
 .rename_i h0;rw[if_pos h0];obtain⟨hl,hw⟩:=BP h0;split at h
  .cases h
  .rename_i r hr;dsimp only;have hm:r∈fits l w:=by
    rcases lV _ _ _ _ hr with h|h
    .cases h
    .exact h
   have hro:=(yG hl hm).1;have hb:=(HB (tO hl hro.rng)).2.2.2.2.1;have h5:=hl.len;have h6:=hro.len;have hp:cX jE (l.zip r)=eN l r:=rfl;refine⟨⟨by omega,λn hn=>?_⟩,?_,?_⟩
   .have:=hro.rng n hn;omega
   .rw[<-hp];exact hb.1
   .rw[<-hp];omega
 .rename_i h0;exact absurd h h0
theorem Qk(s)(a b' c):(im s a b' c).pv=.agg [.slice 2 (List.replicate s.blend.length nN) false,.int .i64 a,.int .i64 b',.int .i64 0,.int .i64 c]:=by
 simp only[BdWish.pv,im,List.map_replicate,Span.pv,nN]
set_option maxHeartbeats 1000000 in
theorem E9(s)(b)(ex)(n)(hs:SOk s)(hb:BkOk s b n)(a b' c):aB TP 152 [.ptr 2 1 0 0,.p (.agg [.int .i64 a,.int .i64 b',.int .i64 c])] (B7 s b ex) (j4 s b ex (aP s b (.blend a b' c))):=by
 refine bK (ah Tryz.func152 rfl (by kernel_rfl)) rfl ?_;simp only[ChShop.cells,go_sem,simprocAttr];have hbl:=UA hs.blend;have hR:=QM s.blend.length hbl.1 hbl.2;refine wn hR rfl ?_;simp only[go_sem,simprocAttr];refine ay (ME s.blend (im s a b' c)) (by rw[Qk];rfl) ?_;by_cases h4:(b9 s.blend (im s a b' c)).2.2=0;rotate_left
 .have h4':((b9 s.blend (im s a b' c)).2.2==0)=false:=by simpa using h4
  simp only[sX,h4',go_sem,simprocAttr];refine au (λh=>by cases h) (λ_=>?_);simp only[go_sem,simprocAttr];exact dl (e:=(b9 s.blend (im s a b' c)).2.2) (by simp only[aP,if_pos h4]) [_,_] rfl
 have h4n:¬(b9 s.blend (im s a b' c)).2.2≠0:=λh=>h h4;obtain⟨c1,c2⟩:=GY h4;simp only[sX,h4,go_sem,simprocAttr];refine au (λ_=>?_) (λh=>by cases h);simp only[go_sem,simprocAttr];have hsd:=oG [.ns (b9 s.blend (im s a b' c)).1,.n (b9 s.blend (im s a b' c)).2.1] true (by simp) (λw hw=>by
  simp only[ce,fW,or_false]at hw;rcases hw with rfl|rfl
  .exact c1
  .exact c2)
 refine ae hsd rfl ?_;simp only[go_sem,simprocAttr];exact gX (b':=b) (ex':=ex) (a:=joinL ([Word.ns (b9 s.blend (im s a b' c)).1,.n (b9 s.blend (im s a b' c)).2.1].flatMap Word.ws)) (by simp only[aP,if_neg h4n];rfl) [_,_] rfl
end Ch
theorem GR{P}{f}{args args'}{h}{R}(K)(hl:args'.length=args.length)
  (ha:∀(i:Nat) (a'),args'[i]?=some a'->args[i]?=some a'\/∃a q,args[i]?=some a/\a'=.p q/\xC (dB (λi=>!K i) h) a=some q)
  (hc:aB P f args' (dB K h) R):aB P f args h R:=by
 intro M0 m w cargs hS hargs;have e0:=Bg ⟨m,h,w⟩ K h.length;have hk:=yD hS K;have hargs':dE (Rep M0 (Mem.kill K ⟨m,h,w⟩)) cargs args':=by
  refine⟨by rw[hargs.1,hl],λi a' hi=>?_⟩;rcases ha i a' hi with h1|⟨a,q,h1,rfl,h2⟩
  .exact e0.keep (hargs.2 i a' h1)
  .exact yE (S:=⟨m,h,w⟩) hS K (hargs.2 i a h1) h2
 have:=hc M0 (gr K m) w cargs hk hargs';refine⟨this.1,this.2.mono λe w' hh=>?_⟩;obtain⟨r,h',m',hR,hev,hk',hend⟩:=hh;have hlen:(dB K h).length=h.length:=by simp[dB]
 rw[hlen]at hev;exact⟨r,h',m',hR,e0.trans hev,hk',hend⟩
theorem nY{n}{a}(h:dO n a):pD (·≠n) a:=by
 cases a<;>first|exact wy h|exact trivial
theorem H2{n}{a}(h:eU n a):qT (·≠n) a:=by
 cases a<;>first|exact wy h|exact trivial|exact⟨λc hc=>nY (h.1 c hc),λc hc=>nY (h.2 c hc)⟩
theorem QY{n}{a}(h:fV n a):su (·≠n) a:=by
 cases a<;>first|exact wy h|exact trivial|exact λc hc=>H2 (h c hc)|exact⟨λc hc=>nY (h.1 c hc),λc hc=>nY (h.2 c hc)⟩
theorem zY{n}{a}(h:below n a):qU (·≠n) a:=by
 cases a<;>first|exact wy h|exact trivial|exact λc hc=>QY (h c hc)|exact λc hc=>H2 (h c hc)|exact⟨λc hc=>nY (h.1 c hc),λc hc=>nY (h.2 c hc)⟩
theorem Cd{n}{o}(h:bf n o):oT (·≠n) o:=by
 cases o<;>first|exact trivial|exact λx hx=>zY (h x hx)|exact λt=>zY (h t)|exact nY h
theorem p4{T}:∀(live) (t),(cK (bT T live []) t=T t/\t∈live)\/cK (bT T live []) t=.undef
 |[],t=>.inr rfl
 |x::r,t=>by
  unfold bT cK;by_cases h:t=x
  .subst h;rw[if_pos rfl];exact .inl ⟨rfl,by simp⟩
  .rw[if_neg h];rcases p4 r t with⟨h1,h2⟩|h1
   .exact .inl ⟨h1,by simp[h2]⟩
   .exact .inr h1
theorem BI{P}{H}{Q}{x}{A}(live)(i sz)(hi:A.bs<=i)(hb:A.bs<=A.h.length)(hx:A.h[i]?=some (.row 1 [.p .nilslice]))(hl:∀t,t∈live->below A.h.length (A.tmps t))(ho:∀o,o∈A.h->bf A.h.length o)(hd:A.df=[])
  (k:@W ⟨P,H,.loop x,Q⟩ { n:=A.n,bs:=A.bs,rc:=A.rc,tmps:=cK (bT A.tmps live []),h:=A.h.set i (.row 1 [.slice A.h.length 0 0 0])++[.row sz []],df:=A.df }):@W ⟨P,H,.loop x,Q⟩ A:=by
 have hil:i<A.h.length:=(ax.1 hx).1
 have hw:=tz (P:=P) (A:={ A with h:=A.h++[.row sz []] }) (T:=cK (bT A.tmps live [])) A.h.length i sz 1 [.p .nilslice] [.slice A.h.length 0 0 0] hb hi (by simp) (by omega)
  (by rw[aZ hil];exact hx) rfl (λn x y h1 h2=>by
   match n,h1,h2 with
   |0,h1,h2=>
    cases h1;cases h2;refine⟨_,_,rfl,rfl,rfl,λj c d h3 h4=>?_⟩
    match j,h3,h4 with
    |0,h3,h4=>cases h3;cases h4;exact .inr ⟨rfl,rfl⟩
    |j+1,h3,h4=>cases h3
   |n+1,h1,h2=>simp at h1) (λt=>by
   rcases p4 (T:=A.tmps) live t with⟨h1,h2⟩|h1
   .exact .inl ⟨h1,zY (hl t h2)⟩
   .exact .inr h1) (λid o hid ho'=>by
   have hlt:id<A.h.length:=by
    have:=(ax.1 ho').1;simp at this;omega
   rw[aZ hlt]at ho'
   exact Cd (ho o (aT ho'))) hd
 have e:((A.h++[AObj.row sz []]).set A.h.length (.row sz [])).set i (.row 1 [.slice A.h.length 0 0 0])=A.h.set i (.row 1 [.slice A.h.length 0 0 0])++[.row sz []]:=by
  rw[tt _ _ (bi _),zb];show (A.h++[AObj.row sz []]).set i _=_;rw[y9 _ _ hil]
 refine eV (DX sz) (eV hw ?_);dsimp only;rw[e];exact k
namespace Ch
set_option maxRecDepth 4000
def cQ (l:List (List UInt8)):AObj:=.row 1 [.p (bM l)]
theorem z7(w)(ws)(id)(h)(hid:h[id]?=some (cQ (w::ws))) :
  aB TP 130 [.ptr id 1 0 0] h (λr h'=>r=.ret (.p (.str (bs w)))/\h'=h.set id (cQ ws)):=by
 unfold cQ bM at hid |-;have h0:(0:Int)<((ws.length+1:Nat):Int):=by omega
 have h0d:decide ((0:Int)<((ws.length+1:Nat):Int))=true:=decide_eq_true h0;refine aA (ah Tryz.func130 rfl (by kernel_rfl)) rfl ?_;simp only[hid,h0d,go_sem,simprocAttr];refine au (λ_=>?_) (λh=>by cases h);have h1:(1:Int)<=((ws.length+1:Nat):Int):=by omega
 have htk:List.take (ws.length+1) (PV.str (bs w)::ws.map λx=>PV.str (bs x))=PV.str (bs w)::ws.map λx=>PV.str (bs x):=gv (by simp);simp only[hid,h0,h1,htk,go_sem,simprocAttr]
theorem H4(id)(h)(hid:h[id]?=some (cQ [])) :
  aB TP 130 [.ptr id 1 0 0] h (λr h'=>r=.panic (f9 6)/\h'=h):=by
 unfold cQ bM at hid;refine aA (ah Tryz.func130 rfl (by kernel_rfl)) rfl ?_;simp only[hid,go_sem,simprocAttr];refine au (λh=>by cases h) (λ_=>?_);simp only[go_sem,simprocAttr]
def iP (id:Nat):AObj:=.row 1 [.func (.func 130) [] [.ptr id 1 0 0]]
theorem VF(w)(ws)(id jd)(h)(hid:h[id]?=some (cQ (w::ws)))(hjd:h[jd]?=some (iP id))(hn:cS w=some w) :
  aB TP 131 [.ptr jd 1 0 0] h (λr h'=>r=.ret (.p (.str (bs w)))/\h'=h.set id (cQ ws)):=by
 have hnm:nameOk (bs w)=true:=by
  unfold cS at hn;split at hn
  .assumption
  .cases hn
 unfold iP at hjd;refine aA (ah Tryz.func131 rfl (by kernel_rfl)) rfl ?_;simp only[hjd,go_sem,simprocAttr];refine ct (z7 w ws id h hid) ?_;simp only[go_sem,simprocAttr];refine ae (jn (bs w)) rfl ?_;simp only[hnm,go_sem,simprocAttr];refine au (λ_=>?_) (λh=>by cases h);simp only[go_sem,simprocAttr]
theorem N2{w v}(h:cS w=some v):v=w:=by
 unfold cS at h;split at h
 .cases h;rfl
 .cases h
theorem Q0(l)(id jd)(h)(hid:h[id]?=some (cQ l))(hjd:h[jd]?=some (iP id))(hn:∀w ws,l=w::ws->cS w=none) :
  aB TP 131 [.ptr jd 1 0 0] h (λr h'=>r=.panic (f9 6)/\∃o,h'=h.set id o):=by
 unfold iP at hjd;refine aA (ah Tryz.func131 rfl (by kernel_rfl)) rfl ?_;simp only[hjd,go_sem,simprocAttr]
 cases l with
 |nil=>
  refine s9 (H4 id h hid) ?_;simp only[go_sem,simprocAttr]
  exact⟨_,(ji hid).symm⟩
 |cons w ws=>
  have hnm:nameOk (bs w)=false:=by
   have:=hn w ws rfl;unfold cS at this;split at this
   .cases this
   .rename_i h;simpa using h
  refine ct (z7 w ws id h hid) ?_;simp only[go_sem,simprocAttr];refine ae (jn (bs w)) rfl ?_;simp only[hnm,go_sem,simprocAttr];refine au (λh=>by cases h) (λ_=>?_);simp only[go_sem,simprocAttr];exact⟨_,rfl⟩
theorem Ln{w}{v}(h:eP w=some v):jk w=some v/\0<=v/\v<=10000000/\bC v=w:=by
 unfold eP at h;split at h
 .rename_i x hx;split at h
  .rename_i hc;cases h;exact⟨hx,hc⟩
  .cases h
 .cases h
theorem QZ(w)(ws)(id jd)(h)(v)(hl:w.length<=1000000)(hid:h[id]?=some (cQ (w::ws)))(hjd:h[jd]?=some (iP id))(hn:eP w=some v) :
  aB TP 133 [.ptr jd 1 0 0] h (λr h'=>r=.ret (.p (.int .i64 v))/\h'=h.set id (cQ ws)):=by
 obtain⟨n1,n2,n3,n4⟩:=Ln hn;have hp:kl (bs w)=.tuple [.int .i64 v,.niliface]:=by
  unfold jk at n1;rw[kl,f'];cases ha:Lib.atoiAll w<;>rw[ha]at n1<;>first|cases n1;done|skip
  cases n1;rfl
 unfold iP at hjd;refine aA (ah Tryz.func133 rfl (by kernel_rfl)) rfl ?_;simp only[hjd,go_sem,simprocAttr];refine ct (z7 w ws id h hid) ?_;simp only[go_sem,simprocAttr];refine ae (DH (bs w) (by rw[aw];omega)) rfl ?_;simp only[hp,n2,n3,go_sem,simprocAttr];refine ae (Ao v n2 (by omega)) rfl ?_;have hb:(bs (bC v)==bs w)=true:=by rw[n4,dH];exact beq_self_eq_true _
 simp only[hb,go_sem,simprocAttr];refine au (λ_=>?_) (λh=>by cases h);simp only[go_sem,simprocAttr]
theorem L3(l)(id jd)(h)(hl:∀w,w∈l->w.length<=1000000)(hid:h[id]?=some (cQ l))(hjd:h[jd]?=some (iP id))(hn:∀w ws,l=w::ws->eP w=none) :
  aB TP 133 [.ptr jd 1 0 0] h (λr h'=>r=.panic (f9 6)/\∃o,h'=h.set id o):=by
 unfold iP at hjd;refine aA (ah Tryz.func133 rfl (by kernel_rfl)) rfl ?_;simp only[hjd,go_sem,simprocAttr]
 cases l with
 |nil=>
  refine s9 (H4 id h hid) ?_;simp only[go_sem,simprocAttr]
  exact⟨_,(ji hid).symm⟩
 |cons w ws=>
  have hnw:=hn w ws rfl;have hlw:=hl w (by simp);refine ct (z7 w ws id h hid) ?_;simp only[go_sem,simprocAttr];refine ae (DH (bs w) (by rw[aw];omega)) rfl ?_
  cases hnl:jk w with
  |none=>
   have hx:∃v,kl (bs w)=.tuple [.int .i64 v,.iface 289 .any]:=by
    unfold jk at hnl;rw[kl,f'];cases ha:Lib.atoiAll w<;>rw[ha]at hnl<;>first|cases hnl;done|exact⟨_,rfl⟩
   obtain⟨v,hx⟩:=hx;simp only[hx,go_sem,simprocAttr];refine au (λh=>by cases h) (λ_=>?_);simp only[go_sem,simprocAttr]
   exact⟨_,rfl⟩
  |some v=>
   have hp:kl (bs w)=.tuple [.int .i64 v,.niliface]:=by
    unfold jk at hnl;rw[kl,f'];cases ha:Lib.atoiAll w<;>rw[ha]at hnl<;>first|cases hnl;done|skip
    cases hnl;rfl
   by_cases h0:0<=v;rotate_left
   .have h0':decide (0<=v)=false:=by simpa using h0
    simp only[hp,h0',go_sem,simprocAttr];refine au (λh=>by cases h) (λ_=>?_);simp only[go_sem,simprocAttr];exact⟨_,rfl⟩
   by_cases h1:v<=10000000;rotate_left
   .have h1':decide (v<=10000000)=false:=by simpa using h1
    simp only[hp,h0,h1',go_sem,simprocAttr];refine au (λh=>by cases h) (λ_=>?_);simp only[go_sem,simprocAttr];exact⟨_,rfl⟩
   simp only[hp,h0,h1,go_sem,simprocAttr];refine ae (Ao v h0 (by omega)) rfl ?_;have hb:(bs (bC v)==bs w)=false:=by
    rw[dH]
    cases hd:(bC v==w) with
    |false=>rfl
    |true=>
     rw[eP,hnl]at hnw;simp only[h0,h1,true_and,eq_of_beq hd,if_true]at hnw;cases hnw
   simp only[hb,go_sem,simprocAttr];refine au (λh=>by cases h) (λ_=>?_);simp only[go_sem,simprocAttr];exact⟨_,rfl⟩
theorem jH{H}{Q}{ops}{rest}{dst}{A}(l)(id jd)(hid:A.h[id]?=some (cQ l))(hjd:A.h[jd]?=some (iP id))
  (h1:∀w ws,l=w::ws->cS w=some w->@WO ⟨TP,H,ops,rest,Q⟩ (A.put dst (.p (.str (bs w))) (A.h.set id (cQ ws))))
  (h2:(∀w ws,l=w::ws->cS w=none)->∀o,@WQ ⟨Q⟩ (.panic (f9 6)) { A with h:=A.h.set id o }):@WF ⟨TP,H,ops,rest,Q,dst⟩ A 131 [.ptr jd 1 0 0]:=by
 by_cases hn:∀w ws,l=w::ws->cS w=none
 .refine cp (Q0 l id jd A.h hid hjd hn) (λv h hr=>by cases hr.1) (λv h hr=>?_);obtain⟨e,o,rfl⟩:=hr;cases e;exact h2 hn o
 .cases l with
  |nil=>exact absurd (λw ws h=>by cases h) hn
  |cons w ws=>
   have hw:cS w=some w:=by
    cases hc:cS w with
    |none=>exact absurd (λw' ws' h=>by cases h;exact hc) hn
    |some v=>rw[N2 hc]
   exact ct (VF w ws id jd A.h hid hjd hw) (h1 w ws rfl hw)
theorem gF{H}{Q}{ops}{rest}{dst}{A}(l)(id jd)(hl:∀w,w∈l->w.length<=1000000)(hid:A.h[id]?=some (cQ l))(hjd:A.h[jd]?=some (iP id))
  (h1:∀w ws v,l=w::ws->eP w=some v->@WO ⟨TP,H,ops,rest,Q⟩ (A.put dst (.p (.int .i64 v)) (A.h.set id (cQ ws))))
  (h2:(∀w ws,l=w::ws->eP w=none)->∀o,@WQ ⟨Q⟩ (.panic (f9 6)) { A with h:=A.h.set id o }):@WF ⟨TP,H,ops,rest,Q,dst⟩ A 133 [.ptr jd 1 0 0]:=by
 by_cases hn:∀w ws,l=w::ws->eP w=none
 .refine cp (L3 l id jd A.h hl hid hjd hn) (λv h hr=>by cases hr.1) (λv h hr=>?_);obtain⟨e,o,rfl⟩:=hr;cases e;exact h2 hn o
 .cases l with
  |nil=>exact absurd (λw ws h=>by cases h) hn
  |cons w ws=>
   cases hc:eP w with
   |none=>exact absurd (λw' ws' h=>by cases h;exact hc) hn
   |some v=>exact ct (QZ w ws id jd A.h v (hl w (by simp)) hid hjd hc) (h1 w ws v rfl hc)
end Ch
set_option maxRecDepth 100000
theorem J5(l p)(hl:l.length<1000000000)(hp:p.length<1000000000):af TP 251 [.str (bs l),.str (bs p)] (.bool (decide (l.take p.length=p))):=by
 refine aa (ah Tryz.func251 rfl (by kernel_rfl)) rfl ?_;by_cases hle:p.length<=l.length
 .have e1:decide ((((bs p).size:Nat):Int)<=(((bs l).size:Nat):Int))=true:=by rw[aw,aw];simp;omega
  have e3:((((bs p).size:Nat):Int))<=(((bs l).size:Nat):Int):=by rw[aw,aw];omega
  have e4:(bs l).extract 0 (bs p).size=bs (l.take p.length):=by rw[fb,oq,aw]
  have e5:(bs (l.take p.length)==bs p)=decide (l.take p.length=p):=by
   rw[dH,tj];simp
  simp only[e3,e4,e5,go_sem,simprocAttr]
 .have e1:decide ((((bs p).size:Nat):Int)<=(((bs l).size:Nat):Int))=false:=by rw[aw,aw];simp;omega
  have e2:decide (l.take p.length=p)=false:=by
   rw[decide_eq_false_iff_not];intro h;have:=congrArg List.length h;rw[Dv]at this;omega
  simp only[e1,e2,go_sem,simprocAttr]
theorem Bs(l p)(hl:l.length<1000000000)(hp:p.length<1000000000):af TP 194 [.str (bs l),.str (bs p)] (.tuple [.str (bs (if l.take p.length=p then l.drop p.length else l)),.bool (decide (l.take p.length=p))]):=by
 refine aa (ah Tryz.func194 rfl (by kernel_rfl)) rfl ?_;simp only[go_sem,simprocAttr];refine ae (J5 l p hl hp) rfl ?_;by_cases h:l.take p.length=p
 .have hle:p.length<=l.length:=by
   have:=congrArg List.length h;rw[Dv]at this;omega
  have e3:((((bs p).size:Nat):Int))<=(((bs l).size:Nat):Int):=by rw[aw,aw];omega
  have e4:(bs l).extract (bs p).size (bs l).size=bs (l.drop p.length):=by
   rw[fb,aw,aw,te]
  have e5:decide (l.take p.length=p)=true:=decide_eq_true h;simp only[e5,e3,e4,if_pos h,go_sem,simprocAttr]
 .have e5:decide (l.take p.length=p)=false:=decide_eq_false h;simp only[e5,if_neg h,go_sem,simprocAttr]
theorem J6(l p)(hl:l.length<1000000000)(hp:p.length<1000000000):af TP 127 [.str (bs l),.str (bs p)] (.tuple [.str (bs (if l.take p.length=p then l.drop p.length else l)),.bool (decide (l.take p.length=p))]):=by
 refine aa (ah Tryz.func127 rfl (by kernel_rfl)) rfl ?_;simp only[go_sem,simprocAttr];refine ae (Bs l p hl hp) rfl ?_;simp only[go_sem,simprocAttr]
namespace Ch
set_option maxRecDepth 4000
def H7 (s:ChShop) (b:ChBooks) (ex:List PV) (t:Heap):Heap:=B7 s b ex++t
def js (s:ChShop) (b:ChBooks) (ex:List PV) (t:Heap) (q:Except Int (ChBooks×List UInt8)) (r:AEnd) (h'':Heap):Prop:=∃h' t',h''=h'++t'/\j4 s b ex q r h'/\t'.length=t.length/\t'.take 3=t.take 3
theorem Gh{s}{b}{ex}{q}{r}{h'}(h:j4 s b ex q r h'):h'.length=7:=by
 unfold j4 at h;split at h
 .rw[h.2];rfl
 .rcases h.2 with⟨_,h⟩|⟨_,_,_,h⟩<;>rw[h]<;>rfl
theorem jJ{f}{args}{s}{b}{ex}{q}(hc:aB TP f args (B7 s b ex) (j4 s b ex q))(ha:∀a,a∈args->below 7 a)(t):aB TP f args (H7 s b ex t) (js s b ex t q):=by
 refine(hZ (fi s b ex) ha (hc.mono λr h' hr=>⟨Gh hr,hr⟩) t).mono λr h'' hr=>?_;obtain⟨h',e,_,hr⟩:=hr;exact⟨h',t,e,hr,rfl,rfl⟩
theorem jh{s}{b}{ex}{t}{q}{v}{h}(hr:js s b ex t q (.ret v) h):∃a,v=.p (.str (bs a)):=by
 obtain⟨h',t',_,hp,_⟩:=hr;unfold j4 at hp;split at hp
 .cases hp.1
 .rename_i b' a;cases hp.1;exact⟨a,rfl⟩
theorem VQ(s)(b)(ex)(t)(n)(hs:SOk s)(hb:BkOk s b n)(i j)(text)(hi:(H7 s b ex t)[i]?=some (.row 1 [.ptr 2 1 0 0]))(hj:(H7 s b ex t)[j]?=some (.row 1 [.p (.str (bs text))])) :
  aB TP 128 [.ptr i 1 0 0,.ptr j 1 0 0] (H7 s b ex t) (js s b ex t (aP s b (.test text))):=by
 refine aA (ah Tryz.func128 rfl (by kernel_rfl)) rfl ?_;simp only[hi,hj,go_sem,simprocAttr];refine cp (jJ (VC s b ex n hs hb text) (by simp only[go_sem,simprocAttr]) t) (λv h hr=>?_) (λv h hr=>?_)
 .obtain⟨a,rfl⟩:=jh hr;simp only[go_sem,simprocAttr];exact hr
 .simp only[go_sem,simprocAttr];exact hr
theorem T1(s)(b)(ex)(t)(n)(hs:SOk s)(hb:BkOk s b n)(i j)(w)(hi:(H7 s b ex t)[i]?=some (.row 1 [.ptr 2 1 0 0]))(hj:(H7 s b ex t)[j]?=some (.row 1 [.p (.str (bs w))])) :
  aB TP 138 [.ptr i 1 0 0,.ptr j 1 0 0] (H7 s b ex t) (js s b ex t (aP s b (.drop w))):=by
 refine aA (ah Tryz.func138 rfl (by kernel_rfl)) rfl ?_;simp only[hi,hj,go_sem,simprocAttr];refine cp (jJ (VI s b ex n hs hb w) (by simp only[go_sem,simprocAttr]) t) (λv h hr=>?_) (λv h hr=>?_)
 .obtain⟨a,rfl⟩:=jh hr;simp only[go_sem,simprocAttr];exact hr
 .simp only[go_sem,simprocAttr];exact hr
theorem T0(s)(b)(ex)(t)(n)(hs:SOk s)(hb:BkOk s b n)(i j)(w)(hi:(H7 s b ex t)[i]?=some (.row 1 [.ptr 2 1 0 0]))(hj:(H7 s b ex t)[j]?=some (.row 1 [.p (.str (bs w))])) :
  aB TP 140 [.ptr i 1 0 0,.ptr j 1 0 0] (H7 s b ex t) (js s b ex t (aP s b (.plan w))):=by
 refine aA (ah Tryz.func140 rfl (by kernel_rfl)) rfl ?_;simp only[hi,hj,go_sem,simprocAttr];refine cp (jJ (DD s b ex n hs hb w) (by simp only[go_sem,simprocAttr]) t) (λv h hr=>?_) (λv h hr=>?_)
 .obtain⟨a,rfl⟩:=jh hr;simp only[go_sem,simprocAttr];exact hr
 .simp only[go_sem,simprocAttr];exact hr
theorem TZ(s)(b)(ex)(t)(n)(hs:SOk s)(hb:BkOk s b n)(i j)(w)(hi:(H7 s b ex t)[i]?=some (.row 1 [.ptr 2 1 0 0]))(hj:(H7 s b ex t)[j]?=some (.row 1 [.p (.str (bs w))])) :
  aB TP 142 [.ptr i 1 0 0,.ptr j 1 0 0] (H7 s b ex t) (js s b ex t (aP s b (.pour w))):=by
 refine aA (ah Tryz.func142 rfl (by kernel_rfl)) rfl ?_;simp only[hi,hj,go_sem,simprocAttr];refine cp (jJ (VE s b ex n hs hb w) (by simp only[go_sem,simprocAttr]) t) (λv h hr=>?_) (λv h hr=>?_)
 .obtain⟨a,rfl⟩:=jh hr;simp only[go_sem,simprocAttr];exact hr
 .simp only[go_sem,simprocAttr];exact hr
theorem T7(s)(b)(ex)(t)(n)(hs:SOk s)(hb:BkOk s b n)(i j k l m)(name colour lot)(grams)(hi:(H7 s b ex t)[i]?=some (.row 1 [.ptr 2 1 0 0]))(hj:(H7 s b ex t)[j]?=some (.row 1 [.p (.str (bs name))]))
  (hk:(H7 s b ex t)[k]?=some (.row 1 [.p (.str (bs colour))])) (hl:(H7 s b ex t)[l]?=some (.row 1 [.p (.str (bs lot))])) (hm:(H7 s b ex t)[m]?=some (.row 1 [.p (.int .i64 grams)])) :
  aB TP 136 [.ptr i 1 0 0,.ptr j 1 0 0,.ptr k 1 0 0,.ptr l 1 0 0,.ptr m 1 0 0] (H7 s b ex t) (js s b ex t (aP s b (.batch name colour lot grams))):=by
 refine aA (ah Tryz.func136 rfl (by kernel_rfl)) rfl ?_;simp only[hi,hj,hk,hl,hm,go_sem,simprocAttr];refine cp (jJ (TH s b ex n hs hb name colour lot grams) (by simp only[go_sem,simprocAttr]) t) (λv h hr=>?_) (λv h hr=>?_)
 .obtain⟨a,rfl⟩:=jh hr;simp only[go_sem,simprocAttr];exact hr
 .simp only[go_sem,simprocAttr];exact hr
theorem X8(s)(b)(ex)(t)(n)(hs:SOk s)(hb:BkOk s b n)(i j k)(kind)(hours)(hi:(H7 s b ex t)[i]?=some (.row 1 [.ptr 2 1 0 0]))(hj:(H7 s b ex t)[j]?=some (.row 1 [.p (.str (bs kind))]))
  (hk:(H7 s b ex t)[k]?=some (.row 1 [.p (.int .i64 hours)])) :
  aB TP 146 [.ptr i 1 0 0,.ptr j 1 0 0,.ptr k 1 0 0] (H7 s b ex t) (js s b ex t (aP s b (.box kind hours))):=by
 refine aA (ah Tryz.func146 rfl (by kernel_rfl)) rfl ?_;simp only[hi,hj,hk,go_sem,simprocAttr];refine cp (jJ (X5 s b ex n hs hb kind hours) (by simp only[go_sem,simprocAttr]) t) (λv h hr=>?_) (λv h hr=>?_)
 .obtain⟨a,rfl⟩:=jh hr;simp only[go_sem,simprocAttr];exact hr
 .simp only[go_sem,simprocAttr];exact hr
theorem VP(s)(b)(ex)(t)(n)(hs:SOk s)(hb:BkOk s b n)(i j k)(kind)(a b' c d)(hi:(H7 s b ex t)[i]?=some (.row 1 [.ptr 2 1 0 0]))(hj:(H7 s b ex t)[j]?=some (.row 1 [.p (.str (bs kind))]))
  (hk:(H7 s b ex t)[k]?=some (.row 4 [.p (.agg [.int .i64 a,.int .i64 b',.int .i64 c,.int .i64 d])])) :
  aB TP 149 [.ptr i 1 0 0,.ptr j 1 0 0,.ptr k 1 0 0] (H7 s b ex t) (js s b ex t (aP s b (.wick kind a b' c d))):=by
 refine aA (ah Tryz.func149 rfl (by kernel_rfl)) rfl ?_;simp only[hi,hj,hk,go_sem,simprocAttr];refine cp (jJ (VB s b ex n hs hb kind a b' c d) (by simp only[go_sem,simprocAttr]) t) (λv h hr=>?_) (λv h hr=>?_)
 .obtain⟨a,rfl⟩:=jh hr;simp only[go_sem,simprocAttr];exact hr
 .simp only[go_sem,simprocAttr];exact hr
theorem T6(s)(b)(ex)(t)(n)(hs:SOk s)(hb:BkOk s b n)(i k)(a b' c)(hi:(H7 s b ex t)[i]?=some (.row 1 [.ptr 2 1 0 0]))
  (hk:(H7 s b ex t)[k]?=some (.row 3 [.p (.agg [.int .i64 a,.int .i64 b',.int .i64 c])])) :
  aB TP 151 [.ptr i 1 0 0,.ptr k 1 0 0] (H7 s b ex t) (js s b ex t (aP s b (.blend a b' c))):=by
 refine aA (ah Tryz.func151 rfl (by kernel_rfl)) rfl ?_;simp only[hi,hk,go_sem,simprocAttr];refine cp (jJ (E9 s b ex n hs hb a b' c) (by simp only[go_sem,simprocAttr]) t) (λv h hr=>?_) (λv h hr=>?_)
 .obtain⟨a,rfl⟩:=jh hr;simp only[go_sem,simprocAttr];exact hr
 .simp only[go_sem,simprocAttr];exact hr
theorem OH(s)(b)(ex)(t)(n)(hs:SOk s)(hb:BkOk s b n)(i j)(kind)(hi:(H7 s b ex t)[i]?=some (.row 1 [.ptr 2 1 0 0]))(hj:(H7 s b ex t)[j]?=some (.row 1 [.p (.str (bs kind))])) :
  aB TP 144 [.ptr i 1 0 0,.ptr j 1 0 0] (H7 s b ex t) (js s b ex t (aP s b (.promise kind))):=by
 have hp:=xT s b ex n hs hb kind;have hfr:∀{R:AEnd->Heap->Prop},aB TP 145 [.ptr 2 1 0 0,.p (.str (bs kind))] (B7 s b ex) (λr h'=>R r h'/\h'=B7 s b ex)->aB TP 145 [.ptr 2 1 0 0,.p (.str (bs kind))] (H7 s b ex t) (λr h'=>h'=H7 s b ex t/\R r (B7 s b ex)):=λ{R} hc=>by
  refine(hZ (fi s b ex) (by simp only[go_sem,simprocAttr]) (hc.mono λr h' hr=>⟨by rw[hr.2],hr⟩) t).mono λr h'' hr=>?_;obtain⟨h',e,_,hr,e2⟩:=hr;subst e2;exact⟨e,hr⟩
 refine aA (ah Tryz.func144 rfl (by kernel_rfl)) rfl ?_;simp only[hi,hj,go_sem,simprocAttr]
 cases hq:fX s b kind with
 |error e=>
  refine cp (hfr (hp.1 e hq)) (λv h hr=>by cases hr.2) (λv h hr=>?_);obtain⟨rfl,hr⟩:=hr;cases hr;simp only[go_sem,simprocAttr]
  exact⟨_,t,rfl,by simp only[aP,hq];exact⟨rfl,rfl⟩,rfl,rfl⟩
 |ok q=>
  obtain⟨k,m⟩:=q;obtain⟨hm,hc⟩:=hp.2 k m hq;refine cp (hfr hc) (λv h hr=>?_) (λv h hr=>by cases hr.2);obtain⟨rfl,hr⟩:=hr;cases hr;simp only[go_sem,simprocAttr];have hsd:=oG [.n m] true (by simp) (λw hw=>by
   simp only[ce,fW,or_false]at hw;subst hw
   exact⟨hm.1,by omega⟩)
  refine ae hsd rfl ?_;simp only[go_sem,simprocAttr];exact⟨_,t,rfl,by simp only[aP,hq];exact⟨rfl,.inl ⟨_,rfl⟩⟩,rfl,rfl⟩
theorem X7(s)(b)(ex)(t)(n)(hs:SOk s)(hb:BkOk s b n)(i j k l m r)(name kind)(grams)(rs)(hrs:rs.length<1000000000)(hi:(H7 s b ex t)[i]?=some (.row 1 [.ptr 2 1 0 0]))(hj:(H7 s b ex t)[j]?=some (.row 1 [.p (.str (bs name))]))
  (hk:(H7 s b ex t)[k]?=some (.row 1 [.p (.str (bs kind))])) (hl:(H7 s b ex t)[l]?=some (.row 1 [.p (.int .i64 grams)])) (hm:(H7 s b ex t)[m]?=some (.row 1 [.slice r rs.length 0 rs.length])) (hr7:10<=r) (hr:(H7 s b ex t)[r]?=some (.row 1 (rs.map λv=>.p (aG v)))) :
  aB TP 134 [.ptr i 1 0 0,.ptr j 1 0 0,.ptr k 1 0 0,.ptr l 1 0 0,.ptr m 1 0 0] (H7 s b ex t) (js s b ex t (aP s b (.lot name kind grams rs))):=by
 have hcall:aB TP 135 [.ptr 2 1 0 0,.p (.str (bs name)),.p (.str (bs kind)),.p (.int .i64 grams),.slice r rs.length 0 rs.length] (H7 s b ex t) (js s b ex t (aP s b (.lot name kind grams rs))):=by
  have e:dB (λx=>x==r) (H7 s b ex t)=H7 s b ex (t.set (r-7) .dead):=by
   rw[E2];unfold H7;rw[tt _ _ (show (B7 s b ex).length<=r by show 7<=r;omega)];rfl
  refine GR (args':=[.ptr 2 1 0 0,.p (.str (bs name)),.p (.str (bs kind)),.p (.int .i64 grams),.p (.slice 1 (rs.map aG) false)]) (λx=>x==r) rfl (λx a' hx=>?_) ?_
  .match x,hx with
   |0,hx=>exact .inl hx
   |1,hx=>exact .inl hx
   |2,hx=>exact .inl hx
   |3,hx=>exact .inl hx
   |4,hx=>
    cases hx;refine .inr ⟨_,_,rfl,rfl,?_⟩;have hk:(dB (λi=>!(i==r)) (H7 s b ex t))[r]?=some (.row 1 (rs.map λv=>.p (aG v))):=by rw[np (by simp)];exact hr
    have hf:∀(n:Nat) (h:Heap),aS (ci n h) (rs.map λv=>.p (aG v))=some (rs.map aG):=λn h=>de (ef n h) aG rs;unfold xC ci;rw[hk];simp only[lR,hf];rw[if_pos (by simp)];show some (PV.slice 1 (List.drop 0 (List.take (0+rs.length) (rs.map aG))) false)=_
    rw[oq,gv (by simp)]
   |n+5,hx=>simp at hx
  .rw[e];refine(jJ (X4 s b ex n hs hb name kind grams rs hrs) (by simp only[go_sem,simprocAttr]) _).mono λx h' hx=>?_;obtain⟨h1,t1,e1,p1,l1,k1⟩:=hx;refine⟨h1,t1,e1,p1,by rw[l1,y8],by rw[k1];exact List.take_set_of_le (by omega)⟩
 refine aA (ah Tryz.func134 rfl (by kernel_rfl)) rfl ?_;simp only[hi,hj,hk,hl,hm,go_sem,simprocAttr];refine cp hcall (λv h hr=>?_) (λv h hr=>?_)
 .obtain⟨a,rfl⟩:=jh hr;simp only[go_sem,simprocAttr];exact hr
 .simp only[go_sem,simprocAttr];exact hr
end Ch
end Abs
end Go.Proofs.YtnjiadikeacfaaaGreatDoor
