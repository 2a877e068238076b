/- CONTRACTS of the program's functions, and laws on what they return. No conditions but those in the theorems' heads. -/
import Derived.Test.YtmndpldajflenaaGreatDoorChBk4X
set_option linter.all false
set_option maxHeartbeats 1000000
open Go.Proofs.Tryz renaming prog->TP
open Go.Proofs.Tryz
namespace Go.Proofs.YtmndpldajflenaaGreatDoor
namespace Abs
namespace Ch
set_option maxRecDepth 4000
theorem SQ(n)(v:1<=n)(u:n<=5):af TP 393 [.int .u64 1,.int .u64 n] (.tuple [.int .u64 0,.int .u64 n]):=by
 have q:n=1\/n=2\/n=3\/n=4\/n=5:=by omega
 have o:fh .shr .u64 0 32=some (.int .u64 0):=rfl;have l:fh .shr .u64 1 32=some (.int .u64 0):=rfl;have j:IntKind.u64.wrap 0=0:=rfl;have i:IntKind.u64.wrap 1=1:=rfl;rcases q with rfl|rfl|rfl|rfl|rfl
 .have e:fh .shr .u64 1 32=some (.int .u64 0):=rfl;have a:IntKind.u64.wrap 1=1:=rfl;refine aa (ag func393 rfl) rfl ?_;simp only[l,o,j,i,zN,C4,wO,ud,go_sem,simprocAttr]
 .have e:fh .shr .u64 2 32=some (.int .u64 0):=rfl;have a:IntKind.u64.wrap 2=2:=rfl;refine aa (ag func393 rfl) rfl ?_;simp only[l,o,e,j,i,a,zN,C4,wO,ud,go_sem,simprocAttr]
 .have e:fh .shr .u64 3 32=some (.int .u64 0):=rfl;have a:IntKind.u64.wrap 3=3:=rfl;refine aa (ag func393 rfl) rfl ?_;simp only[l,o,e,j,i,a,zN,C4,wO,ud,go_sem,simprocAttr]
 .have e:fh .shr .u64 4 32=some (.int .u64 0):=rfl;have a:IntKind.u64.wrap 4=4:=rfl;refine aa (ag func393 rfl) rfl ?_;simp only[l,o,e,j,i,a,zN,C4,wO,ud,go_sem,simprocAttr]
 .have e:fh .shr .u64 5 32=some (.int .u64 0):=rfl;have a:IntKind.u64.wrap 5=5:=rfl;refine aa (ag func393 rfl) rfl ?_;simp only[l,o,e,j,i,a,zN,C4,wO,ud,go_sem,simprocAttr]
theorem EN(n)(e:1<=n)(a:n<=5):af TP 363 [.int .u64 1,.int .u64 n] (.tuple [.int .u64 0,.int .u64 n]):=by
 refine aa (ag func363 rfl) rfl ?_;simp only[go_sem,simprocAttr];refine ae (SQ n e a) rfl ?_;simp only[go_sem,simprocAttr]
def AZ:Hints:=ez [(38,.low),(45,.app 41),(5000001,.nop)]
theorem yu:cy AZ f297=true:=by kernel_rfl
theorem DX:Nat.min 1 1=1/\Nat.min 1 2=1/\Nat.min 1 3=1/\Nat.min 1 4=1/\Nat.min 2 1=1/\Nat.min 2 2=2/\Nat.min 2 3=2/\Nat.min 4 1=1:=by decide
theorem iw:IntKind.i64.wrap 1=1/\IntKind.i64.wrap (1+1)=2/\IntKind.i64.wrap (2+1)=3/\IntKind.i64.wrap (2+2)=4/\IntKind.i64.wrap (4+1)=5:=by decide
def nG:PV:=.agg [.int .i64 0,.int .i64 20]
theorem M4:gU TP 297 [.slice 2 [.agg [.int .i64 0,.int .i64 20]] true,.int .i64 1] (.slice 2 (List.replicate 1 nG) false):=by
 obtain⟨v,u,q,o,l,j,i,e⟩:=DX;obtain⟨D,C,A,z,y⟩:=iw;refine fP (eI (by kernel_rfl) rfl yu) rfl ?_;simp only[AZ,go_sem,simprocAttr];refine ae (EN 1 (by decide) (by decide)) rfl ?_;have a:(1:Int)<=(ao:Int):=by decide
 simp only[a,go_sem,simprocAttr];refine aY ?_;simp only[nG,go_sem,simprocAttr]
 trace_state
theorem M3:gU TP 297 [.slice 2 [.agg [.int .i64 0,.int .i64 20]] true,.int .i64 2] (.slice 2 (List.replicate 2 nG) false):=by
 obtain⟨e,v,u,q,o,l,j,i⟩:=DX;obtain⟨D,C,A,z,y⟩:=iw;refine fP (eI (by kernel_rfl) rfl yu) rfl ?_;simp only[AZ,go_sem,simprocAttr];refine ae (EN 2 (by decide) (by decide)) rfl ?_;have a:(2:Int)<=(ao:Int):=by decide
 simp only[a,go_sem,simprocAttr];refine aY ?_;simp only[aO,go_sem,simprocAttr];refine And.intro (.inr ⟨0,_,rfl,rfl⟩) ?_;simp only[e,go_sem,simprocAttr];refine aY ?_;simp only[nG,go_sem,simprocAttr]
theorem M2:gU TP 297 [.slice 2 [.agg [.int .i64 0,.int .i64 20]] true,.int .i64 3] (.slice 2 (List.replicate 3 nG) false):=by
 obtain⟨v,l,j,u,i,e,q,o⟩:=DX;obtain⟨D,C,A,z,y⟩:=iw;refine fP (eI (by kernel_rfl) rfl yu) rfl ?_;simp only[AZ,go_sem,simprocAttr];refine ae (EN 3 (by decide) (by decide)) rfl ?_;have a:(3:Int)<=(ao:Int):=by decide
 simp only[a,go_sem,simprocAttr];refine aY ?_;simp only[aO,go_sem,simprocAttr];refine And.intro (.inr ⟨0,_,rfl,rfl⟩) ?_;simp only[l,j,go_sem,simprocAttr];refine aY ?_;simp only[aO,go_sem,simprocAttr];refine And.intro (.inr ⟨0,_,rfl,rfl⟩) ?_;simp only[i,e,go_sem,simprocAttr];refine aY ?_;simp only[nG,go_sem,simprocAttr]
theorem MZ:gU TP 297 [.slice 2 [.agg [.int .i64 0,.int .i64 20]] true,.int .i64 4] (.slice 2 (List.replicate 4 nG) false):=by
 obtain⟨v,l,j,u,i,e,q,o⟩:=DX;obtain⟨D,C,A,z,y⟩:=iw;refine fP (eI (by kernel_rfl) rfl yu) rfl ?_;simp only[AZ,go_sem,simprocAttr];refine ae (EN 4 (by decide) (by decide)) rfl ?_;have a:(4:Int)<=(ao:Int):=by decide
 simp only[a,go_sem,simprocAttr];refine aY ?_;simp only[aO,go_sem,simprocAttr];refine And.intro (.inr ⟨0,_,rfl,rfl⟩) ?_;simp only[l,j,go_sem,simprocAttr];refine aY ?_;simp only[aO,go_sem,simprocAttr];refine And.intro (.inr ⟨0,_,rfl,rfl⟩) ?_;simp only[i,e,go_sem,simprocAttr];refine aY ?_;simp only[nG,go_sem,simprocAttr]
theorem MY:gU TP 297 [.slice 2 [.agg [.int .i64 0,.int .i64 20]] true,.int .i64 5] (.slice 2 (List.replicate 5 nG) false):=by
 obtain⟨v,u,q,j,o,l,i,e⟩:=DX;obtain⟨D,C,A,z,y⟩:=iw;refine fP (eI (by kernel_rfl) rfl yu) rfl ?_;simp only[AZ,go_sem,simprocAttr];refine ae (EN 5 (by decide) (by decide)) rfl ?_;have a:(5:Int)<=(ao:Int):=by decide
 simp only[a,go_sem,simprocAttr];refine aY ?_;simp only[aO,go_sem,simprocAttr];refine And.intro (.inr ⟨0,_,rfl,rfl⟩) ?_;simp only[j,go_sem,simprocAttr];refine aY ?_;simp only[aO,go_sem,simprocAttr];refine And.intro (.inr ⟨0,_,rfl,rfl⟩) ?_;simp only[i,go_sem,simprocAttr];refine aY ?_;simp only[aO,go_sem,simprocAttr];refine And.intro (.inr ⟨0,_,rfl,rfl⟩) ?_;simp only[e,go_sem,simprocAttr];refine aY ?_;simp only[nG,go_sem,simprocAttr]
theorem PC(n:Nat)(e:1<=n)(a:n<=5):gU TP 297 [.slice 2 [.agg [.int .i64 0,.int .i64 20]] true,.int .i64 n] (.slice 2 (List.replicate n nG) false):=by
 match n,e,a with
 |1,_,_=>exact M4
 |2,_,_=>exact M3
 |3,_,_=>exact M2
 |4,_,_=>exact MZ
 |5,_,_=>exact MY
theorem SOk.wickwaxes{s}(h:SOk s):s.wick.waxes.length<1000000000:=by
 have:=(Wk.ur h.wick).lx;omega
theorem Ig{s}{c}{x}(h:(Wk.eb s c x).2=0):Wk.rb s (Wk.eb s c x).1:=by
 unfold Wk.eb at h |-;split at h
 .rename_i i;rw[if_pos i];split at h
  .cases h
  .rename_i a;rw[if_neg a];rcases Wk.tJ s (Wk.gF s c x s.wicks 0) (-1) (Wk.ol s c x s.wicks 0 (by simp)) (.inl rfl) with e|e
   .rw[e]at a;exact absurd (by decide) a
   .exact e
 .rename_i i;exact absurd h i
theorem Uh(s)(b)(ex)(n)(E:SOk s)(K:BkOk s b n)(kind)(a b' c d):ar TP 221 [.ptr 2 1 0 0,.p (.str (bs kind)),.p (.agg [.int .i64 a,.int .i64 b',.int .i64 c,.int .i64 d])] (B7 s b ex) (j0 s b ex (aR s b (.wick kind a b' c d))):=by
 refine bz (ag func221 rfl) rfl ?_;simp only[ChShop.cells,go_sem,simprocAttr];rcases rq (λx:Wax=>x.name==bs kind) s.wick.waxes 0 with G|⟨j,x,v,hx,_⟩
 .refine qR (RS s.wick.waxes (bs kind) false E.wickwaxes G) rfl (me _) ?_;simp only[go_sem,simprocAttr];exact di (e:=4) (by simp only[aR,if_pos G]) [_] rfl
 rw[gV]at v;have o:¬(j:Int)<0:=by omega
 have q:=ST s.wick.waxes (bs kind) false E.wickwaxes (by omega);rw[v]at q;refine ae q rfl ?_;simp only[go_sem,simprocAttr];have I:=Wk.Cs s.wick ⟨(j:Int),a,b',⟨c,d⟩⟩ x (λJ=>by
  obtain⟨x',l⟩:=Wk.MG J;have:=l.hx;dsimp only at this;rw[kn,hx]at this;cases this
  exact l)
 refine ax I rfl ?_;by_cases i:(Wk.eb s.wick ⟨(j:Int),a,b',⟨c,d⟩⟩ x).2=0;rotate_left
 .have C:((Wk.eb s.wick ⟨(j:Int),a,b',⟨c,d⟩⟩ x).2==0)=false:=by simpa using i
  simp only[C,go_sem,simprocAttr];refine an (λh=>by cases h) (λ_=>?_);simp only[go_sem,simprocAttr];exact di (e:=(Wk.eb s.wick ⟨(j:Int),a,b',⟨c,d⟩⟩ x).2) (by simp only[aR,v,if_neg o,kn,hx,if_pos i]) [_] rfl
 have A:¬(Wk.eb s.wick ⟨(j:Int),a,b',⟨c,d⟩⟩ x).2≠0:=λh=>h i;have D:=Ig i;simp only[i,go_sem,simprocAttr];refine an (λ_=>?_) (λh=>by cases h);obtain⟨k,F⟩:=sB D.1;have y:k<s.wick.wicks.length:=by have:=D.2;omega
 obtain⟨w,hw⟩:∃w,s.wick.wicks[k]?=some w:=⟨_,bO y⟩
 have z:(k:Int)<(s.wick.wicks.length:Int):=by omega
 simp only[F,z,hw,go_sem,simprocAttr];have u:aR s b (.wick kind a b' c d)=.ok (b,bl w.name):=by
  simp only[aR,v,if_neg o,kn,hx,if_neg A,F,hw]
 have:=gR (s:=s) (b:=b) (ex:=ex) (ex':=ex) u (hh:=B7 s b ex++[.row 4 [.p (.agg [.int .i64 a,.int .i64 b',.int .i64 c,.int .i64 d])]]) [_] rfl;rw[zw]at this;exact this
theorem Tb{l}(h:(bdCheck l).2.2=0):1<=l.length/\l.length<=5:=by
 unfold bdCheck at h;split at h
 .rename_i a;simp[ak]at a;omega
 .cases h
theorem Gc{l}{w}(h:(bR l w).2.2=0):((bR l w).1.length<=1000/\∀n,n∈(bR l w).1->0<=n/\n<1000000000)/\0<=(bR l w).2.1/\(bR l w).2.1<1000000000:=by
 unfold bR at h |-;split at h
 .rename_i e;rw[if_pos e];obtain⟨i,hw⟩:=A0 e;split at h
  .cases h
  .rename_i r o;dsimp only;have u:r∈fits l w:=by
    rcases lP _ _ _ _ o with h|h
    .cases h
    .exact h
   have a:=(xv i u).1;have v:=(GP (s2 i a.rng)).2.2.2.2.1;have z:=i.len;have y:=a.len;have j:cY jA (l.zip r)=eV l r:=rfl;refine⟨⟨by omega,λn q=>?_⟩,?_,?_⟩
   .have:=a.rng n q;omega
   .rw[<-j];exact v.1
   .rw[<-j];omega
 .rename_i e;exact absurd h e
theorem Pc(s)(a b' c):(ia s a b' c).pv=.agg [.slice 2 (List.replicate s.blend.length nG) false,.int .i64 a,.int .i64 b',.int .i64 0,.int .i64 c]:=by
 simp only[BdWish.pv,ia,List.map_replicate,Span.pv,nG]
theorem El(s)(b)(ex)(n)(u:SOk s)(z:BkOk s b n)(a b' c):ar TP 223 [.ptr 2 1 0 0,.p (.agg [.int .i64 a,.int .i64 b',.int .i64 c])] (B7 s b ex) (j0 s b ex (aR s b (.blend a b' c))):=by
 refine bz (ag func223 rfl) rfl ?_;simp only[ChShop.cells,go_sem,simprocAttr];have j:=Tb u.blend;have v:=PC s.blend.length j.1 j.2;refine vj v rfl ?_;simp only[go_sem,simprocAttr];refine ax (LM s.blend (ia s a b' c)) (by rw[Pc];rfl) ?_;by_cases i:(bR s.blend (ia s a b' c)).2.2=0;rotate_left
 .have q:((bR s.blend (ia s a b' c)).2.2==0)=false:=by simpa using i
  simp only[sn,q,go_sem,simprocAttr];refine an (λh=>by cases h) (λ_=>?_);simp only[go_sem,simprocAttr];exact di (e:=(bR s.blend (ia s a b' c)).2.2) (by simp only[aR,if_pos i]) [_,_] rfl
 have o:¬(bR s.blend (ia s a b' c)).2.2≠0:=λh=>h i;obtain⟨c1,y⟩:=Gc i;simp only[sn,i,go_sem,simprocAttr];refine an (λ_=>?_) (λh=>by cases h);simp only[go_sem,simprocAttr];have l:=oy [.ns (bR s.blend (ia s a b' c)).1,.n (bR s.blend (ia s a b' c)).2.1] true (by simp) (λw hw=>by
  simp only[ce,fD,or_false]at hw;rcases hw with rfl|rfl
  .exact c1
  .exact y)
 refine ae l rfl ?_;simp only[go_sem,simprocAttr];exact gR (b':=b) (ex':=ex) (a:=joinL ([Word.ns (bR s.blend (ia s a b' c)).1,.n (bR s.blend (ia s a b' c)).2.1].flatMap Word.ws)) (by simp only[aR,if_neg o];rfl) [_,_] rfl
end Ch
theorem F6{P}{f}{args args'}{h}{R}(K)(F:args'.length=args.length)
  (J:∀(i:Nat) (u),args'[i]?=some u->args[i]?=some u\/∃a q,args[i]?=some a/\u=.p q/\wv (cS (λi=>!K i) h) a=some q)
  (I:ar P f args' (cS K h) R):ar P f args h R:=by
 intro M0 m w l D j;have E:=vS ⟨m,h,w⟩ K h.length;have G:=tq D K;have o:dz (Rep M0 (Mem.kill K ⟨m,h,w⟩)) l args':=by
  refine⟨by rw[j.1,F],λi u hi=>?_⟩;rcases J i u hi with A|⟨a,q,A,rfl,M⟩
  .exact E.keep (j.2 i u A)
  .exact tt (S:=⟨m,h,w⟩) D K (j.2 i a A) M
 have:=I M0 (fu K m) w l G o;refine⟨this.1,this.2.mono λe w' hh=>?_⟩;obtain⟨r,h',m',L,v,C,z⟩:=hh;have y:(cS K h).length=h.length:=by simp[cS]
 rw[y]at v;exact⟨r,h',m',L,E.trans v,C,z⟩
theorem nQ{n}{a}(h:dO n a):pf (·≠n) a:=by
 cases a<;>first|exact vq h|exact trivial
theorem Hh{n}{a}(h:e8 n a):qy (·≠n) a:=by
 cases a<;>first|exact vq h|exact trivial|exact⟨λc e=>nQ (h.1 c e),λc e=>nQ (h.2 c e)⟩
theorem PI{n}{a}(h:fX n a):rL (·≠n) a:=by
 cases a<;>first|exact vq h|exact trivial|exact λc e=>Hh (h c e)|exact⟨λc e=>nQ (h.1 c e),λc e=>nQ (h.2 c e)⟩
theorem yQ{n}{a}(h:below n a):qz (·≠n) a:=by
 cases a<;>first|exact vq h|exact trivial|exact λc e=>PI (h c e)|exact λc e=>Hh (h c e)|exact⟨λc e=>nQ (h.1 c e),λc e=>nQ (h.2 c e)⟩
theorem Bn{n}{o}(h:aX n o):oP (·≠n) o:=by
 cases o<;>first|exact trivial|exact λx hx=>yQ (h x hx)|exact λt=>yQ (h t)|exact nQ h
theorem pL{T}:∀(live) (t),(cN (bU T live []) t=T t/\t∈live)\/cN (bU T live []) t=.undef
 |[],t=>.inr rfl
 |x::r,t=>by
  unfold bU cN;by_cases h:t=x
  .subst h;rw[if_pos rfl];exact .inl ⟨rfl,by simp⟩
  .rw[if_neg h];rcases pL r t with⟨a,e⟩|a
   .exact .inl ⟨a,by simp[e]⟩
   .exact .inr a
theorem AT{P}{H}{Q}{x}{A}(live)(i sz)(hi:A.bs<=i)(G:A.bs<=A.h.length)(hx:A.h[i]?=some (.row 1 [.p .nilslice]))(E:∀t,t∈live->below A.h.length (A.tmps t))(D:∀o,o∈A.h->aX A.h.length o)(F:A.df=[])
  (k:@W ⟨P,H,.loop x,Q⟩ { n:=A.n,bs:=A.bs,rc:=A.rc,tmps:=cN (bU A.tmps live []),h:=A.h.set i (.row 1 [.slice A.h.length 0 0 0])++[.row sz []],df:=A.df }):@W ⟨P,H,.loop x,Q⟩ A:=by
 have v:i<A.h.length:=(aB.1 hx).1
 have hw:=sN (P:=P) (A:={ A with h:=A.h++[.row sz []] }) (T:=cN (bU A.tmps live [])) A.h.length i sz 1 [.p .nilslice] [.slice A.h.length 0 0 0] G hi (by simp) (by omega)
  (by rw[bp v];exact hx) rfl (λn x y a q=>by
   match n,a,q with
   |0,a,q=>
    cases a;cases q;refine⟨_,_,rfl,rfl,rfl,λj c d u z=>?_⟩
    match j,u,z with
    |0,u,z=>cases u;cases z;exact .inr ⟨rfl,rfl⟩
    |j+1,u,z=>cases u
   |n+1,a,q=>simp at a) (λt=>by
   rcases pL (T:=A.tmps) live t with⟨a,q⟩|a
   .exact .inl ⟨a,yQ (E t q)⟩
   .exact .inr a) (λid o I l=>by
   have C:id<A.h.length:=by
    have:=(aB.1 l).1;simp at this;omega
   rw[bp C]at l
   exact Bn (D o (aG l))) F
 have e:((A.h++[AObj.row sz []]).set A.h.length (.row sz [])).set i (.row 1 [.slice A.h.length 0 0 0])=A.h.set i (.row 1 [.slice A.h.length 0 0 0])++[.row sz []]:=by
  rw[sH _ _ (ba _),qZ];show (A.h++[AObj.row sz []]).set i _=_;rw[xP _ _ v]
 refine e9 (Da sz) (e9 hw ?_);dsimp only;rw[e];exact k
namespace Ch
set_option maxRecDepth 4000
def cK (l:List (List UInt8)):AObj:=.row 1 [.p (bF l)]
theorem yV(w)(ws)(id)(h)(a:h[id]?=some (cK (w::ws))) :
  ar TP 202 [.ptr id 1 0 0] h (λr h'=>r=.ret (.p (.str (bs w)))/\h'=h.set id (cK ws)):=by
 unfold cK bF at a |-;have j:(0:Int)<((ws.length+1:Nat):Int):=by omega
 have i:decide ((0:Int)<((ws.length+1:Nat):Int))=true:=decide_eq_true j;refine au (ag func202 rfl) rfl ?_;simp only[a,i,go_sem,simprocAttr];refine an (λ_=>?_) (λh=>by cases h);have l:(1:Int)<=((ws.length+1:Nat):Int):=by omega
 have e:List.take (ws.length+1) (PV.str (bs w)::ws.map λx=>PV.str (bs x))=PV.str (bs w)::ws.map λx=>PV.str (bs x):=fC (by simp);simp only[a,j,l,e,go_sem,simprocAttr]
theorem Hi(id)(h)(a:h[id]?=some (cK [])) :
  ar TP 202 [.ptr id 1 0 0] h (λr h'=>r=.panic (gc 6)/\h'=h):=by
 unfold cK bF at a;refine au (ag func202 rfl) rfl ?_;simp only[a,go_sem,simprocAttr];refine an (λh=>by cases h) (λ_=>?_);simp only[go_sem,simprocAttr]
def iL (id:Nat):AObj:=.row 1 [.func (.func 202) [] [.ptr id 1 0 0]]
theorem Ul(w)(ws)(id l)(h)(j:h[id]?=some (cK (w::ws)))(a:h[l]?=some (iL id))(e:cM w=some w) :
  ar TP 203 [.ptr l 1 0 0] h (λr h'=>r=.ret (.p (.str (bs w)))/\h'=h.set id (cK ws)):=by
 have i:nameOk (bs w)=true:=by
  unfold cM at e;split at e
  .assumption
  .cases e
 unfold iL at a;refine au (ag func203 rfl) rfl ?_;simp only[a,go_sem,simprocAttr];refine cq (yV w ws id h j) ?_;simp only[go_sem,simprocAttr];refine ae (jh (bs w)) rfl ?_;simp only[i,go_sem,simprocAttr];refine an (λ_=>?_) (λh=>by cases h);simp only[go_sem,simprocAttr]
theorem MX{w v}(h:cM w=some v):v=w:=by
 unfold cM at h;split at h
 .cases h;rfl
 .cases h
theorem PK(l)(id j)(h)(a:h[id]?=some (cK l))(e:h[j]?=some (iL id))(q:∀w ws,l=w::ws->cM w=none) :
  ar TP 203 [.ptr j 1 0 0] h (λr h'=>r=.panic (gc 6)/\∃o,h'=h.set id o):=by
 unfold iL at e;refine au (ag func203 rfl) rfl ?_;simp only[e,go_sem,simprocAttr]
 cases l with
 |nil=>
  refine sw (Hi id h a) ?_;simp only[go_sem,simprocAttr]
  exact⟨_,(je a).symm⟩
 |cons w ws=>
  have i:nameOk (bs w)=false:=by
   have:=q w ws rfl;unfold cM at this;split at this
   .cases this
   .rename_i h;simpa using h
  refine cq (yV w ws id h a) ?_;simp only[go_sem,simprocAttr];refine ae (jh (bs w)) rfl ?_;simp only[i,go_sem,simprocAttr];refine an (λh=>by cases h) (λ_=>?_);simp only[go_sem,simprocAttr];exact⟨_,rfl⟩
theorem Kw{w}{v}(h:fz w=some v):jf w=some v/\0<=v/\v<=10000000/\bH v=w:=by
 unfold fz at h;split at h
 .rename_i x hx;split at h
  .rename_i a;cases h;exact⟨hx,a⟩
  .cases h
 .cases h
theorem PJ(w)(ws)(id j)(h)(v)(A:w.length<=1000000)(e:h[id]?=some (cK (w::ws)))(a:h[j]?=some (iL id))(u:fz w=some v) :
  ar TP 204 [.ptr j 1 0 0] h (λr h'=>r=.ret (.p (.int .i64 v))/\h'=h.set id (cK ws)):=by
 obtain⟨n1,i,o,l⟩:=Kw u;have q:kb (bs w)=.tuple [.int .i64 v,.niliface]:=by
  unfold jf at n1;rw[kb,gh];cases z:Lib.atoiAll w<;>rw[z]at n1<;>first|cases n1;done|skip
  cases n1;rfl
 unfold iL at a;refine au (ag func204 rfl) rfl ?_;simp only[a,go_sem,simprocAttr];refine cq (yV w ws id h e) ?_;simp only[go_sem,simprocAttr];refine ae (CU (bs w) (by rw[aj];omega)) rfl ?_;simp only[q,i,o,go_sem,simprocAttr];refine ae (zq v i (by omega)) rfl ?_;have y:(bs (bH v)==bs w)=true:=by rw[l,dy];exact beq_self_eq_true _
 simp only[y,go_sem,simprocAttr];refine an (λ_=>?_) (λh=>by cases h);simp only[go_sem,simprocAttr]
theorem Lb(l)(id D)(h)(F:∀w,w∈l->w.length<=1000000)(i:h[id]?=some (cK l))(q:h[D]?=some (iL id))(E:∀w ws,l=w::ws->fz w=none) :
  ar TP 204 [.ptr D 1 0 0] h (λr h'=>r=.panic (gc 6)/\∃o,h'=h.set id o):=by
 unfold iL at q;refine au (ag func204 rfl) rfl ?_;simp only[q,go_sem,simprocAttr]
 cases l with
 |nil=>
  refine sw (Hi id h i) ?_;simp only[go_sem,simprocAttr]
  exact⟨_,(je i).symm⟩
 |cons w ws=>
  have e:=E w ws rfl;have J:=F w (by simp);refine cq (yV w ws id h i) ?_;simp only[go_sem,simprocAttr];refine ae (CU (bs w) (by rw[aj];omega)) rfl ?_
  cases a:jf w with
  |none=>
   have hx:∃v,kb (bs w)=.tuple [.int .i64 v,.iface 351 .any]:=by
    unfold jf at a;rw[kb,gh];cases y:Lib.atoiAll w<;>rw[y]at a<;>first|cases a;done|exact⟨_,rfl⟩
   obtain⟨v,hx⟩:=hx;simp only[hx,go_sem,simprocAttr];refine an (λh=>by cases h) (λ_=>?_);simp only[go_sem,simprocAttr]
   exact⟨_,rfl⟩
  |some v=>
   have u:kb (bs w)=.tuple [.int .i64 v,.niliface]:=by
    unfold jf at a;rw[kb,gh];cases y:Lib.atoiAll w<;>rw[y]at a<;>first|cases a;done|skip
    cases a;rfl
   by_cases j:0<=v;rotate_left
   .have C:decide (0<=v)=false:=by simpa using j
    simp only[u,C,go_sem,simprocAttr];refine an (λh=>by cases h) (λ_=>?_);simp only[go_sem,simprocAttr];exact⟨_,rfl⟩
   by_cases z:v<=10000000;rotate_left
   .have A:decide (v<=10000000)=false:=by simpa using z
    simp only[u,j,A,go_sem,simprocAttr];refine an (λh=>by cases h) (λ_=>?_);simp only[go_sem,simprocAttr];exact⟨_,rfl⟩
   simp only[u,j,z,go_sem,simprocAttr];refine ae (zq v j (by omega)) rfl ?_;have I:(bs (bH v)==bs w)=false:=by
    rw[dy]
    cases G:(bH v==w) with
    |false=>rfl
    |true=>
     rw[fz,a]at e;simp only[j,z,true_and,eq_of_beq G,if_true]at e;cases e
   simp only[I,go_sem,simprocAttr];refine an (λh=>by cases h) (λ_=>?_);simp only[go_sem,simprocAttr];exact⟨_,rfl⟩
theorem jE{H}{Q}{ops}{rest}{dst}{A}(l)(id j)(i:A.h[id]?=some (cK l))(a:A.h[j]?=some (iL id))
  (C:∀w ws,l=w::ws->cM w=some w->@WO ⟨TP,H,ops,rest,Q⟩ (A.put dst (.p (.str (bs w))) (A.h.set id (cK ws))))
  (z:(∀w ws,l=w::ws->cM w=none)->∀o,@WQ ⟨Q⟩ (.panic (gc 6)) { A with h:=A.h.set id o }):@WF ⟨TP,H,ops,rest,Q,dst⟩ A 203 [.ptr j 1 0 0]:=by
 by_cases q:∀w ws,l=w::ws->cM w=none
 .refine cj (PK l id j A.h i a q) (λv h u=>by cases u.1) (λv h u=>?_);obtain⟨e,o,rfl⟩:=u;cases e;exact z q o
 .cases l with
  |nil=>exact absurd (λw ws h=>by cases h) q
  |cons w ws=>
   have hw:cM w=some w:=by
    cases y:cM w with
    |none=>exact absurd (λw' D h=>by cases h;exact y) q
    |some v=>rw[MX y]
   exact cq (Ul w ws id j A.h i a hw) (C w ws rfl hw)
theorem gD{H}{Q}{ops}{rest}{dst}{A}(l)(id j)(z:∀w,w∈l->w.length<=1000000)(i:A.h[id]?=some (cK l))(a:A.h[j]?=some (iL id))
  (D:∀w ws v,l=w::ws->fz w=some v->@WO ⟨TP,H,ops,rest,Q⟩ (A.put dst (.p (.int .i64 v)) (A.h.set id (cK ws))))
  (C:(∀w ws,l=w::ws->fz w=none)->∀o,@WQ ⟨Q⟩ (.panic (gc 6)) { A with h:=A.h.set id o }):@WF ⟨TP,H,ops,rest,Q,dst⟩ A 204 [.ptr j 1 0 0]:=by
 by_cases q:∀w ws,l=w::ws->fz w=none
 .refine cj (Lb l id j A.h z i a q) (λv h u=>by cases u.1) (λv h u=>?_);obtain⟨e,o,rfl⟩:=u;cases e;exact C q o
 .cases l with
  |nil=>exact absurd (λw ws h=>by cases h) q
  |cons w ws=>
   cases y:fz w with
   |none=>exact absurd (λw' E h=>by cases h;exact y) q
   |some v=>exact cq (PJ w ws id j A.h v (z w (by simp)) i a y) (D w ws v rfl y)
end Ch
set_option maxRecDepth 100000
theorem Jl(l p)(v:l.length<1000000000)(u:p.length<1000000000):af TP 331 [.str (bs l),.str (bs p)] (.bool (decide (l.take p.length=p))):=by
 refine aa (ag func331 rfl) rfl ?_;by_cases q:p.length<=l.length
 .have a:decide ((((bs p).size:Nat):Int)<=(((bs l).size:Nat):Int))=true:=by rw[aj,aj];simp;omega
  have j:((((bs p).size:Nat):Int))<=(((bs l).size:Nat):Int):=by rw[aj,aj];omega
  have i:(bs l).extract 0 (bs p).size=bs (l.take p.length):=by rw[eD,qd,aj]
  have e:(bs (l.take p.length)==bs p)=decide (l.take p.length=p):=by
   rw[dy,sD];simp
  simp only[j,i,e,go_sem,simprocAttr]
 .have a:decide ((((bs p).size:Nat):Int)<=(((bs l).size:Nat):Int))=false:=by rw[aj,aj];simp;omega
  have o:decide (l.take p.length=p)=false:=by
   rw[decide_eq_false_iff_not];intro h;have:=congrArg List.length h;rw[CL]at this;omega
  simp only[a,o,go_sem,simprocAttr]
theorem AD(l p)(i:l.length<1000000000)(e:p.length<1000000000):af TP 271 [.str (bs l),.str (bs p)] (.tuple [.str (bs (if l.take p.length=p then l.drop p.length else l)),.bool (decide (l.take p.length=p))]):=by
 refine aa (ag func271 rfl) rfl ?_;simp only[go_sem,simprocAttr];refine ae (Jl l p i e) rfl ?_;by_cases h:l.take p.length=p
 .have q:p.length<=l.length:=by
   have:=congrArg List.length h;rw[CL]at this;omega
  have o:((((bs p).size:Nat):Int))<=(((bs l).size:Nat):Int):=by rw[aj,aj];omega
  have j:(bs l).extract (bs p).size (bs l).size=bs (l.drop p.length):=by
   rw[eD,aj,aj,pw]
  have a:decide (l.take p.length=p)=true:=decide_eq_true h;simp only[a,o,j,if_pos h,go_sem,simprocAttr]
 .have a:decide (l.take p.length=p)=false:=decide_eq_false h;simp only[a,if_neg h,go_sem,simprocAttr]
theorem Jm(l p)(e:l.length<1000000000)(a:p.length<1000000000):af TP 199 [.str (bs l),.str (bs p)] (.tuple [.str (bs (if l.take p.length=p then l.drop p.length else l)),.bool (decide (l.take p.length=p))]):=by
 refine aa (ag func199 rfl) rfl ?_;simp only[go_sem,simprocAttr];refine ae (AD l p e a) rfl ?_;simp only[go_sem,simprocAttr]
namespace Ch
set_option maxRecDepth 4000
def H7 (s:ChShop) (b:ChBooks) (ex:List PV) (t:Heap):Heap:=B7 s b ex++t
def jp (s:ChShop) (b:ChBooks) (ex:List PV) (t:Heap) (q:Except Int (ChBooks×List UInt8)) (r:AEnd) (h'':Heap):Prop:=∃h' t',h''=h'++t'/\j0 s b ex q r h'/\t'.length=t.length/\t'.take 3=t.take 3
theorem Fw{s}{b}{ex}{q}{r}{h'}(h:j0 s b ex q r h'):h'.length=7:=by
 unfold j0 at h;split at h
 .rw[h.2];rfl
 .rcases h.2 with⟨_,h⟩|⟨_,_,_,h⟩<;>rw[h]<;>rfl
theorem jG{f}{args}{s}{b}{ex}{q}(j:ar TP f args (B7 s b ex) (j0 s b ex q))(l:∀a,a∈args->below 7 a)(t):ar TP f args (H7 s b ex t) (jp s b ex t q):=by
 refine(g' (fi s b ex) l (j.mono λr h' i=>⟨Fw i,i⟩) t).mono λr o i=>?_;obtain⟨h',e,_,i⟩:=i;exact⟨h',t,e,i,rfl,rfl⟩
theorem jd{s}{b}{ex}{t}{q}{v}{h}(i:jp s b ex t q (.ret v) h):∃a,v=.p (.str (bs a)):=by
 obtain⟨h',j,_,e,_⟩:=i;unfold j0 at e;split at e
 .cases e.1
 .rename_i b' a;cases e.1;exact⟨a,rfl⟩
theorem Uv(s)(b)(ex)(t)(n)(l:SOk s)(q:BkOk s b n)(i j)(text)(hi:(H7 s b ex t)[i]?=some (.row 1 [.ptr 2 1 0 0]))(o:(H7 s b ex t)[j]?=some (.row 1 [.p (.str (bs text))])) :
  ar TP 200 [.ptr i 1 0 0,.ptr j 1 0 0] (H7 s b ex t) (jp s b ex t (aR s b (.test text))):=by
 refine au (ag func200 rfl) rfl ?_;simp only[hi,o,go_sem,simprocAttr];refine cj (jG (Ui s b ex n l q text) (by simp only[go_sem,simprocAttr]) t) (λv h e=>?_) (λv h e=>?_)
 .obtain⟨a,rfl⟩:=jd e;simp only[go_sem,simprocAttr];exact e
 .simp only[go_sem,simprocAttr];exact e
theorem SB(s)(b)(ex)(t)(n)(l:SOk s)(q:BkOk s b n)(i j)(w)(hi:(H7 s b ex t)[i]?=some (.row 1 [.ptr 2 1 0 0]))(o:(H7 s b ex t)[j]?=some (.row 1 [.p (.str (bs w))])) :
  ar TP 209 [.ptr i 1 0 0,.ptr j 1 0 0] (H7 s b ex t) (jp s b ex t (aR s b (.drop w))):=by
 refine au (ag func209 rfl) rfl ?_;simp only[hi,o,go_sem,simprocAttr];refine cj (jG (Uo s b ex n l q w) (by simp only[go_sem,simprocAttr]) t) (λv h e=>?_) (λv h e=>?_)
 .obtain⟨a,rfl⟩:=jd e;simp only[go_sem,simprocAttr];exact e
 .simp only[go_sem,simprocAttr];exact e
theorem SA(s)(b)(ex)(t)(n)(l:SOk s)(q:BkOk s b n)(i j)(w)(hi:(H7 s b ex t)[i]?=some (.row 1 [.ptr 2 1 0 0]))(o:(H7 s b ex t)[j]?=some (.row 1 [.p (.str (bs w))])) :
  ar TP 211 [.ptr i 1 0 0,.ptr j 1 0 0] (H7 s b ex t) (jp s b ex t (aR s b (.plan w))):=by
 refine au (ag func211 rfl) rfl ?_;simp only[hi,o,go_sem,simprocAttr];refine cj (jG (CQ s b ex n l q w) (by simp only[go_sem,simprocAttr]) t) (λv h e=>?_) (λv h e=>?_)
 .obtain⟨a,rfl⟩:=jd e;simp only[go_sem,simprocAttr];exact e
 .simp only[go_sem,simprocAttr];exact e
theorem Sz(s)(b)(ex)(t)(n)(l:SOk s)(q:BkOk s b n)(i j)(w)(hi:(H7 s b ex t)[i]?=some (.row 1 [.ptr 2 1 0 0]))(o:(H7 s b ex t)[j]?=some (.row 1 [.p (.str (bs w))])) :
  ar TP 213 [.ptr i 1 0 0,.ptr j 1 0 0] (H7 s b ex t) (jp s b ex t (aR s b (.pour w))):=by
 refine au (ag func213 rfl) rfl ?_;simp only[hi,o,go_sem,simprocAttr];refine cj (jG (Uk s b ex n l q w) (by simp only[go_sem,simprocAttr]) t) (λv h e=>?_) (λv h e=>?_)
 .obtain⟨a,rfl⟩:=jd e;simp only[go_sem,simprocAttr];exact e
 .simp only[go_sem,simprocAttr];exact e
theorem SG(s)(b)(ex)(t)(n)(o:SOk s)(A:BkOk s b n)(i j k l m)(name colour lot)(grams)(hi:(H7 s b ex t)[i]?=some (.row 1 [.ptr 2 1 0 0]))(z:(H7 s b ex t)[j]?=some (.row 1 [.p (.str (bs name))]))
  (y:(H7 s b ex t)[k]?=some (.row 1 [.p (.str (bs colour))])) (u:(H7 s b ex t)[l]?=some (.row 1 [.p (.str (bs lot))])) (q:(H7 s b ex t)[m]?=some (.row 1 [.p (.int .i64 grams)])) :
  ar TP 207 [.ptr i 1 0 0,.ptr j 1 0 0,.ptr k 1 0 0,.ptr l 1 0 0,.ptr m 1 0 0] (H7 s b ex t) (jp s b ex t (aR s b (.batch name colour lot grams))):=by
 refine au (ag func207 rfl) rfl ?_;simp only[hi,z,y,u,q,go_sem,simprocAttr];refine cj (jG (Sk s b ex n o A name colour lot grams) (by simp only[go_sem,simprocAttr]) t) (λv h e=>?_) (λv h e=>?_)
 .obtain⟨a,rfl⟩:=jd e;simp only[go_sem,simprocAttr];exact e
 .simp only[go_sem,simprocAttr];exact e
theorem Wi(s)(b)(ex)(t)(n)(l:SOk s)(u:BkOk s b n)(i j k)(kind)(hours)(hi:(H7 s b ex t)[i]?=some (.row 1 [.ptr 2 1 0 0]))(q:(H7 s b ex t)[j]?=some (.row 1 [.p (.str (bs kind))]))
  (o:(H7 s b ex t)[k]?=some (.row 1 [.p (.int .i64 hours)])) :
  ar TP 217 [.ptr i 1 0 0,.ptr j 1 0 0,.ptr k 1 0 0] (H7 s b ex t) (jp s b ex t (aR s b (.box kind hours))):=by
 refine au (ag func217 rfl) rfl ?_;simp only[hi,q,o,go_sem,simprocAttr];refine cj (jG (Wf s b ex n l u kind hours) (by simp only[go_sem,simprocAttr]) t) (λv h e=>?_) (λv h e=>?_)
 .obtain⟨a,rfl⟩:=jd e;simp only[go_sem,simprocAttr];exact e
 .simp only[go_sem,simprocAttr];exact e
theorem Uu(s)(b)(ex)(t)(n)(l:SOk s)(u:BkOk s b n)(i j k)(kind)(a b' c d)(hi:(H7 s b ex t)[i]?=some (.row 1 [.ptr 2 1 0 0]))(q:(H7 s b ex t)[j]?=some (.row 1 [.p (.str (bs kind))]))
  (o:(H7 s b ex t)[k]?=some (.row 4 [.p (.agg [.int .i64 a,.int .i64 b',.int .i64 c,.int .i64 d])])) :
  ar TP 220 [.ptr i 1 0 0,.ptr j 1 0 0,.ptr k 1 0 0] (H7 s b ex t) (jp s b ex t (aR s b (.wick kind a b' c d))):=by
 refine au (ag func220 rfl) rfl ?_;simp only[hi,q,o,go_sem,simprocAttr];refine cj (jG (Uh s b ex n l u kind a b' c d) (by simp only[go_sem,simprocAttr]) t) (λv h e=>?_) (λv h e=>?_)
 .obtain⟨a,rfl⟩:=jd e;simp only[go_sem,simprocAttr];exact e
 .simp only[go_sem,simprocAttr];exact e
theorem SF(s)(b)(ex)(t)(n)(j:SOk s)(o:BkOk s b n)(i k)(a b' c)(hi:(H7 s b ex t)[i]?=some (.row 1 [.ptr 2 1 0 0]))
  (l:(H7 s b ex t)[k]?=some (.row 3 [.p (.agg [.int .i64 a,.int .i64 b',.int .i64 c])])) :
  ar TP 222 [.ptr i 1 0 0,.ptr k 1 0 0] (H7 s b ex t) (jp s b ex t (aR s b (.blend a b' c))):=by
 refine au (ag func222 rfl) rfl ?_;simp only[hi,l,go_sem,simprocAttr];refine cj (jG (El s b ex n j o a b' c) (by simp only[go_sem,simprocAttr]) t) (λv h e=>?_) (λv h e=>?_)
 .obtain⟨a,rfl⟩:=jd e;simp only[go_sem,simprocAttr];exact e
 .simp only[go_sem,simprocAttr];exact e
theorem ND(s)(b)(ex)(t)(n)(A:SOk s)(E:BkOk s b n)(i j)(kind)(hi:(H7 s b ex t)[i]?=some (.row 1 [.ptr 2 1 0 0]))(D:(H7 s b ex t)[j]?=some (.row 1 [.p (.str (bs kind))])) :
  ar TP 215 [.ptr i 1 0 0,.ptr j 1 0 0] (H7 s b ex t) (jp s b ex t (aR s b (.promise kind))):=by
 have z:=wL s b ex n A E kind;have l:∀{R:AEnd->Heap->Prop},ar TP 216 [.ptr 2 1 0 0,.p (.str (bs kind))] (B7 s b ex) (λr h'=>R r h'/\h'=B7 s b ex)->ar TP 216 [.ptr 2 1 0 0,.p (.str (bs kind))] (H7 s b ex t) (λr h'=>h'=H7 s b ex t/\R r (B7 s b ex)):=λ{R} u=>by
  refine(g' (fi s b ex) (by simp only[go_sem,simprocAttr]) (u.mono λr h' a=>⟨by rw[a.2],a⟩) t).mono λr G a=>?_;obtain⟨h',e,_,a,F⟩:=a;subst F;exact⟨e,a⟩
 refine au (ag func215 rfl) rfl ?_;simp only[hi,D,go_sem,simprocAttr]
 cases o:f' s b kind with
 |error e=>
  refine cj (l (z.1 e o)) (λv h a=>by cases a.2) (λv h a=>?_);obtain⟨rfl,a⟩:=a;cases a;simp only[go_sem,simprocAttr]
  exact⟨_,t,rfl,by simp only[aR,o];exact⟨rfl,rfl⟩,rfl,rfl⟩
 |ok q=>
  obtain⟨k,m⟩:=q;obtain⟨C,u⟩:=z.2 k m o;refine cj (l u) (λv h a=>?_) (λv h a=>by cases a.2);obtain⟨rfl,a⟩:=a;cases a;simp only[go_sem,simprocAttr];have y:=oy [.n m] true (by simp) (λw hw=>by
   simp only[ce,fD,or_false]at hw;subst hw
   exact⟨C.1,by omega⟩)
  refine ae y rfl ?_;simp only[go_sem,simprocAttr];exact⟨_,t,rfl,by simp only[aR,o];exact⟨rfl,.inl ⟨_,rfl⟩⟩,rfl,rfl⟩
theorem Wh(s)(b)(ex)(t)(n)(D:SOk s)(J:BkOk s b n)(i j k l m r)(name kind)(grams)(rs)(y:rs.length<1000000000)(hi:(H7 s b ex t)[i]?=some (.row 1 [.ptr 2 1 0 0]))(G:(H7 s b ex t)[j]?=some (.row 1 [.p (.str (bs name))]))
  (u:(H7 s b ex t)[k]?=some (.row 1 [.p (.str (bs kind))])) (F:(H7 s b ex t)[l]?=some (.row 1 [.p (.int .i64 grams)])) (E:(H7 s b ex t)[m]?=some (.row 1 [.slice r rs.length 0 rs.length])) (M:10<=r) (q:(H7 s b ex t)[r]?=some (.row 1 (rs.map λv=>.p (aI v)))) :
  ar TP 205 [.ptr i 1 0 0,.ptr j 1 0 0,.ptr k 1 0 0,.ptr l 1 0 0,.ptr m 1 0 0] (H7 s b ex t) (jp s b ex t (aR s b (.lot name kind grams rs))):=by
 have o:ar TP 206 [.ptr 2 1 0 0,.p (.str (bs name)),.p (.str (bs kind)),.p (.int .i64 grams),.slice r rs.length 0 rs.length] (H7 s b ex t) (jp s b ex t (aR s b (.lot name kind grams rs))):=by
  have e:cS (λx=>x==r) (H7 s b ex t)=H7 s b ex (t.set (r-7) .dead):=by
   rw[Eb];unfold H7;rw[sH _ _ (show (B7 s b ex).length<=r by show 7<=r;omega)];rfl
  refine F6 (args':=[.ptr 2 1 0 0,.p (.str (bs name)),.p (.str (bs kind)),.p (.int .i64 grams),.p (.slice 1 (rs.map aI) false)]) (λx=>x==r) rfl (λx N hx=>?_) ?_
  .match x,hx with
   |0,hx=>exact .inl hx
   |1,hx=>exact .inl hx
   |2,hx=>exact .inl hx
   |3,hx=>exact .inl hx
   |4,hx=>
    cases hx;refine .inr ⟨_,_,rfl,rfl,?_⟩;have u:(cS (λi=>!(i==r)) (H7 s b ex t))[r]?=some (.row 1 (rs.map λv=>.p (aI v))):=by rw[mX (by simp)];exact q
    have I:∀(n:Nat) (h:Heap),aQ (bV n h) (rs.map λv=>.p (aI v))=some (rs.map aI):=λn h=>dC (eE n h) aI rs;unfold wv bV;rw[u];simp only[j8,I];rw[if_pos (by simp)];show some (PV.slice 1 (List.drop 0 (List.take (0+rs.length) (rs.map aI))) false)=_
    rw[qd,fC (by simp)]
   |n+5,hx=>simp at hx
  .rw[e];refine(jG (We s b ex n D J name kind grams rs y) (by simp only[go_sem,simprocAttr]) _).mono λx h' hx=>?_;obtain⟨K,z,L,A,C,k1⟩:=hx;refine⟨K,z,L,A,by rw[C,sI],by rw[k1];exact List.take_set_of_le (by omega)⟩
 refine au (ag func205 rfl) rfl ?_;simp only[hi,G,u,F,E,go_sem,simprocAttr];refine cj o (λv h q=>?_) (λv h q=>?_)
 .obtain⟨a,rfl⟩:=jd q;simp only[go_sem,simprocAttr];exact q
 .simp only[go_sem,simprocAttr];exact q
end Ch
end Abs
end Go.Proofs.YtmndpldajflenaaGreatDoor
