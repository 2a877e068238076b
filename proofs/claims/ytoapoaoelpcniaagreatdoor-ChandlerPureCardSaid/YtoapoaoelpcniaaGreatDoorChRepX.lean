/- CONTRACTS of the program's functions, and laws on what they return. No conditions but those in the theorems' heads. -/
import Derived.Test.YtoapoaoelpcniaaGreatDoorChBk4X
set_option linter.all false
open Go.Proofs.Tryz renaming prog->TP
namespace Go.Proofs.YtoapoaoelpcniaaGreatDoor
namespace Abs
namespace Ch
set_option maxRecDepth 4000
theorem V7(n)(h1:1<=n)(h5:n<=5):af TP 312 [.int .u64 1,.int .u64 n] (.tuple [.int .u64 0,.int .u64 n]):=by
 have hn:n=1\/n=2\/n=3\/n=4\/n=5:=by omega
 have f0:fB .shr .u64 0 32=some (.int .u64 0):=rfl;have f1:fB .shr .u64 1 32=some (.int .u64 0):=rfl;have w0:IntKind.u64.wrap 0=0:=rfl;have w1:IntKind.u64.wrap 1=1:=rfl;rcases hn with rfl|rfl|rfl|rfl|rfl
 .have f2:fB .shr .u64 1 32=some (.int .u64 0):=rfl;have w2:IntKind.u64.wrap 1=1:=rfl;refine aa (ah Tryz.func312 rfl (by kernel_rfl)) rfl ?_;simp only[f1,f0,w0,w1,B4,Fy,zy,mb,go_sem,simprocAttr]
 .have f2:fB .shr .u64 2 32=some (.int .u64 0):=rfl;have w2:IntKind.u64.wrap 2=2:=rfl;refine aa (ah Tryz.func312 rfl (by kernel_rfl)) rfl ?_;simp only[f1,f0,f2,w0,w1,w2,B4,Fy,zy,mb,go_sem,simprocAttr]
 .have f2:fB .shr .u64 3 32=some (.int .u64 0):=rfl;have w2:IntKind.u64.wrap 3=3:=rfl;refine aa (ah Tryz.func312 rfl (by kernel_rfl)) rfl ?_;simp only[f1,f0,f2,w0,w1,w2,B4,Fy,zy,mb,go_sem,simprocAttr]
 .have f2:fB .shr .u64 4 32=some (.int .u64 0):=rfl;have w2:IntKind.u64.wrap 4=4:=rfl;refine aa (ah Tryz.func312 rfl (by kernel_rfl)) rfl ?_;simp only[f1,f0,f2,w0,w1,w2,B4,Fy,zy,mb,go_sem,simprocAttr]
 .have f2:fB .shr .u64 5 32=some (.int .u64 0):=rfl;have w2:IntKind.u64.wrap 5=5:=rfl;refine aa (ah Tryz.func312 rfl (by kernel_rfl)) rfl ?_;simp only[f1,f0,f2,w0,w1,w2,B4,Fy,zy,mb,go_sem,simprocAttr]
theorem Hj(n)(h1:1<=n)(h5:n<=5):af TP 285 [.int .u64 1,.int .u64 n] (.tuple [.int .u64 0,.int .u64 n]):=by
 refine aa (ah Tryz.func285 rfl (by kernel_rfl)) rfl ?_;simp only[go_sem,simprocAttr];refine ae (V7 n h1 h5) rfl ?_;simp only[go_sem,simprocAttr]
def Dc:Hints:=ec [(38,.low),(45,.app 41),(5000001,.nop)]
theorem A0:cC Dc Tryz.f224=true:=by kernel_rfl
theorem Gy:Nat.min 1 1=1/\Nat.min 1 2=1/\Nat.min 1 3=1/\Nat.min 1 4=1/\Nat.min 2 1=1/\Nat.min 2 2=2/\Nat.min 2 3=2/\Nat.min 4 1=1:=by decide
theorem iw:IntKind.i64.wrap 1=1/\IntKind.i64.wrap (1+1)=2/\IntKind.i64.wrap (2+1)=3/\IntKind.i64.wrap (2+2)=4/\IntKind.i64.wrap (4+1)=5:=by decide
def pq:PV:=.agg [.int .i64 0,.int .i64 20]
theorem P3:ip TP 224 [.slice 2 [.agg [.int .i64 0,.int .i64 20]] true,.int .i64 1] (.slice 2 (List.replicate 1 pq) false):=by
 obtain⟨m1,m2,m3,m4,m5,m6,m7,m8⟩:=Gy;obtain⟨i1,i2,i3,i4,i5⟩:=iw;refine gb (eg (by kernel_rfl) rfl A0) rfl ?_;simp only[Dc,go_sem,simprocAttr];refine ae (Hj 1 (by decide) (by decide)) rfl ?_;have hrm:(1:Int)<=(aw:Int):=by decide
 simp only[hrm,go_sem,simprocAttr];refine br ?_;simp only[pq,go_sem,simprocAttr]
 trace_state
theorem P2:ip TP 224 [.slice 2 [.agg [.int .i64 0,.int .i64 20]] true,.int .i64 2] (.slice 2 (List.replicate 2 pq) false):=by
 obtain⟨m1,m2,m3,m4,m5,m6,m7,m8⟩:=Gy;obtain⟨i1,i2,i3,i4,i5⟩:=iw;refine gb (eg (by kernel_rfl) rfl A0) rfl ?_;simp only[Dc,go_sem,simprocAttr];refine ae (Hj 2 (by decide) (by decide)) rfl ?_;have hrm:(2:Int)<=(aw:Int):=by decide
 simp only[hrm,go_sem,simprocAttr];refine br ?_;simp only[aL,go_sem,simprocAttr];refine And.intro (.inr ⟨0,_,rfl,rfl⟩) ?_;simp only[m1,go_sem,simprocAttr];refine br ?_;simp only[pq,go_sem,simprocAttr]
theorem P1:ip TP 224 [.slice 2 [.agg [.int .i64 0,.int .i64 20]] true,.int .i64 3] (.slice 2 (List.replicate 3 pq) false):=by
 obtain⟨m1,m2,m3,m4,m5,m6,m7,m8⟩:=Gy;obtain⟨i1,i2,i3,i4,i5⟩:=iw;refine gb (eg (by kernel_rfl) rfl A0) rfl ?_;simp only[Dc,go_sem,simprocAttr];refine ae (Hj 3 (by decide) (by decide)) rfl ?_;have hrm:(3:Int)<=(aw:Int):=by decide
 simp only[hrm,go_sem,simprocAttr];refine br ?_;simp only[aL,go_sem,simprocAttr];refine And.intro (.inr ⟨0,_,rfl,rfl⟩) ?_;simp only[m2,m3,go_sem,simprocAttr];refine br ?_;simp only[aL,go_sem,simprocAttr];refine And.intro (.inr ⟨0,_,rfl,rfl⟩) ?_;simp only[m5,m6,go_sem,simprocAttr];refine br ?_;simp only[pq,go_sem,simprocAttr]
theorem P0:ip TP 224 [.slice 2 [.agg [.int .i64 0,.int .i64 20]] true,.int .i64 4] (.slice 2 (List.replicate 4 pq) false):=by
 obtain⟨m1,m2,m3,m4,m5,m6,m7,m8⟩:=Gy;obtain⟨i1,i2,i3,i4,i5⟩:=iw;refine gb (eg (by kernel_rfl) rfl A0) rfl ?_;simp only[Dc,go_sem,simprocAttr];refine ae (Hj 4 (by decide) (by decide)) rfl ?_;have hrm:(4:Int)<=(aw:Int):=by decide
 simp only[hrm,go_sem,simprocAttr];refine br ?_;simp only[aL,go_sem,simprocAttr];refine And.intro (.inr ⟨0,_,rfl,rfl⟩) ?_;simp only[m2,m3,go_sem,simprocAttr];refine br ?_;simp only[aL,go_sem,simprocAttr];refine And.intro (.inr ⟨0,_,rfl,rfl⟩) ?_;simp only[m5,m6,go_sem,simprocAttr];refine br ?_;simp only[pq,go_sem,simprocAttr]
theorem PZ:ip TP 224 [.slice 2 [.agg [.int .i64 0,.int .i64 20]] true,.int .i64 5] (.slice 2 (List.replicate 5 pq) false):=by
 obtain⟨m1,m2,m3,m4,m5,m6,m7,m8⟩:=Gy;obtain⟨i1,i2,i3,i4,i5⟩:=iw;refine gb (eg (by kernel_rfl) rfl A0) rfl ?_;simp only[Dc,go_sem,simprocAttr];refine ae (Hj 5 (by decide) (by decide)) rfl ?_;have hrm:(5:Int)<=(aw:Int):=by decide
 simp only[hrm,go_sem,simprocAttr];refine br ?_;simp only[aL,go_sem,simprocAttr];refine And.intro (.inr ⟨0,_,rfl,rfl⟩) ?_;simp only[m4,go_sem,simprocAttr];refine br ?_;simp only[aL,go_sem,simprocAttr];refine And.intro (.inr ⟨0,_,rfl,rfl⟩) ?_;simp only[m7,go_sem,simprocAttr];refine br ?_;simp only[aL,go_sem,simprocAttr];refine And.intro (.inr ⟨0,_,rfl,rfl⟩) ?_;simp only[m8,go_sem,simprocAttr];refine br ?_;simp only[pq,go_sem,simprocAttr]
theorem SP(n:Nat)(h1:1<=n)(h5:n<=5):ip TP 224 [.slice 2 [.agg [.int .i64 0,.int .i64 20]] true,.int .i64 n] (.slice 2 (List.replicate n pq) false):=by
 match n,h1,h5 with
 |1,_,_=>exact P3
 |2,_,_=>exact P2
 |3,_,_=>exact P1
 |4,_,_=>exact P0
 |5,_,_=>exact PZ
theorem SOk.wickwaxes{s}(h:SOk s):s.wick.waxes.length<1000000000:=by
 have:=(Wk.wT h.wick).lx;omega
theorem KX{s}{c}{x}(h:(Wk.eG s c x).2=0):Wk.tg s (Wk.eG s c x).1:=by
 unfold Wk.eG at h |-;split at h
 .rename_i h0;rw[if_pos h0];split at h
  .cases h
  .rename_i h1;rw[if_neg h1];rcases Wk.wi s (Wk.g8 s c x s.wicks 0) (-1) (Wk.pX s c x s.wicks 0 (by simp)) (.inl rfl) with e|e
   .rw[e]at h1;exact absurd (by decide) h1
   .exact e
 .rename_i h0;exact absurd h h0
set_option maxHeartbeats 1000000 in
theorem XA(s)(b)(ex)(n)(hs:SOk s)(hb:BkOk s b n)(kind)(a b' c d):aD TP 157 [.ptr 2 1 0 0,.p (.str (bs kind)),.p (.agg [.int .i64 a,.int .i64 b',.int .i64 c,.int .i64 d])] (B7 s b ex) (kP s b ex (aO s b (.wick kind a b' c d))):=by
 refine bN (ah Tryz.func157 rfl (by kernel_rfl)) rfl ?_;simp only[ChShop.cells,go_sem,simprocAttr];rcases lW (λx:Wax=>x.name==bs kind) s.wick.waxes 0 with h3|⟨j,x,hj,hx,_⟩
 .refine sS (U4 s.wick.waxes (bs kind) false hs.wickwaxes h3) rfl (nI _) ?_;simp only[go_sem,simprocAttr];exact dJ (e:=4) (by simp only[aO,if_pos h3]) [_] rfl
 rw[iq]at hj;have hnj:¬(j:Int)<0:=by omega
 have hfd:=V9 s.wick.waxes (bs kind) false hs.wickwaxes (by omega);rw[hj]at hfd;refine ae hfd rfl ?_;simp only[go_sem,simprocAttr];have hT:=Wk.EN s.wick ⟨(j:Int),a,b',⟨c,d⟩⟩ x (λh0=>by
  obtain⟨x',hx'⟩:=Wk.PB h0;have:=hx'.hx;dsimp only at this;rw[g7,hx]at this;cases this
  exact hx')
 refine ax hT rfl ?_;by_cases h4:(Wk.eG s.wick ⟨(j:Int),a,b',⟨c,d⟩⟩ x).2=0;rotate_left
 .have h4':((Wk.eG s.wick ⟨(j:Int),a,b',⟨c,d⟩⟩ x).2==0)=false:=by simpa using h4
  simp only[h4',go_sem,simprocAttr];refine az (λh=>by cases h) (λ_=>?_);simp only[go_sem,simprocAttr];exact dJ (e:=(Wk.eG s.wick ⟨(j:Int),a,b',⟨c,d⟩⟩ x).2) (by simp only[aO,hj,if_neg hnj,g7,hx,if_pos h4]) [_] rfl
 have h4n:¬(Wk.eG s.wick ⟨(j:Int),a,b',⟨c,d⟩⟩ x).2≠0:=λh=>h h4;have hv:=KX h4;simp only[h4,go_sem,simprocAttr];refine az (λ_=>?_) (λh=>by cases h);obtain⟨k,hk⟩:=nx hv.1;have hkl:k<s.wick.wicks.length:=by have:=hv.2;omega
 obtain⟨w,hw⟩:∃w,s.wick.wicks[k]?=some w:=⟨_,dc hkl⟩
 have hkB:(k:Int)<(s.wick.wicks.length:Int):=by omega
 simp only[hk,hkB,hw,go_sem,simprocAttr];have hact:aO s b (.wick kind a b' c d)=.ok (b,bl w.name):=by
  simp only[aO,hj,if_neg hnj,g7,hx,if_neg h4n,hk,hw]
 have:=ik (s:=s) (b:=b) (ex:=ex) (ex':=ex) hact (hh:=B7 s b ex++[.row 4 [.p (.agg [.int .i64 a,.int .i64 b',.int .i64 c,.int .i64 d])]]) [_] rfl;rw[Fl]at this;exact this
theorem Wp{l}(h:(bdCheck l).2.2=0):1<=l.length/\l.length<=5:=by
 unfold bdCheck at h;split at h
 .rename_i h1;simp[ar]at h1;omega
 .cases h
theorem IN{l}{w}(h:(cf l w).2.2=0):((cf l w).1.length<=1000/\∀n,n∈(cf l w).1->0<=n/\n<1000000000)/\0<=(cf l w).2.1/\(cf l w).2.1<1000000000:=by
 unfold cf at h |-;split at h
 .rename_i h0;rw[if_pos h0];obtain⟨hl,hw⟩:=De h0;split at h
  .cases h
  .rename_i r hr;dsimp only;have hm:r∈fits l w:=by
    rcases mY _ _ _ _ hr with h|h
    .cases h
    .exact h
   have hro:=(Ac hl hm).1;have hb:=(Js (vo hl hro.rng)).2.2.2.2.1;have h5:=hl.len;have h6:=hro.len;have hp:dt kn (l.zip r)=ff l r:=rfl;refine⟨⟨by omega,λn hn=>?_⟩,?_,?_⟩
   .have:=hro.rng n hn;omega
   .rw[<-hp];exact hb.1
   .rw[<-hp];omega
 .rename_i h0;exact absurd h h0
theorem Sk(s)(a b' c):(iM s a b' c).pv=.agg [.slice 2 (List.replicate s.blend.length pq) false,.int .i64 a,.int .i64 b',.int .i64 0,.int .i64 c]:=by
 simp only[BdWish.pv,iM,List.map_replicate,Span.pv,pq]
set_option maxHeartbeats 1000000 in
theorem GR(s)(b)(ex)(n)(hs:SOk s)(hb:BkOk s b n)(a b' c):aD TP 159 [.ptr 2 1 0 0,.p (.agg [.int .i64 a,.int .i64 b',.int .i64 c])] (B7 s b ex) (kP s b ex (aO s b (.blend a b' c))):=by
 refine bN (ah Tryz.func159 rfl (by kernel_rfl)) rfl ?_;simp only[ChShop.cells,go_sem,simprocAttr];have hbl:=Wp hs.blend;have hR:=SP s.blend.length hbl.1 hbl.2;refine yc hR rfl ?_;simp only[go_sem,simprocAttr];refine ax (Ox s.blend (iM s a b' c)) (by rw[Sk];rfl) ?_;by_cases h4:(cf s.blend (iM s a b' c)).2.2=0;rotate_left
 .have h4':((cf s.blend (iM s a b' c)).2.2==0)=false:=by simpa using h4
  simp only[uF,h4',go_sem,simprocAttr];refine az (λh=>by cases h) (λ_=>?_);simp only[go_sem,simprocAttr];exact dJ (e:=(cf s.blend (iM s a b' c)).2.2) (by simp only[aO,if_pos h4]) [_,_] rfl
 have h4n:¬(cf s.blend (iM s a b' c)).2.2≠0:=λh=>h h4;obtain⟨c1,c2⟩:=IN h4;simp only[uF,h4,go_sem,simprocAttr];refine az (λ_=>?_) (λh=>by cases h);simp only[go_sem,simprocAttr];have hsd:=qa [.ns (cf s.blend (iM s a b' c)).1,.n (cf s.blend (iM s a b' c)).2.1] true (by simp) (λw hw=>by
  simp only[ci,iL,or_false]at hw;rcases hw with rfl|rfl
  .exact c1
  .exact c2)
 refine ae hsd rfl ?_;simp only[go_sem,simprocAttr];exact ik (b':=b) (ex':=ex) (a:=joinL ([Word.ns (cf s.blend (iM s a b' c)).1,.n (cf s.blend (iM s a b' c)).2.1].flatMap Word.ws)) (by simp only[aO,if_neg h4n];rfl) [_,_] rfl
end Ch
theorem IH{P}{f}{args args'}{h}{R}(K)(hl:args'.length=args.length)
  (ha:∀(i:Nat) (a'),args'[i]?=some a'->args[i]?=some a'\/∃a q,args[i]?=some a/\a'=.p q/\zg (eU (λi=>!K i) h) a=some q)
  (hc:aD P f args' (eU K h) R):aD P f args h R:=by
 intro M0 m w cargs hS hargs;have e0:=CF ⟨m,h,w⟩ K h.length;have hk:=z7 hS K;have hargs':dZ (Rep M0 (Mem.kill K ⟨m,h,w⟩)) cargs args':=by
  refine⟨by rw[hargs.1,hl],λi a' hi=>?_⟩;rcases ha i a' hi with h1|⟨a,q,h1,rfl,h2⟩
  .exact e0.keep (hargs.2 i a' h1)
  .exact Aa (S:=⟨m,h,w⟩) hS K (hargs.2 i a h1) h2
 have:=hc M0 (gM K m) w cargs hk hargs';refine⟨this.1,this.2.mono λe w' hh=>?_⟩;obtain⟨r,h',m',hR,hev,hk',hend⟩:=hh;have hlen:(eU K h).length=h.length:=by simp[eU]
 rw[hlen]at hev;exact⟨r,h',m',hR,e0.trans hev,hk',hend⟩
theorem pF{n}{a}(h:ei n a):qV (·≠n) a:=by
 cases a<;>first|exact B6 h|exact trivial
theorem JX{n}{a}(h:fk n a):sB (·≠n) a:=by
 cases a<;>first|exact B6 h|exact trivial|exact⟨λc hc=>pF (h.1 c hc),λc hc=>pF (h.2 c hc)⟩
theorem SX{n}{a}(h:gy n a):tZ (·≠n) a:=by
 cases a<;>first|exact B6 h|exact trivial|exact λc hc=>JX (h c hc)|exact⟨λc hc=>pF (h.1 c hc),λc hc=>pF (h.2 c hc)⟩
theorem Bo{n}{a}(h:below n a):sC (·≠n) a:=by
 cases a<;>first|exact B6 h|exact trivial|exact λc hc=>SX (h c hc)|exact λc hc=>JX (h c hc)|exact⟨λc hc=>pF (h.1 c hc),λc hc=>pF (h.2 c hc)⟩
theorem DD{n}{o}(h:bm n o):qu (·≠n) o:=by
 cases o<;>first|exact trivial|exact λx hx=>Bo (h x hx)|exact λt=>Bo (h t)|exact pF h
theorem rC{T}:∀(live) (t),(cX (bY T live []) t=T t/\t∈live)\/cX (bY T live []) t=.undef
 |[],t=>.inr rfl
 |x::r,t=>by
  unfold bY cX;by_cases h:t=x
  .subst h;rw[if_pos rfl];exact .inl ⟨rfl,by simp⟩
  .rw[if_neg h];rcases rC r t with⟨h1,h2⟩|h1
   .exact .inl ⟨h1,by simp[h2]⟩
   .exact .inr h1
theorem C7{P}{H}{Q}{x}{A}(live)(i sz)(hi:A.bs<=i)(hb:A.bs<=A.h.length)(hx:A.h[i]?=some (.row 1 [.p .nilslice]))(hl:∀t,t∈live->below A.h.length (A.tmps t))(ho:∀o,o∈A.h->bm A.h.length o)(hd:A.df=[])
  (k:@W ⟨P,H,.loop x,Q⟩ { n:=A.n,bs:=A.bs,rc:=A.rc,tmps:=cX (bY A.tmps live []),h:=A.h.set i (.row 1 [.slice A.h.length 0 0 0])++[.row sz []],df:=A.df }):@W ⟨P,H,.loop x,Q⟩ A:=by
 have hil:i<A.h.length:=(aF.1 hx).1
 have hw:=u0 (P:=P) (A:={ A with h:=A.h++[.row sz []] }) (T:=cX (bY A.tmps live [])) A.h.length i sz 1 [.p .nilslice] [.slice A.h.length 0 0 0] hb hi (by simp) (by omega)
  (by rw[aX hil];exact hx) rfl (λn x y h1 h2=>by
   match n,h1,h2 with
   |0,h1,h2=>
    cases h1;cases h2;refine⟨_,_,rfl,rfl,rfl,λj c d h3 h4=>?_⟩
    match j,h3,h4 with
    |0,h3,h4=>cases h3;cases h4;exact .inr ⟨rfl,rfl⟩
    |j+1,h3,h4=>cases h3
   |n+1,h1,h2=>simp at h1) (λt=>by
   rcases rC (T:=A.tmps) live t with⟨h1,h2⟩|h1
   .exact .inl ⟨h1,Bo (hl t h2)⟩
   .exact .inr h1) (λid o hid ho'=>by
   have hlt:id<A.h.length:=by
    have:=(aF.1 ho').1;simp at this;omega
   rw[aX hlt]at ho'
   exact DD (ho o (aG ho'))) hd
 have e:((A.h++[AObj.row sz []]).set A.h.length (.row sz [])).set i (.row 1 [.slice A.h.length 0 0 0])=A.h.set i (.row 1 [.slice A.h.length 0 0 0])++[.row sz []]:=by
  rw[uU _ _ (bB _),wF];show (A.h++[AObj.row sz []]).set i _=_;rw[Aw _ _ hil]
 refine fm (FE sz) (fm hw ?_);dsimp only;rw[e];exact k
namespace Ch
set_option maxRecDepth 4000
def de (l:List (List UInt8)):AObj:=.row 1 [.p (bE l)]
theorem Br(w)(ws)(id)(h)(hid:h[id]?=some (de (w::ws))) :
  aD TP 137 [.ptr id 1 0 0] h (λr h'=>r=.ret (.p (.str (bs w)))/\h'=h.set id (de ws)):=by
 unfold de bE at hid |-;have h0:(0:Int)<((ws.length+1:Nat):Int):=by omega
 have h0d:decide ((0:Int)<((ws.length+1:Nat):Int))=true:=decide_eq_true h0;refine aC (ah Tryz.func137 rfl (by kernel_rfl)) rfl ?_;simp only[hid,h0d,go_sem,simprocAttr];refine az (λ_=>?_) (λh=>by cases h);have h1:(1:Int)<=((ws.length+1:Nat):Int):=by omega
 have htk:List.take (ws.length+1) (PV.str (bs w)::ws.map λx=>PV.str (bs x))=PV.str (bs w)::ws.map λx=>PV.str (bs x):=eD (by simp);simp only[hid,h0,h1,htk,go_sem,simprocAttr]
theorem JY(id)(h)(hid:h[id]?=some (de [])) :
  aD TP 137 [.ptr id 1 0 0] h (λr h'=>r=.panic (gE 6)/\h'=h):=by
 unfold de bE at hid;refine aC (ah Tryz.func137 rfl (by kernel_rfl)) rfl ?_;simp only[hid,go_sem,simprocAttr];refine az (λh=>by cases h) (λ_=>?_);simp only[go_sem,simprocAttr]
def jo (id:Nat):AObj:=.row 1 [.func (.func 137) [] [.ptr id 1 0 0]]
theorem XE(w)(ws)(id jd)(h)(hid:h[id]?=some (de (w::ws)))(hjd:h[jd]?=some (jo id))(hn:aW w=some w) :
  aD TP 138 [.ptr jd 1 0 0] h (λr h'=>r=.ret (.p (.str (bs w)))/\h'=h.set id (de ws)):=by
 have hnm:nameOk (bs w)=true:=by
  unfold aW at hn;split at hn
  .assumption
  .cases hn
 unfold jo at hjd;refine aC (ah Tryz.func138 rfl (by kernel_rfl)) rfl ?_;simp only[hjd,go_sem,simprocAttr];refine cJ (Br w ws id h hid) ?_;simp only[go_sem,simprocAttr];refine ae (jU (bs w)) rfl ?_;simp only[hnm,go_sem,simprocAttr];refine az (λ_=>?_) (λh=>by cases h);simp only[go_sem,simprocAttr]
theorem PY{w v}(h:aW w=some v):v=w:=by
 unfold aW at h;split at h
 .cases h;rfl
 .cases h
theorem SZ(l)(id jd)(h)(hid:h[id]?=some (de l))(hjd:h[jd]?=some (jo id))(hn:∀w ws,l=w::ws->aW w=none) :
  aD TP 138 [.ptr jd 1 0 0] h (λr h'=>r=.panic (gE 6)/\∃o,h'=h.set id o):=by
 unfold jo at hjd;refine aC (ah Tryz.func138 rfl (by kernel_rfl)) rfl ?_;simp only[hjd,go_sem,simprocAttr]
 cases l with
 |nil=>
  refine uN (JY id h hid) ?_;simp only[go_sem,simprocAttr]
  exact⟨_,(jP hid).symm⟩
 |cons w ws=>
  have hnm:nameOk (bs w)=false:=by
   have:=hn w ws rfl;unfold aW at this;split at this
   .cases this
   .rename_i h;simpa using h
  refine cJ (Br w ws id h hid) ?_;simp only[go_sem,simprocAttr];refine ae (jU (bs w)) rfl ?_;simp only[hnm,go_sem,simprocAttr];refine az (λh=>by cases h) (λ_=>?_);simp only[go_sem,simprocAttr];exact⟨_,rfl⟩
theorem xh{w}{v}(h:bF w=some v):jR w=some v/\0<=v/\v<=10000000/\be v=w:=by
 unfold bF at h;split at h
 .rename_i x hx;split at h
  .rename_i hc;cases h;exact⟨hx,hc⟩
  .cases h
 .cases h
theorem SY(w)(ws)(id jd)(h)(v)(hl:w.length<=1000000)(hid:h[id]?=some (de (w::ws)))(hjd:h[jd]?=some (jo id))(hn:bF w=some v) :
  aD TP 139 [.ptr jd 1 0 0] h (λr h'=>r=.ret (.p (.int .i64 v))/\h'=h.set id (de ws)):=by
 obtain⟨n1,n2,n3,n4⟩:=xh hn;have hp:lc (bs w)=.tuple [.int .i64 v,.niliface]:=by
  unfold jR at n1;rw[lc,gF];cases ha:Lib.atoiAll w<;>rw[ha]at n1<;>first|cases n1;done|skip
  cases n1;rfl
 unfold jo at hjd;refine aC (ah Tryz.func139 rfl (by kernel_rfl)) rfl ?_;simp only[hjd,go_sem,simprocAttr];refine cJ (Br w ws id h hid) ?_;simp only[go_sem,simprocAttr];refine ae (Fk (bs w) (by rw[ao];omega)) rfl ?_;simp only[hp,n2,n3,go_sem,simprocAttr];refine ae (BK v n2 (by omega)) rfl ?_;have hb:(bs (be v)==bs w)=true:=by rw[n4,cc];exact beq_self_eq_true _
 simp only[hb,go_sem,simprocAttr];refine az (λ_=>?_) (λh=>by cases h);simp only[go_sem,simprocAttr]
theorem NZ(l)(id jd)(h)(hl:∀w,w∈l->w.length<=1000000)(hid:h[id]?=some (de l))(hjd:h[jd]?=some (jo id))(hn:∀w ws,l=w::ws->bF w=none) :
  aD TP 139 [.ptr jd 1 0 0] h (λr h'=>r=.panic (gE 6)/\∃o,h'=h.set id o):=by
 unfold jo at hjd;refine aC (ah Tryz.func139 rfl (by kernel_rfl)) rfl ?_;simp only[hjd,go_sem,simprocAttr]
 cases l with
 |nil=>
  refine uN (JY id h hid) ?_;simp only[go_sem,simprocAttr]
  exact⟨_,(jP hid).symm⟩
 |cons w ws=>
  have hnw:=hn w ws rfl;have hlw:=hl w (by simp);refine cJ (Br w ws id h hid) ?_;simp only[go_sem,simprocAttr];refine ae (Fk (bs w) (by rw[ao];omega)) rfl ?_
  cases hnl:jR w with
  |none=>
   have hx:∃v,lc (bs w)=.tuple [.int .i64 v,.iface 348 .any]:=by
    unfold jR at hnl;rw[lc,gF];cases ha:Lib.atoiAll w<;>rw[ha]at hnl<;>first|cases hnl;done|exact⟨_,rfl⟩
   obtain⟨v,hx⟩:=hx;simp only[hx,go_sem,simprocAttr];refine az (λh=>by cases h) (λ_=>?_);simp only[go_sem,simprocAttr]
   exact⟨_,rfl⟩
  |some v=>
   have hp:lc (bs w)=.tuple [.int .i64 v,.niliface]:=by
    unfold jR at hnl;rw[lc,gF];cases ha:Lib.atoiAll w<;>rw[ha]at hnl<;>first|cases hnl;done|skip
    cases hnl;rfl
   by_cases h0:0<=v;rotate_left
   .have h0':decide (0<=v)=false:=by simpa using h0
    simp only[hp,h0',go_sem,simprocAttr];refine az (λh=>by cases h) (λ_=>?_);simp only[go_sem,simprocAttr];exact⟨_,rfl⟩
   by_cases h1:v<=10000000;rotate_left
   .have h1':decide (v<=10000000)=false:=by simpa using h1
    simp only[hp,h0,h1',go_sem,simprocAttr];refine az (λh=>by cases h) (λ_=>?_);simp only[go_sem,simprocAttr];exact⟨_,rfl⟩
   simp only[hp,h0,h1,go_sem,simprocAttr];refine ae (BK v h0 (by omega)) rfl ?_;have hb:(bs (be v)==bs w)=false:=by
    rw[cc]
    cases hd:(be v==w) with
    |false=>rfl
    |true=>
     rw[bF,hnl]at hnw;simp only[h0,h1,true_and,eq_of_beq hd,if_true]at hnw;cases hnw
   simp only[hb,go_sem,simprocAttr];refine az (λh=>by cases h) (λ_=>?_);simp only[go_sem,simprocAttr];exact⟨_,rfl⟩
theorem kq{H}{Q}{ops}{rest}{dst}{A}(l)(id jd)(hid:A.h[id]?=some (de l))(hjd:A.h[jd]?=some (jo id))
  (h1:∀w ws,l=w::ws->aW w=some w->@WO ⟨TP,H,ops,rest,Q⟩ (A.put dst (.p (.str (bs w))) (A.h.set id (de ws))))
  (h2:(∀w ws,l=w::ws->aW w=none)->∀o,@WQ ⟨Q⟩ (.panic (gE 6)) { A with h:=A.h.set id o }):@WF ⟨TP,H,ops,rest,Q,dst⟩ A 138 [.ptr jd 1 0 0]:=by
 by_cases hn:∀w ws,l=w::ws->aW w=none
 .refine cz (SZ l id jd A.h hid hjd hn) (λv h hr=>by cases hr.1) (λv h hr=>?_);obtain⟨e,o,rfl⟩:=hr;cases e;exact h2 hn o
 .cases l with
  |nil=>exact absurd (λw ws h=>by cases h) hn
  |cons w ws=>
   have hw:aW w=some w:=by
    cases hc:aW w with
    |none=>exact absurd (λw' ws' h=>by cases h;exact hc) hn
    |some v=>rw[PY hc]
   exact cJ (XE w ws id jd A.h hid hjd hw) (h1 w ws rfl hw)
theorem gY{H}{Q}{ops}{rest}{dst}{A}(l)(id jd)(hl:∀w,w∈l->w.length<=1000000)(hid:A.h[id]?=some (de l))(hjd:A.h[jd]?=some (jo id))
  (h1:∀w ws v,l=w::ws->bF w=some v->@WO ⟨TP,H,ops,rest,Q⟩ (A.put dst (.p (.int .i64 v)) (A.h.set id (de ws))))
  (h2:(∀w ws,l=w::ws->bF w=none)->∀o,@WQ ⟨Q⟩ (.panic (gE 6)) { A with h:=A.h.set id o }):@WF ⟨TP,H,ops,rest,Q,dst⟩ A 139 [.ptr jd 1 0 0]:=by
 by_cases hn:∀w ws,l=w::ws->bF w=none
 .refine cz (NZ l id jd A.h hl hid hjd hn) (λv h hr=>by cases hr.1) (λv h hr=>?_);obtain⟨e,o,rfl⟩:=hr;cases e;exact h2 hn o
 .cases l with
  |nil=>exact absurd (λw ws h=>by cases h) hn
  |cons w ws=>
   cases hc:bF w with
   |none=>exact absurd (λw' ws' h=>by cases h;exact hc) hn
   |some v=>exact cJ (SY w ws id jd A.h v (hl w (by simp)) hid hjd hc) (h1 w ws v rfl hc)
end Ch
set_option maxRecDepth 100000
theorem L5(l p)(hl:l.length<1000000000)(hp:p.length<1000000000):af TP 254 [.str (bs l),.str (bs p)] (.bool (decide (l.take p.length=p))):=by
 refine aa (ah Tryz.func254 rfl (by kernel_rfl)) rfl ?_;by_cases hle:p.length<=l.length
 .have e1:decide ((((bs p).size:Nat):Int)<=(((bs l).size:Nat):Int))=true:=by rw[ao,ao];simp;omega
  have e3:((((bs p).size:Nat):Int))<=(((bs l).size:Nat):Int):=by rw[ao,ao];omega
  have e4:(bs l).extract 0 (bs p).size=bs (l.take p.length):=by rw[cY,mE,ao]
  have e5:(bs (l.take p.length)==bs p)=decide (l.take p.length=p):=by
   rw[cc,nh];simp
  simp only[e3,e4,e5,go_sem,simprocAttr]
 .have e1:decide ((((bs p).size:Nat):Int)<=(((bs l).size:Nat):Int))=false:=by rw[ao,ao];simp;omega
  have e2:decide (l.take p.length=p)=false:=by
   rw[decide_eq_false_iff_not];intro h;have:=congrArg List.length h;rw[s5]at this;omega
  simp only[e1,e2,go_sem,simprocAttr]
theorem CQ(l p)(hl:l.length<1000000000)(hp:p.length<1000000000):af TP 196 [.str (bs l),.str (bs p)] (.tuple [.str (bs (if l.take p.length=p then l.drop p.length else l)),.bool (decide (l.take p.length=p))]):=by
 refine aa (ah Tryz.func196 rfl (by kernel_rfl)) rfl ?_;simp only[go_sem,simprocAttr];refine ae (L5 l p hl hp) rfl ?_;by_cases h:l.take p.length=p
 .have hle:p.length<=l.length:=by
   have:=congrArg List.length h;rw[s5]at this;omega
  have e3:((((bs p).size:Nat):Int))<=(((bs l).size:Nat):Int):=by rw[ao,ao];omega
  have e4:(bs l).extract (bs p).size (bs l).size=bs (l.drop p.length):=by
   rw[cY,ao,ao,qN]
  have e5:decide (l.take p.length=p)=true:=decide_eq_true h;simp only[e5,e3,e4,if_pos h,go_sem,simprocAttr]
 .have e5:decide (l.take p.length=p)=false:=decide_eq_false h;simp only[e5,if_neg h,go_sem,simprocAttr]
theorem L6(l p)(hl:l.length<1000000000)(hp:p.length<1000000000):af TP 133 [.str (bs l),.str (bs p)] (.tuple [.str (bs (if l.take p.length=p then l.drop p.length else l)),.bool (decide (l.take p.length=p))]):=by
 refine aa (ah Tryz.func133 rfl (by kernel_rfl)) rfl ?_;simp only[go_sem,simprocAttr];refine ae (CQ l p hl hp) rfl ?_;simp only[go_sem,simprocAttr]
namespace Ch
set_option maxRecDepth 4000
def H7 (s:ChShop) (b:ChBooks) (ex:List PV) (t:Heap):Heap:=B7 s b ex++t
def j1 (s:ChShop) (b:ChBooks) (ex:List PV) (t:Heap) (q:Except Int (ChBooks×List UInt8)) (r:AEnd) (h'':Heap):Prop:=∃h' t',h''=h'++t'/\kP s b ex q r h'/\t'.length=t.length/\t'.take 3=t.take 3
theorem H2{s}{b}{ex}{q}{r}{h'}(h:kP s b ex q r h'):h'.length=7:=by
 unfold kP at h;split at h
 .rw[h.2];rfl
 .rcases h.2 with⟨_,h⟩|⟨_,_,_,h⟩<;>rw[h]<;>rfl
theorem kr{f}{args}{s}{b}{ex}{q}(hc:aD TP f args (B7 s b ex) (kP s b ex q))(ha:∀a,a∈args->below 7 a)(t):aD TP f args (H7 s b ex t) (j1 s b ex t q):=by
 refine(iE (fE s b ex) ha (hc.mono λr h' hr=>⟨H2 hr,hr⟩) t).mono λr h'' hr=>?_;obtain⟨h',e,_,hr⟩:=hr;exact⟨h',t,e,hr,rfl,rfl⟩
theorem jL{s}{b}{ex}{t}{q}{v}{h}(hr:j1 s b ex t q (.ret v) h):∃a,v=.p (.str (bs a)):=by
 obtain⟨h',t',_,hp,_⟩:=hr;unfold kP at hp;split at hp
 .cases hp.1
 .rename_i b' a;cases hp.1;exact⟨a,rfl⟩
theorem XO(s)(b)(ex)(t)(n)(hs:SOk s)(hb:BkOk s b n)(i j)(text)(hi:(H7 s b ex t)[i]?=some (.row 1 [.ptr 2 1 0 0]))(hj:(H7 s b ex t)[j]?=some (.row 1 [.p (.str (bs text))])) :
  aD TP 134 [.ptr i 1 0 0,.ptr j 1 0 0] (H7 s b ex t) (j1 s b ex t (aO s b (.test text))):=by
 refine aC (ah Tryz.func134 rfl (by kernel_rfl)) rfl ?_;simp only[hi,hj,go_sem,simprocAttr];refine cz (kr (XB s b ex n hs hb text) (by simp only[go_sem,simprocAttr]) t) (λv h hr=>?_) (λv h hr=>?_)
 .obtain⟨a,rfl⟩:=jL hr;simp only[go_sem,simprocAttr];exact hr
 .simp only[go_sem,simprocAttr];exact hr
theorem VN(s)(b)(ex)(t)(n)(hs:SOk s)(hb:BkOk s b n)(i j)(w)(hi:(H7 s b ex t)[i]?=some (.row 1 [.ptr 2 1 0 0]))(hj:(H7 s b ex t)[j]?=some (.row 1 [.p (.str (bs w))])) :
  aD TP 145 [.ptr i 1 0 0,.ptr j 1 0 0] (H7 s b ex t) (j1 s b ex t (aO s b (.drop w))):=by
 refine aC (ah Tryz.func145 rfl (by kernel_rfl)) rfl ?_;simp only[hi,hj,go_sem,simprocAttr];refine cz (kr (XH s b ex n hs hb w) (by simp only[go_sem,simprocAttr]) t) (λv h hr=>?_) (λv h hr=>?_)
 .obtain⟨a,rfl⟩:=jL hr;simp only[go_sem,simprocAttr];exact hr
 .simp only[go_sem,simprocAttr];exact hr
theorem VM(s)(b)(ex)(t)(n)(hs:SOk s)(hb:BkOk s b n)(i j)(w)(hi:(H7 s b ex t)[i]?=some (.row 1 [.ptr 2 1 0 0]))(hj:(H7 s b ex t)[j]?=some (.row 1 [.p (.str (bs w))])) :
  aD TP 147 [.ptr i 1 0 0,.ptr j 1 0 0] (H7 s b ex t) (j1 s b ex t (aO s b (.plan w))):=by
 refine aC (ah Tryz.func147 rfl (by kernel_rfl)) rfl ?_;simp only[hi,hj,go_sem,simprocAttr];refine cz (kr (Fg s b ex n hs hb w) (by simp only[go_sem,simprocAttr]) t) (λv h hr=>?_) (λv h hr=>?_)
 .obtain⟨a,rfl⟩:=jL hr;simp only[go_sem,simprocAttr];exact hr
 .simp only[go_sem,simprocAttr];exact hr
theorem VL(s)(b)(ex)(t)(n)(hs:SOk s)(hb:BkOk s b n)(i j)(w)(hi:(H7 s b ex t)[i]?=some (.row 1 [.ptr 2 1 0 0]))(hj:(H7 s b ex t)[j]?=some (.row 1 [.p (.str (bs w))])) :
  aD TP 149 [.ptr i 1 0 0,.ptr j 1 0 0] (H7 s b ex t) (j1 s b ex t (aO s b (.pour w))):=by
 refine aC (ah Tryz.func149 rfl (by kernel_rfl)) rfl ?_;simp only[hi,hj,go_sem,simprocAttr];refine cz (kr (XD s b ex n hs hb w) (by simp only[go_sem,simprocAttr]) t) (λv h hr=>?_) (λv h hr=>?_)
 .obtain⟨a,rfl⟩:=jL hr;simp only[go_sem,simprocAttr];exact hr
 .simp only[go_sem,simprocAttr];exact hr
theorem VS(s)(b)(ex)(t)(n)(hs:SOk s)(hb:BkOk s b n)(i j k l m)(name colour lot)(grams)(hi:(H7 s b ex t)[i]?=some (.row 1 [.ptr 2 1 0 0]))(hj:(H7 s b ex t)[j]?=some (.row 1 [.p (.str (bs name))]))
  (hk:(H7 s b ex t)[k]?=some (.row 1 [.p (.str (bs colour))])) (hl:(H7 s b ex t)[l]?=some (.row 1 [.p (.str (bs lot))])) (hm:(H7 s b ex t)[m]?=some (.row 1 [.p (.int .i64 grams)])) :
  aD TP 143 [.ptr i 1 0 0,.ptr j 1 0 0,.ptr k 1 0 0,.ptr l 1 0 0,.ptr m 1 0 0] (H7 s b ex t) (j1 s b ex t (aO s b (.batch name colour lot grams))):=by
 refine aC (ah Tryz.func143 rfl (by kernel_rfl)) rfl ?_;simp only[hi,hj,hk,hl,hm,go_sem,simprocAttr];refine cz (kr (Vw s b ex n hs hb name colour lot grams) (by simp only[go_sem,simprocAttr]) t) (λv h hr=>?_) (λv h hr=>?_)
 .obtain⟨a,rfl⟩:=jL hr;simp only[go_sem,simprocAttr];exact hr
 .simp only[go_sem,simprocAttr];exact hr
theorem Z5(s)(b)(ex)(t)(n)(hs:SOk s)(hb:BkOk s b n)(i j k)(kind)(hours)(hi:(H7 s b ex t)[i]?=some (.row 1 [.ptr 2 1 0 0]))(hj:(H7 s b ex t)[j]?=some (.row 1 [.p (.str (bs kind))]))
  (hk:(H7 s b ex t)[k]?=some (.row 1 [.p (.int .i64 hours)])) :
  aD TP 153 [.ptr i 1 0 0,.ptr j 1 0 0,.ptr k 1 0 0] (H7 s b ex t) (j1 s b ex t (aO s b (.box kind hours))):=by
 refine aC (ah Tryz.func153 rfl (by kernel_rfl)) rfl ?_;simp only[hi,hj,hk,go_sem,simprocAttr];refine cz (kr (Z2 s b ex n hs hb kind hours) (by simp only[go_sem,simprocAttr]) t) (λv h hr=>?_) (λv h hr=>?_)
 .obtain⟨a,rfl⟩:=jL hr;simp only[go_sem,simprocAttr];exact hr
 .simp only[go_sem,simprocAttr];exact hr
theorem XN(s)(b)(ex)(t)(n)(hs:SOk s)(hb:BkOk s b n)(i j k)(kind)(a b' c d)(hi:(H7 s b ex t)[i]?=some (.row 1 [.ptr 2 1 0 0]))(hj:(H7 s b ex t)[j]?=some (.row 1 [.p (.str (bs kind))]))
  (hk:(H7 s b ex t)[k]?=some (.row 4 [.p (.agg [.int .i64 a,.int .i64 b',.int .i64 c,.int .i64 d])])) :
  aD TP 156 [.ptr i 1 0 0,.ptr j 1 0 0,.ptr k 1 0 0] (H7 s b ex t) (j1 s b ex t (aO s b (.wick kind a b' c d))):=by
 refine aC (ah Tryz.func156 rfl (by kernel_rfl)) rfl ?_;simp only[hi,hj,hk,go_sem,simprocAttr];refine cz (kr (XA s b ex n hs hb kind a b' c d) (by simp only[go_sem,simprocAttr]) t) (λv h hr=>?_) (λv h hr=>?_)
 .obtain⟨a,rfl⟩:=jL hr;simp only[go_sem,simprocAttr];exact hr
 .simp only[go_sem,simprocAttr];exact hr
theorem VR(s)(b)(ex)(t)(n)(hs:SOk s)(hb:BkOk s b n)(i k)(a b' c)(hi:(H7 s b ex t)[i]?=some (.row 1 [.ptr 2 1 0 0]))
  (hk:(H7 s b ex t)[k]?=some (.row 3 [.p (.agg [.int .i64 a,.int .i64 b',.int .i64 c])])) :
  aD TP 158 [.ptr i 1 0 0,.ptr k 1 0 0] (H7 s b ex t) (j1 s b ex t (aO s b (.blend a b' c))):=by
 refine aC (ah Tryz.func158 rfl (by kernel_rfl)) rfl ?_;simp only[hi,hk,go_sem,simprocAttr];refine cz (kr (GR s b ex n hs hb a b' c) (by simp only[go_sem,simprocAttr]) t) (λv h hr=>?_) (λv h hr=>?_)
 .obtain⟨a,rfl⟩:=jL hr;simp only[go_sem,simprocAttr];exact hr
 .simp only[go_sem,simprocAttr];exact hr
theorem QD(s)(b)(ex)(t)(n)(hs:SOk s)(hb:BkOk s b n)(i j)(kind)(hi:(H7 s b ex t)[i]?=some (.row 1 [.ptr 2 1 0 0]))(hj:(H7 s b ex t)[j]?=some (.row 1 [.p (.str (bs kind))])) :
  aD TP 151 [.ptr i 1 0 0,.ptr j 1 0 0] (H7 s b ex t) (j1 s b ex t (aO s b (.promise kind))):=by
 have hp:=zx s b ex n hs hb kind;have hfr:∀{R:AEnd->Heap->Prop},aD TP 152 [.ptr 2 1 0 0,.p (.str (bs kind))] (B7 s b ex) (λr h'=>R r h'/\h'=B7 s b ex)->aD TP 152 [.ptr 2 1 0 0,.p (.str (bs kind))] (H7 s b ex t) (λr h'=>h'=H7 s b ex t/\R r (B7 s b ex)):=λ{R} hc=>by
  refine(iE (fE s b ex) (by simp only[go_sem,simprocAttr]) (hc.mono λr h' hr=>⟨by rw[hr.2],hr⟩) t).mono λr h'' hr=>?_;obtain⟨h',e,_,hr,e2⟩:=hr;subst e2;exact⟨e,hr⟩
 refine aC (ah Tryz.func151 rfl (by kernel_rfl)) rfl ?_;simp only[hi,hj,go_sem,simprocAttr]
 cases hq:fA s b kind with
 |error e=>
  refine cz (hfr (hp.1 e hq)) (λv h hr=>by cases hr.2) (λv h hr=>?_);obtain⟨rfl,hr⟩:=hr;cases hr;simp only[go_sem,simprocAttr]
  exact⟨_,t,rfl,by simp only[aO,hq];exact⟨rfl,rfl⟩,rfl,rfl⟩
 |ok q=>
  obtain⟨k,m⟩:=q;obtain⟨hm,hc⟩:=hp.2 k m hq;refine cz (hfr hc) (λv h hr=>?_) (λv h hr=>by cases hr.2);obtain⟨rfl,hr⟩:=hr;cases hr;simp only[go_sem,simprocAttr];have hsd:=qa [.n m] true (by simp) (λw hw=>by
   simp only[ci,iL,or_false]at hw;subst hw
   exact⟨hm.1,by omega⟩)
  refine ae hsd rfl ?_;simp only[go_sem,simprocAttr];exact⟨_,t,rfl,by simp only[aO,hq];exact⟨rfl,.inl ⟨_,rfl⟩⟩,rfl,rfl⟩
theorem Z4(s)(b)(ex)(t)(n)(hs:SOk s)(hb:BkOk s b n)(i j k l m r)(name kind)(grams)(rs)(hrs:rs.length<1000000000)(hi:(H7 s b ex t)[i]?=some (.row 1 [.ptr 2 1 0 0]))(hj:(H7 s b ex t)[j]?=some (.row 1 [.p (.str (bs name))]))
  (hk:(H7 s b ex t)[k]?=some (.row 1 [.p (.str (bs kind))])) (hl:(H7 s b ex t)[l]?=some (.row 1 [.p (.int .i64 grams)])) (hm:(H7 s b ex t)[m]?=some (.row 1 [.slice r rs.length 0 rs.length])) (hr7:10<=r) (hr:(H7 s b ex t)[r]?=some (.row 1 (rs.map λv=>.p (aI v)))) :
  aD TP 141 [.ptr i 1 0 0,.ptr j 1 0 0,.ptr k 1 0 0,.ptr l 1 0 0,.ptr m 1 0 0] (H7 s b ex t) (j1 s b ex t (aO s b (.lot name kind grams rs))):=by
 have hcall:aD TP 142 [.ptr 2 1 0 0,.p (.str (bs name)),.p (.str (bs kind)),.p (.int .i64 grams),.slice r rs.length 0 rs.length] (H7 s b ex t) (j1 s b ex t (aO s b (.lot name kind grams rs))):=by
  have e:eU (λx=>x==r) (H7 s b ex t)=H7 s b ex (t.set (r-7) .dead):=by
   rw[GK];unfold H7;rw[uU _ _ (show (B7 s b ex).length<=r by show 7<=r;omega)];rfl
  refine IH (args':=[.ptr 2 1 0 0,.p (.str (bs name)),.p (.str (bs kind)),.p (.int .i64 grams),.p (.slice 1 (rs.map aI) false)]) (λx=>x==r) rfl (λx a' hx=>?_) ?_
  .match x,hx with
   |0,hx=>exact .inl hx
   |1,hx=>exact .inl hx
   |2,hx=>exact .inl hx
   |3,hx=>exact .inl hx
   |4,hx=>
    cases hx;refine .inr ⟨_,_,rfl,rfl,?_⟩;have hk:(eU (λi=>!(i==r)) (H7 s b ex t))[r]?=some (.row 1 (rs.map λv=>.p (aI v))):=by rw[oG (by simp)];exact hr
    have hf:∀(n:Nat) (h:Heap),aV (cm n h) (rs.map λv=>.p (aI v))=some (rs.map aI):=λn h=>dD (eJ n h) aI rs;unfold zg cm;rw[hk];simp only[mU,hf];rw[if_pos (by simp)];show some (PV.slice 1 (List.drop 0 (List.take (0+rs.length) (rs.map aI))) false)=_
    rw[mE,eD (by simp)]
   |n+5,hx=>simp at hx
  .rw[e];refine(kr (Z1 s b ex n hs hb name kind grams rs hrs) (by simp only[go_sem,simprocAttr]) _).mono λx h' hx=>?_;obtain⟨h1,t1,e1,p1,l1,k1⟩:=hx;refine⟨h1,t1,e1,p1,by rw[l1,As],by rw[k1];exact List.take_set_of_le (by omega)⟩
 refine aC (ah Tryz.func141 rfl (by kernel_rfl)) rfl ?_;simp only[hi,hj,hk,hl,hm,go_sem,simprocAttr];refine cz hcall (λv h hr=>?_) (λv h hr=>?_)
 .obtain⟨a,rfl⟩:=jL hr;simp only[go_sem,simprocAttr];exact hr
 .simp only[go_sem,simprocAttr];exact hr
end Ch
end Abs
end Go.Proofs.YtoapoaoelpcniaaGreatDoor
