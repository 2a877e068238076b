/-
  CONTRACTS: slices.Repeat of one span. No conditions but those in the theorems' heads.
  CONTRACTS: chandler: wick, blend. No conditions but those in the theorems' heads.
  CONTRACTS: chandler: a call with rows handed over; words, names, numbers. No conditions bu
  CONTRACTS: strings.CutPrefix. No conditions but those in the theorems' heads.
  CONTRACTS: chandler: what lines do, as functions with their words. No conditions but those
-/
import Derived.Test.YtfafnkpfamgbbaaGreatDoorAbsCutX
import Derived.Test.YtfafnkpfamgbbaaGreatDoorBdFillX
import Derived.Test.YtfafnkpfamgbbaaGreatDoorChBk4X
import Derived.Test.YtfafnkpfamgbbaaGreatDoorHrShelfX
import Derived.Test.YtfafnkpfamgbbaaGreatDoorHrUseX
import Derived.Test.YtfafnkpfamgbbaaGreatDoorAbsFrame
set_option linter.unusedSimpArgs false
set_option linter.unusedVariables false
open Go.Proofs.Tryz renaming prog->TP
namespace Go.Proofs.YtfafnkpfamgbbaaGreatDoor
namespace Abs
namespace Ch
set_option maxRecDepth 4000
theorem RL (n) (h1:1<=n) (h5:n<=5):ah TP 296 [.int .u64 1,.int .u64 n] (.tuple [.int .u64 0,.int .u64 n]):=by
 have hn:n=1\/n=2\/n=3\/n=4\/n=5:=by omega
 have f0:ez .shr .u64 0 32=some (.int .u64 0):=rfl;have f1:ez .shr .u64 1 32=some (.int .u64 0):=rfl;have w0:IntKind.u64.wrap 0=0:=rfl;have w1:IntKind.u64.wrap 1=1:=rfl;rcases hn with rfl | rfl | rfl | rfl | rfl
 .have f2:ez .shr .u64 1 32=some (.int .u64 0):=rfl;have w2:IntKind.u64.wrap 1=1:=rfl;refine aa (ai (by kernel_rfl) rfl xV) rfl ?_;simp only [f1,f0,w0,w1,zc,xx,r7,qk,go_sem,simprocAttr]
 .have f2:ez .shr .u64 2 32=some (.int .u64 0):=rfl;have w2:IntKind.u64.wrap 2=2:=rfl;refine aa (ai (by kernel_rfl) rfl xV) rfl ?_;simp only [f1,f0,f2,w0,w1,w2,zc,xx,r7,qk,go_sem,simprocAttr]
 .have f2:ez .shr .u64 3 32=some (.int .u64 0):=rfl;have w2:IntKind.u64.wrap 3=3:=rfl;refine aa (ai (by kernel_rfl) rfl xV) rfl ?_;simp only [f1,f0,f2,w0,w1,w2,zc,xx,r7,qk,go_sem,simprocAttr]
 .have f2:ez .shr .u64 4 32=some (.int .u64 0):=rfl;have w2:IntKind.u64.wrap 4=4:=rfl;refine aa (ai (by kernel_rfl) rfl xV) rfl ?_;simp only [f1,f0,f2,w0,w1,w2,zc,xx,r7,qk,go_sem,simprocAttr]
 .have f2:ez .shr .u64 5 32=some (.int .u64 0):=rfl;have w2:IntKind.u64.wrap 5=5:=rfl;refine aa (ai (by kernel_rfl) rfl xV) rfl ?_;simp only [f1,f0,f2,w0,w1,w2,zc,xx,r7,qk,go_sem,simprocAttr]
theorem DP (n) (h1:1<=n) (h5:n<=5):ah TP 264 [.int .u64 1,.int .u64 n] (.tuple [.int .u64 0,.int .u64 n]):=by
 refine aa (ai (by kernel_rfl) rfl Uc) rfl ?_;simp only [go_sem,simprocAttr];refine ae (RL n h1 h5) rfl ?_;simp only [go_sem,simprocAttr]
def Ag:Hints:=dY [(38,.low),(45,.app 41),(5000001,.nop)]
theorem xU:aj Ag Tryz.f194=true:=by kernel_rfl
theorem C4:Nat.min 1 1=1/\Nat.min 1 2=1/\Nat.min 1 3=1/\Nat.min 1 4=1/\Nat.min 2 1=1/\Nat.min 2 2=2/\Nat.min 2 3=2/\Nat.min 4 1=1:=by decide
theorem iw:IntKind.i64.wrap 1=1/\IntKind.i64.wrap (1+1)=2/\IntKind.i64.wrap (2+1)=3/\IntKind.i64.wrap (2+2)=4/\IntKind.i64.wrap (4+1)=5:=by decide
def mU:PV:=.agg [.int .i64 0,.int .i64 20]
theorem LJ:gk TP 194 [.slice 2 [.agg [.int .i64 0,.int .i64 20]] true,.int .i64 1] (.slice 2 (List.replicate 1 mU) false):=by
 obtain ⟨m1,m2,m3,m4,m5,m6,m7,m8⟩:=C4;obtain ⟨i1,i2,i3,i4,i5⟩:=iw;refine eY (ai (by kernel_rfl) rfl xU) rfl ?_;simp only [Ag,go_sem,simprocAttr];refine ae (DP 1 (by decide) (by decide)) rfl ?_;have hrm:(1:Int)<=(aB:Int):=by decide
 simp only [hrm,go_sem,simprocAttr];refine bp ?_;simp only [mU,go_sem,simprocAttr]
 trace_state
theorem LI:gk TP 194 [.slice 2 [.agg [.int .i64 0,.int .i64 20]] true,.int .i64 2] (.slice 2 (List.replicate 2 mU) false):=by
 obtain ⟨m1,m2,m3,m4,m5,m6,m7,m8⟩:=C4;obtain ⟨i1,i2,i3,i4,i5⟩:=iw;refine eY (ai (by kernel_rfl) rfl xU) rfl ?_;simp only [Ag,go_sem,simprocAttr];refine ae (DP 2 (by decide) (by decide)) rfl ?_;have hrm:(2:Int)<=(aB:Int):=by decide
 simp only [hrm,go_sem,simprocAttr];refine bp ?_;simp only [bf,go_sem,simprocAttr];refine And.intro (.inr ⟨0,_,rfl,rfl⟩) ?_;simp only [m1,go_sem,simprocAttr];refine bp ?_;simp only [mU,go_sem,simprocAttr]
theorem LH:gk TP 194 [.slice 2 [.agg [.int .i64 0,.int .i64 20]] true,.int .i64 3] (.slice 2 (List.replicate 3 mU) false):=by
 obtain ⟨m1,m2,m3,m4,m5,m6,m7,m8⟩:=C4;obtain ⟨i1,i2,i3,i4,i5⟩:=iw;refine eY (ai (by kernel_rfl) rfl xU) rfl ?_;simp only [Ag,go_sem,simprocAttr];refine ae (DP 3 (by decide) (by decide)) rfl ?_;have hrm:(3:Int)<=(aB:Int):=by decide
 simp only [hrm,go_sem,simprocAttr];refine bp ?_;simp only [bf,go_sem,simprocAttr];refine And.intro (.inr ⟨0,_,rfl,rfl⟩) ?_;simp only [m2,m3,go_sem,simprocAttr];refine bp ?_;simp only [bf,go_sem,simprocAttr];refine And.intro (.inr ⟨0,_,rfl,rfl⟩) ?_;simp only [m5,m6,go_sem,simprocAttr];refine bp ?_;simp only [mU,go_sem,simprocAttr]
theorem LG:gk TP 194 [.slice 2 [.agg [.int .i64 0,.int .i64 20]] true,.int .i64 4] (.slice 2 (List.replicate 4 mU) false):=by
 obtain ⟨m1,m2,m3,m4,m5,m6,m7,m8⟩:=C4;obtain ⟨i1,i2,i3,i4,i5⟩:=iw;refine eY (ai (by kernel_rfl) rfl xU) rfl ?_;simp only [Ag,go_sem,simprocAttr];refine ae (DP 4 (by decide) (by decide)) rfl ?_;have hrm:(4:Int)<=(aB:Int):=by decide
 simp only [hrm,go_sem,simprocAttr];refine bp ?_;simp only [bf,go_sem,simprocAttr];refine And.intro (.inr ⟨0,_,rfl,rfl⟩) ?_;simp only [m2,m3,go_sem,simprocAttr];refine bp ?_;simp only [bf,go_sem,simprocAttr];refine And.intro (.inr ⟨0,_,rfl,rfl⟩) ?_;simp only [m5,m6,go_sem,simprocAttr];refine bp ?_;simp only [mU,go_sem,simprocAttr]
theorem LF:gk TP 194 [.slice 2 [.agg [.int .i64 0,.int .i64 20]] true,.int .i64 5] (.slice 2 (List.replicate 5 mU) false):=by
 obtain ⟨m1,m2,m3,m4,m5,m6,m7,m8⟩:=C4;obtain ⟨i1,i2,i3,i4,i5⟩:=iw;refine eY (ai (by kernel_rfl) rfl xU) rfl ?_;simp only [Ag,go_sem,simprocAttr];refine ae (DP 5 (by decide) (by decide)) rfl ?_;have hrm:(5:Int)<=(aB:Int):=by decide
 simp only [hrm,go_sem,simprocAttr];refine bp ?_;simp only [bf,go_sem,simprocAttr];refine And.intro (.inr ⟨0,_,rfl,rfl⟩) ?_;simp only [m4,go_sem,simprocAttr];refine bp ?_;simp only [bf,go_sem,simprocAttr];refine And.intro (.inr ⟨0,_,rfl,rfl⟩) ?_;simp only [m7,go_sem,simprocAttr];refine bp ?_;simp only [bf,go_sem,simprocAttr];refine And.intro (.inr ⟨0,_,rfl,rfl⟩) ?_;simp only [m8,go_sem,simprocAttr];refine bp ?_;simp only [mU,go_sem,simprocAttr]
theorem Oy (n:Nat) (h1:1<=n) (h5:n<=5):gk TP 194 [.slice 2 [.agg [.int .i64 0,.int .i64 20]] true,.int .i64 n] (.slice 2 (List.replicate n mU) false):=by
 match n,h1,h5 with
 |1,_,_=>exact LJ
 |2,_,_=>exact LI
 |3,_,_=>exact LH
 |4,_,_=>exact LG
 |5,_,_=>exact LF
theorem SOk.wickwaxes {s} (h:SOk s):s.wick.waxes.length<1000000000:=by
 have:=(Wk.tR h.wick).lx;omega
theorem He {s} {c} {x} (h:(Wk.dE s c x).2=0):Wk.qo s (Wk.dE s c x).1:=by
 unfold Wk.dE at h |-;split at h
 .rename_i h0;rw [if_pos h0];split at h
  .cases h
  .rename_i h1;rw [if_neg h1];rcases Wk.s9 s (Wk.fR s c x s.wicks 0) (-1) (Wk.nD s c x s.wicks 0 (by simp)) (.inl rfl) with e | e
   .rw [e] at h1;exact absurd (by decide) h1
   .exact e
 .rename_i h0;exact absurd h h0
set_option maxHeartbeats 1000000 in
theorem V' (s) (b) (ex) (n) (hs:SOk s) (hb:BkOk s b n) (kind) (a b' c d):ay TP 120 [.ptr 2 1 0 0,.p (.str (bs kind)),.p (.agg [.int .i64 a,.int .i64 b',.int .i64 c,.int .i64 d])] (B7 s b ex) (jz s b ex (aU s b (.wick kind a b' c d))):=by
 refine bv (ai (by kernel_rfl) rfl VO) rfl ?_;simp only [ChShop.cells,go_sem,simprocAttr];rcases qz (λx:Wax=>x.name==bs kind) s.wick.waxes 0 with h3 | ⟨j,x,hj,hx,_⟩
 .refine qb (QG s.wick.waxes (bs kind) false hs.wickwaxes h3) rfl (lI _) ?_;simp only [go_sem,simprocAttr];exact cL (e:=4) (by simp only [aU,if_pos h3]) [_] rfl
 rw [j3] at hj;have hnj:¬ (j:Int)<0:=by omega
 have hfd:=RO s.wick.waxes (bs kind) false hs.wickwaxes (by omega);rw [hj] at hfd;refine ae hfd rfl ?_;simp only [go_sem,simprocAttr];have hT:=Wk.BA s.wick ⟨(j:Int),a,b',⟨c,d⟩⟩ x (λh0=>by
  obtain ⟨x',hx'⟩:=Wk.Lm h0;have:=hx'.hx;dsimp only at this;rw [hH,hx] at this;cases this
  exact hx')
 refine aC hT rfl ?_;by_cases h4:(Wk.dE s.wick ⟨(j:Int),a,b',⟨c,d⟩⟩ x).2=0;rotate_left
 .have h4':((Wk.dE s.wick ⟨(j:Int),a,b',⟨c,d⟩⟩ x).2==0)=false:=by simpa using h4
  simp only [h4',go_sem,simprocAttr];refine aq (λh=>by cases h) (λ_=>?_);simp only [go_sem,simprocAttr];exact cL (e:=(Wk.dE s.wick ⟨(j:Int),a,b',⟨c,d⟩⟩ x).2) (by simp only [aU,hj,if_neg hnj,hH,hx,if_pos h4]) [_] rfl
 have h4n:¬ (Wk.dE s.wick ⟨(j:Int),a,b',⟨c,d⟩⟩ x).2≠0:=λh=>h h4;have hv:=He h4;simp only [h4,go_sem,simprocAttr];refine aq (λ_=>?_) (λh=>by cases h);obtain ⟨k,hk⟩:=qL hv.1;have hkl:k<s.wick.wicks.length:=by have:=hv.2;omega
 obtain ⟨w,hw⟩:∃ w,s.wick.wicks[k]?=some w:=⟨_,b6 hkl⟩
 have hkB:(k:Int)<(s.wick.wicks.length:Int):=by omega
 simp only [hk,hkB,hw,go_sem,simprocAttr];have hact:aU s b (.wick kind a b' c d)=.ok (b,bl w.name):=by
  simp only [aU,hj,if_neg hnj,hH,hx,if_neg h4n,hk,hw]
 have:=gc (s:=s) (b:=b) (ex:=ex) (ex':=ex) hact (hh:=B7 s b ex++[.row 4 [.p (.agg [.int .i64 a,.int .i64 b',.int .i64 c,.int .i64 d])]]) [_] rfl;rw [Ih] at this;exact this
theorem R4 {l} (h:(bdCheck l).2.2=0):1<=l.length/\l.length<=5:=by
 unfold bdCheck at h;split at h
 .rename_i h1;simp [az] at h1;omega
 .cases h
theorem Ff {l} {w} (h:(bN l w).2.2=0):((bN l w).1.length<=1000/\∀ n,n∈(bN l w).1->0<=n/\n<1000000000)/\0<=(bN l w).2.1/\(bN l w).2.1<1000000000:=by
 unfold bN at h |-;split at h
 .rename_i h0;rw [if_pos h0];obtain ⟨hl,hw⟩:=Ah h0;split at h
  .cases h
  .rename_i r hr;dsimp only;have hm:r∈fits l w:=by
    rcases ld _ _ _ _ hr with h | h
    .cases h
    .exact h
   have hro:=(w8 hl hm).1;have hb:=(FQ (sx hl hro.rng)).2.2.2.2.1;have h5:=hl.len;have h6:=hro.len;have hp:cE iZ (l.zip r)=d8 l r:=rfl;refine ⟨⟨by omega,λn hn=>?_⟩,?_,?_⟩
   .have:=hro.rng n hn;omega
   .rw [<-hp];exact hb.1
   .rw [<-hp];omega
 .rename_i h0;exact absurd h h0
theorem N5 (s) (a b' c):(gF s a b' c).pv=.agg [.slice 2 (List.replicate s.blend.length mU) false,.int .i64 a,.int .i64 b',.int .i64 0,.int .i64 c]:=by
 simp only [BdWish.pv,gF,List.map_replicate,Span.pv,mU]
set_option maxHeartbeats 1000000 in
theorem Dp (s) (b) (ex) (n) (hs:SOk s) (hb:BkOk s b n) (a b' c):ay TP 122 [.ptr 2 1 0 0,.p (.agg [.int .i64 a,.int .i64 b',.int .i64 c])] (B7 s b ex) (jz s b ex (aU s b (.blend a b' c))):=by
 refine bv (ai (by kernel_rfl) rfl VM) rfl ?_;simp only [ChShop.cells,go_sem,simprocAttr];have hbl:=R4 hs.blend;have hR:=Oy s.blend.length hbl.1 hbl.2;refine uR hR rfl ?_;simp only [go_sem,simprocAttr];refine aC (Ko s.blend (gF s a b' c)) (by rw [N5];rfl) ?_;by_cases h4:(bN s.blend (gF s a b' c)).2.2=0;rotate_left
 .have h4':((bN s.blend (gF s a b' c)).2.2==0)=false:=by simpa using h4
  simp only [rK,h4',go_sem,simprocAttr];refine aq (λh=>by cases h) (λ_=>?_);simp only [go_sem,simprocAttr];exact cL (e:=(bN s.blend (gF s a b' c)).2.2) (by simp only [aU,if_pos h4]) [_,_] rfl
 have h4n:¬ (bN s.blend (gF s a b' c)).2.2≠0:=λh=>h h4;obtain ⟨c1,c2⟩:=Ff h4;simp only [rK,h4,go_sem,simprocAttr];refine aq (λ_=>?_) (λh=>by cases h);simp only [go_sem,simprocAttr];have hsd:=nH [.ns (bN s.blend (gF s a b' c)).1,.n (bN s.blend (gF s a b' c)).2.1] true (by simp) (λw hw=>by
  simp only [cz,eQ,or_false] at hw;rcases hw with rfl | rfl
  .exact c1
  .exact c2)
 refine ae hsd rfl ?_;simp only [go_sem,simprocAttr];exact gc (b':=b) (ex':=ex) (a:=joinL ([Word.ns (bN s.blend (gF s a b' c)).1,.n (bN s.blend (gF s a b' c)).2.1].flatMap Word.ws)) (by simp only [aU,if_neg h4n];rfl) [_,_] rfl
end Ch
theorem E9 {P} {f} {args args'} {h} {R} (K) (hl:args'.length=args.length)
  (ha:∀ (i:Nat) (a'),args'[i]?=some a'->args[i]?=some a'\/∃ a q,args[i]?=some a/\a'=.p q/\AR (gp (λi=>!K i) h) a=some q)
  (hc:ay P f args' (gp K h) R):ay P f args h R:=by
 intro M0 m w cargs hS hargs;have e0:=Gl ⟨m,h,w⟩ K h.length;have hk:=Dn hS K;have hargs':da (Rep M0 (Mem.kill K ⟨m,h,w⟩)) cargs args':=by
  refine ⟨by rw [hargs.1,hl],λi a' hi=>?_⟩;rcases ha i a' hi with h1 | ⟨a,q,h1,rfl,h2⟩
  .exact e0.keep (hargs.2 i a' h1)
  .exact Dq (S:=⟨m,h,w⟩) hS K (hargs.2 i a h1) h2
 have:=hc M0 (gU K m) w cargs hk hargs';refine ⟨this.1,this.2.mono λe w' hh=>?_⟩;obtain ⟨r,h',m',hR,hev,hk',hend⟩:=hh;have hlen:(gp K h).length=h.length:=by simp [gp]
 rw [hlen] at hev;exact ⟨r,h',m',hR,e0.trans hev,hk',hend⟩
theorem nd {n} {a} (h:dt n a):ox (·≠n) a:=by
 cases a<;>first | exact y7 h | exact trivial
theorem Gf {n} {a} (h:ef n a):pS (·≠n) a:=by
 cases a<;>first | exact y7 h | exact trivial | exact ⟨λc hc=>nd (h.1 c hc),λc hc=>nd (h.2 c hc)⟩
theorem OF {n} {a} (h:fg n a):qX (·≠n) a:=by
 cases a<;>first | exact y7 h | exact trivial | exact λc hc=>Gf (h c hc) | exact ⟨λc hc=>nd (h.1 c hc),λc hc=>nd (h.2 c hc)⟩
theorem yp {n} {a} (h:below n a):pT (·≠n) a:=by
 cases a<;>first | exact y7 h | exact trivial | exact λc hc=>OF (h c hc) | exact λc hc=>Gf (h c hc) | exact ⟨λc hc=>nd (h.1 c hc),λc hc=>nd (h.2 c hc)⟩
theorem AB {n} {o} (h:aV n o):nT (·≠n) o:=by
 cases o<;>first | exact trivial | exact λx hx=>yp (h x hx) | exact λt=>yp (h t) | exact nd h
theorem oZ {T}:∀ (live) (t),(cY (bZ T live []) t=T t/\t∈live)\/cY (bZ T live []) t=.undef
 |[],t=>.inr rfl
 |x::r,t=>by
  unfold bZ cY;by_cases h:t=x
  .subst h;rw [if_pos rfl];exact .inl ⟨rfl,by simp⟩
  .rw [if_neg h];rcases oZ r t with ⟨h1,h2⟩ | h1
   .exact .inl ⟨h1,by simp [h2]⟩
   .exact .inr h1
theorem Ac {P} {H} {Q} {x} {A} (live) (i sz) (hi:A.bs<=i) (hb:A.bs<=A.h.length) (hx:A.h[i]?=some (.row 1 [.p .nilslice])) (hl:∀ t,t∈live->below A.h.length (A.tmps t)) (ho:∀ o,o∈A.h->aV A.h.length o) (hd:A.df=[])
  (k:@W ⟨P,H,.loop x,Q⟩ { n:=A.n,bs:=A.bs,rc:=A.rc,tmps:=cY (bZ A.tmps live []),h:=A.h.set i (.row 1 [.slice A.h.length 0 0 0])++[.row sz []],df:=A.df }):@W ⟨P,H,.loop x,Q⟩ A:=by
 have hil:i<A.h.length:=(ar.1 hx).1
 have hw:=sb (P:=P) (A:={ A with h:=A.h++[.row sz []] }) (T:=cY (bZ A.tmps live [])) A.h.length i sz 1 [.p .nilslice] [.slice A.h.length 0 0 0] hb hi (by simp) (by omega)
  (by rw [aS hil];exact hx) rfl (λn x y h1 h2=>by
   match n,h1,h2 with
   |0,h1,h2 =>
    cases h1;cases h2;refine ⟨_,_,rfl,rfl,rfl,λj c d h3 h4=>?_⟩
    match j,h3,h4 with
    |0,h3,h4=>cases h3;cases h4;exact .inr ⟨rfl,rfl⟩
    |j+1,h3,h4=>cases h3
   |n+1,h1,h2=>simp at h1) (λt=>by
   rcases oZ (T:=A.tmps) live t with ⟨h1,h2⟩ | h1
   .exact .inl ⟨h1,yp (hl t h2)⟩
   .exact .inr h1) (λid o hid ho'=>by
   have hlt:id<A.h.length:=by
    have:=(ar.1 ho').1;simp at this;omega
   rw [aS hlt] at ho'
   exact AB (ho o (aI ho'))) hd
 have e:((A.h++[AObj.row sz []]).set A.h.length (.row sz [])).set i (.row 1 [.slice A.h.length 0 0 0])=A.h.set i (.row 1 [.slice A.h.length 0 0 0])++[.row sz []]:=by
  rw [wx _ _ (bR _),Cb];show (A.h++[AObj.row sz []]).set i _=_;rw [IH _ _ hil]
 refine eg (Ce sz) (eg hw ?_);dsimp only;rw [e];exact k
namespace Ch
set_option maxRecDepth 4000
def ct (l:List (List UInt8)):AObj:=.row 1 [.p (bA l)]
theorem yu (w) (ws) (id) (h) (hid:h[id]?=some (ct (w::ws))) :
  ay TP 99 [.ptr id 1 0 0] h (λr h'=>r=.ret (.p (.str (bs w)))/\h'=h.set id (ct ws)):=by
 unfold ct bA at hid |-;have h0:(0:Int)<((ws.length+1:Nat):Int):=by omega
 have h0d:decide ((0:Int)<((ws.length+1:Nat):Int))=true:=decide_eq_true h0;refine ax (ai (by kernel_rfl) rfl QT) rfl ?_;simp only [hid,h0d,go_sem,simprocAttr];refine aq (λ_=>?_) (λh=>by cases h);have h1:(1:Int)<=((ws.length+1:Nat):Int):=by omega
 have htk:List.take (ws.length+1) (PV.str (bs w)::ws.map λx=>PV.str (bs x))=PV.str (bs w)::ws.map λx=>PV.str (bs x):=fx (by simp);simp only [hid,h0,h1,htk,go_sem,simprocAttr]
theorem Gg (id) (h) (hid:h[id]?=some (ct [])) :
  ay TP 99 [.ptr id 1 0 0] h (λr h'=>r=.panic (fo 6)/\h'=h):=by
 unfold ct bA at hid;refine ax (ai (by kernel_rfl) rfl QT) rfl ?_;simp only [hid,go_sem,simprocAttr];refine aq (λh=>by cases h) (λ_=>?_);simp only [go_sem,simprocAttr]
def hZ (id:Nat):AObj:=.row 1 [.func (.func 99) [] [.ptr id 1 0 0]]
theorem Wd (w) (ws) (id jd) (h) (hid:h[id]?=some (ct (w::ws))) (hjd:h[jd]?=some (hZ id)) (hn:cF w=some w) :
  ay TP 100 [.ptr jd 1 0 0] h (λr h'=>r=.ret (.p (.str (bs w)))/\h'=h.set id (ct ws)):=by
 have hnm:nameOk (bs w)=true:=by
  unfold cF at hn;split at hn
  .assumption
  .cases hn
 unfold hZ at hjd;refine ax (ai (by kernel_rfl) rfl NC) rfl ?_;simp only [hjd,go_sem,simprocAttr];refine b9 (yu w ws id h hid) ?_;simp only [go_sem,simprocAttr];refine ae (iM (bs w)) rfl ?_;simp only [hnm,go_sem,simprocAttr];refine aq (λ_=>?_) (λh=>by cases h);simp only [go_sem,simprocAttr]
theorem LE {w v} (h:cF w=some v):v=w:=by
 unfold cF at h;split at h
 .cases h;rfl
 .cases h
theorem OH (l) (id jd) (h) (hid:h[id]?=some (ct l)) (hjd:h[jd]?=some (hZ id)) (hn:∀ w ws,l=w::ws->cF w=none) :
  ay TP 100 [.ptr jd 1 0 0] h (λr h'=>r=.panic (fo 6)/\∃ o,h'=h.set id o):=by
 unfold hZ at hjd;refine ax (ai (by kernel_rfl) rfl NC) rfl ?_;simp only [hjd,go_sem,simprocAttr]
 cases l with
 |nil =>
  refine rR (Gg id h hid) ?_;simp only [go_sem,simprocAttr]
  exact ⟨_,(iI hid).symm⟩
 |cons w ws =>
  have hnm:nameOk (bs w)=false:=by
   have:=hn w ws rfl;unfold cF at this;split at this
   .cases this
   .rename_i h;simpa using h
  refine b9 (yu w ws id h hid) ?_;simp only [go_sem,simprocAttr];refine ae (iM (bs w)) rfl ?_;simp only [hnm,go_sem,simprocAttr];refine aq (λh=>by cases h) (λ_=>?_);simp only [go_sem,simprocAttr];exact ⟨_,rfl⟩
theorem Jm {w} {v} (h:eM w=some v):iK w=some v/\0<=v/\v<=10000000/\bO v=w:=by
 unfold eM at h;split at h
 .rename_i x hx;split at h
  .rename_i hc;cases h;exact ⟨hx,hc⟩
  .cases h
 .cases h
theorem OG (w) (ws) (id jd) (h) (v) (hl:w.length<=1000000) (hid:h[id]?=some (ct (w::ws))) (hjd:h[jd]?=some (hZ id)) (hn:eM w=some v) :
  ay TP 102 [.ptr jd 1 0 0] h (λr h'=>r=.ret (.p (.int .i64 v))/\h'=h.set id (ct ws)):=by
 obtain ⟨n1,n2,n3,n4⟩:=Jm hn;have hp:jI (bs w)=.tuple [.int .i64 v,.niliface]:=by
  unfold iK at n1;rw [jI,fp];cases ha:Lib.atoiAll w<;>rw [ha] at n1<;>first | cases n1;done | skip
  cases n1;rfl
 unfold hZ at hjd;refine ax (ai (by kernel_rfl) rfl NB) rfl ?_;simp only [hjd,go_sem,simprocAttr];refine b9 (yu w ws id h hid) ?_;simp only [go_sem,simprocAttr];refine ae (B0 (bs w) (by rw [aw];omega)) rfl ?_;simp only [hp,n2,n3,go_sem,simprocAttr];refine ae (yP v n2 (by omega)) rfl ?_;have hb:(bs (bO v)==bs w)=true:=by rw [n4,dd];exact beq_self_eq_true _
 simp only [hb,go_sem,simprocAttr];refine aq (λ_=>?_) (λh=>by cases h);simp only [go_sem,simprocAttr]
theorem JW (l) (id jd) (h) (hl:∀ w,w∈l->w.length<=1000000) (hid:h[id]?=some (ct l)) (hjd:h[jd]?=some (hZ id)) (hn:∀ w ws,l=w::ws->eM w=none) :
  ay TP 102 [.ptr jd 1 0 0] h (λr h'=>r=.panic (fo 6)/\∃ o,h'=h.set id o):=by
 unfold hZ at hjd;refine ax (ai (by kernel_rfl) rfl NB) rfl ?_;simp only [hjd,go_sem,simprocAttr]
 cases l with
 |nil =>
  refine rR (Gg id h hid) ?_;simp only [go_sem,simprocAttr]
  exact ⟨_,(iI hid).symm⟩
 |cons w ws =>
  have hnw:=hn w ws rfl;have hlw:=hl w (by simp);refine b9 (yu w ws id h hid) ?_;simp only [go_sem,simprocAttr];refine ae (B0 (bs w) (by rw [aw];omega)) rfl ?_
  cases hnl:iK w with
  |none =>
   have hx:∃ v,jI (bs w)=.tuple [.int .i64 v,.iface 309 .any]:=by
    unfold iK at hnl;rw [jI,fp];cases ha:Lib.atoiAll w<;>rw [ha] at hnl<;>first | cases hnl;done | exact ⟨_,rfl⟩
   obtain ⟨v,hx⟩:=hx;simp only [hx,go_sem,simprocAttr];refine aq (λh=>by cases h) (λ_=>?_);simp only [go_sem,simprocAttr]
   exact ⟨_,rfl⟩
  |some v =>
   have hp:jI (bs w)=.tuple [.int .i64 v,.niliface]:=by
    unfold iK at hnl;rw [jI,fp];cases ha:Lib.atoiAll w<;>rw [ha] at hnl<;>first | cases hnl;done | skip
    cases hnl;rfl
   by_cases h0:0<=v;rotate_left
   .have h0':decide (0<=v)=false:=by simpa using h0
    simp only [hp,h0',go_sem,simprocAttr];refine aq (λh=>by cases h) (λ_=>?_);simp only [go_sem,simprocAttr];exact ⟨_,rfl⟩
   by_cases h1:v<=10000000;rotate_left
   .have h1':decide (v<=10000000)=false:=by simpa using h1
    simp only [hp,h0,h1',go_sem,simprocAttr];refine aq (λh=>by cases h) (λ_=>?_);simp only [go_sem,simprocAttr];exact ⟨_,rfl⟩
   simp only [hp,h0,h1,go_sem,simprocAttr];refine ae (yP v h0 (by omega)) rfl ?_;have hb:(bs (bO v)==bs w)=false:=by
    rw [dd]
    cases hd:(bO v==w) with
    |false=>rfl
    |true =>
     rw [eM,hnl] at hnw;simp only [h0,h1,true_and,eq_of_beq hd,if_true] at hnw;cases hnw
   simp only [hb,go_sem,simprocAttr];refine aq (λh=>by cases h) (λ_=>?_);simp only [go_sem,simprocAttr];exact ⟨_,rfl⟩
theorem i8 {H} {Q} {ops} {rest} {dst} {A} (l) (id jd) (hid:A.h[id]?=some (ct l)) (hjd:A.h[jd]?=some (hZ id))
  (h1:∀ w ws,l=w::ws->cF w=some w->@WO ⟨TP,H,ops,rest,Q⟩ (A.put dst (.p (.str (bs w))) (A.h.set id (ct ws))))
  (h2:(∀ w ws,l=w::ws->cF w=none)->∀ o,@WQ ⟨Q⟩ (.panic (fo 6)) { A with h:=A.h.set id o }):@WF ⟨TP,H,ops,rest,Q,dst⟩ A 100 [.ptr jd 1 0 0]:=by
 by_cases hn:∀ w ws,l=w::ws->cF w=none
 .refine bW (OH l id jd A.h hid hjd hn) (λv h hr=>by cases hr.1) (λv h hr=>?_);obtain ⟨e,o,rfl⟩:=hr;cases e;exact h2 hn o
 .cases l with
  |nil=>exact absurd (λw ws h=>by cases h) hn
  |cons w ws =>
   have hw:cF w=some w:=by
    cases hc:cF w with
    |none=>exact absurd (λw' ws' h=>by cases h;exact hc) hn
    |some v=>rw [LE hc]
   exact b9 (Wd w ws id jd A.h hid hjd hw) (h1 w ws rfl hw)
theorem fO {H} {Q} {ops} {rest} {dst} {A} (l) (id jd) (hl:∀ w,w∈l->w.length<=1000000) (hid:A.h[id]?=some (ct l)) (hjd:A.h[jd]?=some (hZ id))
  (h1:∀ w ws v,l=w::ws->eM w=some v->@WO ⟨TP,H,ops,rest,Q⟩ (A.put dst (.p (.int .i64 v)) (A.h.set id (ct ws))))
  (h2:(∀ w ws,l=w::ws->eM w=none)->∀ o,@WQ ⟨Q⟩ (.panic (fo 6)) { A with h:=A.h.set id o }):@WF ⟨TP,H,ops,rest,Q,dst⟩ A 102 [.ptr jd 1 0 0]:=by
 by_cases hn:∀ w ws,l=w::ws->eM w=none
 .refine bW (JW l id jd A.h hl hid hjd hn) (λv h hr=>by cases hr.1) (λv h hr=>?_);obtain ⟨e,o,rfl⟩:=hr;cases e;exact h2 hn o
 .cases l with
  |nil=>exact absurd (λw ws h=>by cases h) hn
  |cons w ws =>
   cases hc:eM w with
   |none=>exact absurd (λw' ws' h=>by cases h;exact hc) hn
   |some v=>exact b9 (OG w ws id jd A.h v (hl w (by simp)) hid hjd hc) (h1 w ws v rfl hc)
end Ch
set_option maxRecDepth 100000
theorem Id (l p) (hl:l.length<1000000000) (hp:p.length<1000000000):ah TP 226 [.str (bs l),.str (bs p)] (.bool (decide (l.take p.length=p))):=by
 refine aa (ai (by kernel_rfl) rfl UD) rfl ?_;by_cases hle:p.length<=l.length
 .have e1:decide ((((bs p).size:Nat):Int)<=(((bs l).size:Nat):Int))=true:=by rw [aw,aw];simp;omega
  have e3:((((bs p).size:Nat):Int))<=(((bs l).size:Nat):Int):=by rw [aw,aw];omega
  have e4:(bs l).extract 0 (bs p).size=bs (l.take p.length):=by rw [eo,qM,aw]
  have e5:(bs (l.take p.length)==bs p)=decide (l.take p.length=p):=by
   rw [dd,rW];simp
  simp only [e3,e4,e5,go_sem,simprocAttr]
 .have e1:decide ((((bs p).size:Nat):Int)<=(((bs l).size:Nat):Int))=false:=by rw [aw,aw];simp;omega
  have e2:decide (l.take p.length=p)=false:=by
   rw [decide_eq_false_iff_not];intro h;have:=congrArg List.length h;rw [wy] at this;omega
  simp only [e1,e2,go_sem,simprocAttr]
theorem zR (l p) (hl:l.length<1000000000) (hp:p.length<1000000000):ah TP 165 [.str (bs l),.str (bs p)] (.tuple [.str (bs (if l.take p.length=p then l.drop p.length else l)),.bool (decide (l.take p.length=p))]):=by
 refine aa (ai (by kernel_rfl) rfl Vj) rfl ?_;simp only [go_sem,simprocAttr];refine ae (Id l p hl hp) rfl ?_;by_cases h:l.take p.length=p
 .have hle:p.length<=l.length:=by
   have:=congrArg List.length h;rw [wy] at this;omega
  have e3:((((bs p).size:Nat):Int))<=(((bs l).size:Nat):Int):=by rw [aw,aw];omega
  have e4:(bs l).extract (bs p).size (bs l).size=bs (l.drop p.length):=by
   rw [eo,aw,aw,oN]
  have e5:decide (l.take p.length=p)=true:=decide_eq_true h;simp only [e5,e3,e4,if_pos h,go_sem,simprocAttr]
 .have e5:decide (l.take p.length=p)=false:=decide_eq_false h;simp only [e5,if_neg h,go_sem,simprocAttr]
theorem Ie (l p) (hl:l.length<1000000000) (hp:p.length<1000000000):ah TP 95 [.str (bs l),.str (bs p)] (.tuple [.str (bs (if l.take p.length=p then l.drop p.length else l)),.bool (decide (l.take p.length=p))]):=by
 refine aa (ai (by kernel_rfl) rfl Yv) rfl ?_;simp only [go_sem,simprocAttr];refine ae (zR l p hl hp) rfl ?_;simp only [go_sem,simprocAttr]
namespace Ch
set_option maxRecDepth 4000
def H7 (s:ChShop) (b:ChBooks) (ex:List PV) (t:Heap):Heap:=B7 s b ex++t
def iR (s:ChShop) (b:ChBooks) (ex:List PV) (t:Heap) (q:Except Int (ChBooks×List UInt8)) (r:AEnd) (h'':Heap):Prop:=∃ h' t',h''=h'++t'/\jz s b ex q r h'/\t'.length=t.length/\t'.take 3=t.take 3
theorem Ez {s} {b} {ex} {q} {r} {h'} (h:jz s b ex q r h'):h'.length=7:=by
 unfold jz at h;split at h
 .rw [h.2];rfl
 .rcases h.2 with ⟨_,h⟩ | ⟨_,_,_,h⟩<;>rw [h]<;>rfl
theorem jb {f} {args} {s} {b} {ex} {q} (hc:ay TP f args (B7 s b ex) (jz s b ex q)) (ha:∀ a,a∈args->below 7 a) (t):ay TP f args (H7 s b ex t) (iR s b ex t q):=by
 refine (gu (eB s b ex) ha (hc.mono λr h' hr=>⟨Ez hr,hr⟩) t).mono λr h'' hr=>?_;obtain ⟨h',e,_,hr⟩:=hr;exact ⟨h',t,e,hr,rfl,rfl⟩
theorem iG {s} {b} {ex} {t} {q} {v} {h} (hr:iR s b ex t q (.ret v) h):∃ a,v=.p (.str (bs a)):=by
 obtain ⟨h',t',_,hp,_⟩:=hr;unfold jz at hp;split at hp
 .cases hp.1
 .rename_i b' a;cases hp.1;exact ⟨a,rfl⟩
theorem Wo (s) (b) (ex) (t) (n) (hs:SOk s) (hb:BkOk s b n) (i j) (text) (hi:(H7 s b ex t)[i]?=some (.row 1 [.ptr 2 1 0 0])) (hj:(H7 s b ex t)[j]?=some (.row 1 [.p (.str (bs text))])) :
  ay TP 96 [.ptr i 1 0 0,.ptr j 1 0 0] (H7 s b ex t) (iR s b ex t (aU s b (.test text))):=by
 refine ax (ai (by kernel_rfl) rfl Yu) rfl ?_;simp only [hi,hj,go_sem,simprocAttr];refine bW (jb (Wa s b ex n hs hb text) (by simp only [go_sem,simprocAttr]) t) (λv h hr=>?_) (λv h hr=>?_)
 .obtain ⟨a,rfl⟩:=iG hr;simp only [go_sem,simprocAttr];exact hr
 .simp only [go_sem,simprocAttr];exact hr
theorem Rv (s) (b) (ex) (t) (n) (hs:SOk s) (hb:BkOk s b n) (i j) (w) (hi:(H7 s b ex t)[i]?=some (.row 1 [.ptr 2 1 0 0])) (hj:(H7 s b ex t)[j]?=some (.row 1 [.p (.str (bs w))])) :
  ay TP 108 [.ptr i 1 0 0,.ptr j 1 0 0] (H7 s b ex t) (iR s b ex t (aU s b (.drop w))):=by
 refine ax (ai (by kernel_rfl) rfl V0) rfl ?_;simp only [hi,hj,go_sem,simprocAttr];refine bW (jb (Wg s b ex n hs hb w) (by simp only [go_sem,simprocAttr]) t) (λv h hr=>?_) (λv h hr=>?_)
 .obtain ⟨a,rfl⟩:=iG hr;simp only [go_sem,simprocAttr];exact hr
 .simp only [go_sem,simprocAttr];exact hr
theorem Ru (s) (b) (ex) (t) (n) (hs:SOk s) (hb:BkOk s b n) (i j) (w) (hi:(H7 s b ex t)[i]?=some (.row 1 [.ptr 2 1 0 0])) (hj:(H7 s b ex t)[j]?=some (.row 1 [.p (.str (bs w))])) :
  ay TP 110 [.ptr i 1 0 0,.ptr j 1 0 0] (H7 s b ex t) (iR s b ex t (aU s b (.plan w))):=by
 refine ax (ai (by kernel_rfl) rfl VY) rfl ?_;simp only [hi,hj,go_sem,simprocAttr];refine bW (jb (BX s b ex n hs hb w) (by simp only [go_sem,simprocAttr]) t) (λv h hr=>?_) (λv h hr=>?_)
 .obtain ⟨a,rfl⟩:=iG hr;simp only [go_sem,simprocAttr];exact hr
 .simp only [go_sem,simprocAttr];exact hr
theorem Rt (s) (b) (ex) (t) (n) (hs:SOk s) (hb:BkOk s b n) (i j) (w) (hi:(H7 s b ex t)[i]?=some (.row 1 [.ptr 2 1 0 0])) (hj:(H7 s b ex t)[j]?=some (.row 1 [.p (.str (bs w))])) :
  ay TP 112 [.ptr i 1 0 0,.ptr j 1 0 0] (H7 s b ex t) (iR s b ex t (aU s b (.pour w))):=by
 refine ax (ai (by kernel_rfl) rfl VW) rfl ?_;simp only [hi,hj,go_sem,simprocAttr];refine bW (jb (Wc s b ex n hs hb w) (by simp only [go_sem,simprocAttr]) t) (λv h hr=>?_) (λv h hr=>?_)
 .obtain ⟨a,rfl⟩:=iG hr;simp only [go_sem,simprocAttr];exact hr
 .simp only [go_sem,simprocAttr];exact hr
theorem RA (s) (b) (ex) (t) (n) (hs:SOk s) (hb:BkOk s b n) (i j k l m) (name colour lot) (grams) (hi:(H7 s b ex t)[i]?=some (.row 1 [.ptr 2 1 0 0])) (hj:(H7 s b ex t)[j]?=some (.row 1 [.p (.str (bs name))]))
  (hk:(H7 s b ex t)[k]?=some (.row 1 [.p (.str (bs colour))])) (hl:(H7 s b ex t)[l]?=some (.row 1 [.p (.str (bs lot))])) (hm:(H7 s b ex t)[m]?=some (.row 1 [.p (.int .i64 grams)])) :
  ay TP 106 [.ptr i 1 0 0,.ptr j 1 0 0,.ptr k 1 0 0,.ptr l 1 0 0,.ptr m 1 0 0] (H7 s b ex t) (iR s b ex t (aU s b (.batch name colour lot grams))):=by
 refine ax (ai (by kernel_rfl) rfl V1) rfl ?_;simp only [hi,hj,hk,hl,hm,go_sem,simprocAttr];refine bW (jb (Re s b ex n hs hb name colour lot grams) (by simp only [go_sem,simprocAttr]) t) (λv h hr=>?_) (λv h hr=>?_)
 .obtain ⟨a,rfl⟩:=iG hr;simp only [go_sem,simprocAttr];exact hr
 .simp only [go_sem,simprocAttr];exact hr
theorem Zi (s) (b) (ex) (t) (n) (hs:SOk s) (hb:BkOk s b n) (i j k) (kind) (hours) (hi:(H7 s b ex t)[i]?=some (.row 1 [.ptr 2 1 0 0])) (hj:(H7 s b ex t)[j]?=some (.row 1 [.p (.str (bs kind))]))
  (hk:(H7 s b ex t)[k]?=some (.row 1 [.p (.int .i64 hours)])) :
  ay TP 116 [.ptr i 1 0 0,.ptr j 1 0 0,.ptr k 1 0 0] (H7 s b ex t) (iR s b ex t (aU s b (.box kind hours))):=by
 refine ax (ai (by kernel_rfl) rfl VS) rfl ?_;simp only [hi,hj,hk,go_sem,simprocAttr];refine bW (jb (Zf s b ex n hs hb kind hours) (by simp only [go_sem,simprocAttr]) t) (λv h hr=>?_) (λv h hr=>?_)
 .obtain ⟨a,rfl⟩:=iG hr;simp only [go_sem,simprocAttr];exact hr
 .simp only [go_sem,simprocAttr];exact hr
theorem Wn (s) (b) (ex) (t) (n) (hs:SOk s) (hb:BkOk s b n) (i j k) (kind) (a b' c d) (hi:(H7 s b ex t)[i]?=some (.row 1 [.ptr 2 1 0 0])) (hj:(H7 s b ex t)[j]?=some (.row 1 [.p (.str (bs kind))]))
  (hk:(H7 s b ex t)[k]?=some (.row 4 [.p (.agg [.int .i64 a,.int .i64 b',.int .i64 c,.int .i64 d])])) :
  ay TP 119 [.ptr i 1 0 0,.ptr j 1 0 0,.ptr k 1 0 0] (H7 s b ex t) (iR s b ex t (aU s b (.wick kind a b' c d))):=by
 refine ax (ai (by kernel_rfl) rfl VP) rfl ?_;simp only [hi,hj,hk,go_sem,simprocAttr];refine bW (jb (V' s b ex n hs hb kind a b' c d) (by simp only [go_sem,simprocAttr]) t) (λv h hr=>?_) (λv h hr=>?_)
 .obtain ⟨a,rfl⟩:=iG hr;simp only [go_sem,simprocAttr];exact hr
 .simp only [go_sem,simprocAttr];exact hr
theorem Rz (s) (b) (ex) (t) (n) (hs:SOk s) (hb:BkOk s b n) (i k) (a b' c) (hi:(H7 s b ex t)[i]?=some (.row 1 [.ptr 2 1 0 0]))
  (hk:(H7 s b ex t)[k]?=some (.row 3 [.p (.agg [.int .i64 a,.int .i64 b',.int .i64 c])])) :
  ay TP 121 [.ptr i 1 0 0,.ptr k 1 0 0] (H7 s b ex t) (iR s b ex t (aU s b (.blend a b' c))):=by
 refine ax (ai (by kernel_rfl) rfl VN) rfl ?_;simp only [hi,hk,go_sem,simprocAttr];refine bW (jb (Dp s b ex n hs hb a b' c) (by simp only [go_sem,simprocAttr]) t) (λv h hr=>?_) (λv h hr=>?_)
 .obtain ⟨a,rfl⟩:=iG hr;simp only [go_sem,simprocAttr];exact hr
 .simp only [go_sem,simprocAttr];exact hr
theorem Mf (s) (b) (ex) (t) (n) (hs:SOk s) (hb:BkOk s b n) (i j) (kind) (hi:(H7 s b ex t)[i]?=some (.row 1 [.ptr 2 1 0 0])) (hj:(H7 s b ex t)[j]?=some (.row 1 [.p (.str (bs kind))])) :
  ay TP 114 [.ptr i 1 0 0,.ptr j 1 0 0] (H7 s b ex t) (iR s b ex t (aU s b (.promise kind))):=by
 have hp:=wt s b ex n hs hb kind;have hfr:∀ {R:AEnd->Heap->Prop},ay TP 115 [.ptr 2 1 0 0,.p (.str (bs kind))] (B7 s b ex) (λr h'=>R r h'/\h'=B7 s b ex)->ay TP 115 [.ptr 2 1 0 0,.p (.str (bs kind))] (H7 s b ex t) (λr h'=>h'=H7 s b ex t/\R r (B7 s b ex)):=λ{R} hc=>by
  refine (gu (eB s b ex) (by simp only [go_sem,simprocAttr]) (hc.mono λr h' hr=>⟨by rw [hr.2],hr⟩) t).mono λr h'' hr=>?_;obtain ⟨h',e,_,hr,e2⟩:=hr;subst e2;exact ⟨e,hr⟩
 refine ax (ai (by kernel_rfl) rfl VU) rfl ?_;simp only [hi,hj,go_sem,simprocAttr]
 cases hq:fh s b kind with
 |error e =>
  refine bW (hfr (hp.1 e hq)) (λv h hr=>by cases hr.2) (λv h hr=>?_);obtain ⟨rfl,hr⟩:=hr;cases hr;simp only [go_sem,simprocAttr]
  exact ⟨_,t,rfl,by simp only [aU,hq];exact ⟨rfl,rfl⟩,rfl,rfl⟩
 |ok q =>
  obtain ⟨k,m⟩:=q;obtain ⟨hm,hc⟩:=hp.2 k m hq;refine bW (hfr hc) (λv h hr=>?_) (λv h hr=>by cases hr.2);obtain ⟨rfl,hr⟩:=hr;cases hr;simp only [go_sem,simprocAttr];have hsd:=nH [.n m] true (by simp) (λw hw=>by
   simp only [cz,eQ,or_false] at hw;subst hw
   exact ⟨hm.1,by omega⟩)
  refine ae hsd rfl ?_;simp only [go_sem,simprocAttr];exact ⟨_,t,rfl,by simp only [aU,hq];exact ⟨rfl,.inl ⟨_,rfl⟩⟩,rfl,rfl⟩
theorem Zh (s) (b) (ex) (t) (n) (hs:SOk s) (hb:BkOk s b n) (i j k l m r) (name kind) (grams) (rs) (hrs:rs.length<1000000000) (hi:(H7 s b ex t)[i]?=some (.row 1 [.ptr 2 1 0 0])) (hj:(H7 s b ex t)[j]?=some (.row 1 [.p (.str (bs name))]))
  (hk:(H7 s b ex t)[k]?=some (.row 1 [.p (.str (bs kind))])) (hl:(H7 s b ex t)[l]?=some (.row 1 [.p (.int .i64 grams)])) (hm:(H7 s b ex t)[m]?=some (.row 1 [.slice r rs.length 0 rs.length])) (hr7:10<=r) (hr:(H7 s b ex t)[r]?=some (.row 1 (rs.map λv=>.p (aJ v)))) :
  ay TP 104 [.ptr i 1 0 0,.ptr j 1 0 0,.ptr k 1 0 0,.ptr l 1 0 0,.ptr m 1 0 0] (H7 s b ex t) (iR s b ex t (aU s b (.lot name kind grams rs))):=by
 have hcall:ay TP 105 [.ptr 2 1 0 0,.p (.str (bs name)),.p (.str (bs kind)),.p (.int .i64 grams),.slice r rs.length 0 rs.length] (H7 s b ex t) (iR s b ex t (aU s b (.lot name kind grams rs))):=by
  have e:gp (λx=>x==r) (H7 s b ex t)=H7 s b ex (t.set (r-7) .dead):=by
   rw [Dh];unfold H7;rw [wx _ _ (show (B7 s b ex).length<=r by show 7<=r;omega)];rfl
  refine E9 (args':=[.ptr 2 1 0 0,.p (.str (bs name)),.p (.str (bs kind)),.p (.int .i64 grams),.p (.slice 1 (rs.map aJ) false)]) (λx=>x==r) rfl (λx a' hx=>?_) ?_
  .match x,hx with
   |0,hx=>exact .inl hx
   |1,hx=>exact .inl hx
   |2,hx=>exact .inl hx
   |3,hx=>exact .inl hx
   |4,hx =>
    cases hx;refine .inr ⟨_,_,rfl,rfl,?_⟩;have hk:(gp (λi=>!(i==r)) (H7 s b ex t))[r]?=some (.row 1 (rs.map λv=>.p (aJ v))):=by rw [mv (by simp)];exact hr
    have hf:∀ (n:Nat) (h:Heap),aO (bV n h) (rs.map λv=>.p (aJ v))=some (rs.map aJ):=λn h=>cZ (dO n h) aJ rs;unfold AR bV;rw [hk];simp only [k9,hf];rw [if_pos (by simp)];show some (PV.slice 1 (List.drop 0 (List.take (0+rs.length) (rs.map aJ))) false)=_
    rw [qM,fx (by simp)]
   |n+5,hx=>simp at hx
  .rw [e];refine (jb (Ze s b ex n hs hb name kind grams rs hrs) (by simp only [go_sem,simprocAttr]) _).mono λx h' hx=>?_;obtain ⟨h1,t1,e1,p1,l1,k1⟩:=hx;refine ⟨h1,t1,e1,p1,by rw [l1,B4],by rw [k1];exact List.take_set_of_le (by omega)⟩
 refine ax (ai (by kernel_rfl) rfl V2) rfl ?_;simp only [hi,hj,hk,hl,hm,go_sem,simprocAttr];refine bW hcall (λv h hr=>?_) (λv h hr=>?_)
 .obtain ⟨a,rfl⟩:=iG hr;simp only [go_sem,simprocAttr];exact hr
 .simp only [go_sem,simprocAttr];exact hr
end Ch
end Abs
end Go.Proofs.YtfafnkpfamgbbaaGreatDoor
