/-
  CONTRACTS: slices.Repeat of one span. No conditions but those in the theorems' heads.
  CONTRACTS: chandler: wick, blend. No conditions but those in the theorems' heads.
  CONTRACTS: chandler: a call with rows handed over; words, names, numbers. No conditions bu
  CONTRACTS: strings.CutPrefix. No conditions but those in the theorems' heads.
  CONTRACTS: chandler: what lines do, as functions with their words. No conditions but those
-/
import Derived.Test.YtfafnkpfamgbbaaGreatDoorAbsCutX
import Derived.Test.YtfafnkpfamgbbaaGreatDoorBdFillX
import Derived.Test.YtfafnkpfamgbbaaGreatDoorChBk4X
import Derived.Test.YtfafnkpfamgbbaaGreatDoorStrLibX
import Derived.Test.YtfafnkpfamgbbaaGreatDoorHrUseX
import Derived.Test.YtfafnkpfamgbbaaGreatDoorAbsFrame
set_option linter.unusedSimpArgs false
set_option linter.unusedVariables false
open Go.Proofs.Tryz renaming prog->TP
namespace Go.Proofs.YtfafnkpfamgbbaaGreatDoor
namespace Abs
namespace Ch
set_option maxRecDepth 4000
theorem UJ (n) (h1:1<=n) (h5:n<=5):ah TP 296 [.int .u64 1,.int .u64 n] (.tuple [.int .u64 0,.int .u64 n]):=by
 have hn:n=1\/n=2\/n=3\/n=4\/n=5:=by omega
 have f0:fk .shr .u64 0 32=some (.int .u64 0):=rfl;have f1:fk .shr .u64 1 32=some (.int .u64 0):=rfl;have w0:IntKind.u64.wrap 0=0:=rfl;have w1:IntKind.u64.wrap 1=1:=rfl;rcases hn with rfl | rfl | rfl | rfl | rfl
 .have f2:fk .shr .u64 1 32=some (.int .u64 0):=rfl;have w2:IntKind.u64.wrap 1=1:=rfl;refine aa (ai (by kernel_rfl) rfl zW) rfl ?_;simp only [f1,f0,w0,w1,A8,zn,tM,vb,go_sem,simprocAttr]
 .have f2:fk .shr .u64 2 32=some (.int .u64 0):=rfl;have w2:IntKind.u64.wrap 2=2:=rfl;refine aa (ai (by kernel_rfl) rfl zW) rfl ?_;simp only [f1,f0,f2,w0,w1,w2,A8,zn,tM,vb,go_sem,simprocAttr]
 .have f2:fk .shr .u64 3 32=some (.int .u64 0):=rfl;have w2:IntKind.u64.wrap 3=3:=rfl;refine aa (ai (by kernel_rfl) rfl zW) rfl ?_;simp only [f1,f0,f2,w0,w1,w2,A8,zn,tM,vb,go_sem,simprocAttr]
 .have f2:fk .shr .u64 4 32=some (.int .u64 0):=rfl;have w2:IntKind.u64.wrap 4=4:=rfl;refine aa (ai (by kernel_rfl) rfl zW) rfl ?_;simp only [f1,f0,f2,w0,w1,w2,A8,zn,tM,vb,go_sem,simprocAttr]
 .have f2:fk .shr .u64 5 32=some (.int .u64 0):=rfl;have w2:IntKind.u64.wrap 5=5:=rfl;refine aa (ai (by kernel_rfl) rfl zW) rfl ?_;simp only [f1,f0,f2,w0,w1,w2,A8,zn,tM,vb,go_sem,simprocAttr]
theorem F7 (n) (h1:1<=n) (h5:n<=5):ah TP 264 [.int .u64 1,.int .u64 n] (.tuple [.int .u64 0,.int .u64 n]):=by
 refine aa (ai (by kernel_rfl) rfl W9) rfl ?_;simp only [go_sem,simprocAttr];refine ae (UJ n h1 h5) rfl ?_;simp only [go_sem,simprocAttr]
def Cd:Hints:=eg [(38,.low),(45,.app 41),(5000001,.nop)]
theorem zV:aj Cd Tryz.f194=true:=by kernel_rfl
theorem Fk:Nat.min 1 1=1/\Nat.min 1 2=1/\Nat.min 1 3=1/\Nat.min 1 4=1/\Nat.min 2 1=1/\Nat.min 2 2=2/\Nat.min 2 3=2/\Nat.min 4 1=1:=by decide
theorem iw:IntKind.i64.wrap 1=1/\IntKind.i64.wrap (1+1)=2/\IntKind.i64.wrap (2+1)=3/\IntKind.i64.wrap (2+2)=4/\IntKind.i64.wrap (4+1)=5:=by decide
def ot:PV:=.agg [.int .i64 0,.int .i64 20]
theorem Oi:g9 TP 194 [.slice 2 [.agg [.int .i64 0,.int .i64 20]] true,.int .i64 1] (.slice 2 (List.replicate 1 ot) false):=by
 obtain ⟨m1,m2,m3,m4,m5,m6,m7,m8⟩:=Fk;obtain ⟨i1,i2,i3,i4,i5⟩:=iw;refine fR (ai (by kernel_rfl) rfl zV) rfl ?_;simp only [Cd,go_sem,simprocAttr];refine ae (F7 1 (by decide) (by decide)) rfl ?_;have hrm:(1:Int)<=(aw:Int):=by decide
 simp only [hrm,go_sem,simprocAttr];refine bn ?_;simp only [ot,go_sem,simprocAttr]
 trace_state
theorem Oh:g9 TP 194 [.slice 2 [.agg [.int .i64 0,.int .i64 20]] true,.int .i64 2] (.slice 2 (List.replicate 2 ot) false):=by
 obtain ⟨m1,m2,m3,m4,m5,m6,m7,m8⟩:=Fk;obtain ⟨i1,i2,i3,i4,i5⟩:=iw;refine fR (ai (by kernel_rfl) rfl zV) rfl ?_;simp only [Cd,go_sem,simprocAttr];refine ae (F7 2 (by decide) (by decide)) rfl ?_;have hrm:(2:Int)<=(aw:Int):=by decide
 simp only [hrm,go_sem,simprocAttr];refine bn ?_;simp only [bj,go_sem,simprocAttr];refine And.intro (.inr ⟨0,_,rfl,rfl⟩) ?_;simp only [m1,go_sem,simprocAttr];refine bn ?_;simp only [ot,go_sem,simprocAttr]
theorem Og:g9 TP 194 [.slice 2 [.agg [.int .i64 0,.int .i64 20]] true,.int .i64 3] (.slice 2 (List.replicate 3 ot) false):=by
 obtain ⟨m1,m2,m3,m4,m5,m6,m7,m8⟩:=Fk;obtain ⟨i1,i2,i3,i4,i5⟩:=iw;refine fR (ai (by kernel_rfl) rfl zV) rfl ?_;simp only [Cd,go_sem,simprocAttr];refine ae (F7 3 (by decide) (by decide)) rfl ?_;have hrm:(3:Int)<=(aw:Int):=by decide
 simp only [hrm,go_sem,simprocAttr];refine bn ?_;simp only [bj,go_sem,simprocAttr];refine And.intro (.inr ⟨0,_,rfl,rfl⟩) ?_;simp only [m2,m3,go_sem,simprocAttr];refine bn ?_;simp only [bj,go_sem,simprocAttr];refine And.intro (.inr ⟨0,_,rfl,rfl⟩) ?_;simp only [m5,m6,go_sem,simprocAttr];refine bn ?_;simp only [ot,go_sem,simprocAttr]
theorem Of:g9 TP 194 [.slice 2 [.agg [.int .i64 0,.int .i64 20]] true,.int .i64 4] (.slice 2 (List.replicate 4 ot) false):=by
 obtain ⟨m1,m2,m3,m4,m5,m6,m7,m8⟩:=Fk;obtain ⟨i1,i2,i3,i4,i5⟩:=iw;refine fR (ai (by kernel_rfl) rfl zV) rfl ?_;simp only [Cd,go_sem,simprocAttr];refine ae (F7 4 (by decide) (by decide)) rfl ?_;have hrm:(4:Int)<=(aw:Int):=by decide
 simp only [hrm,go_sem,simprocAttr];refine bn ?_;simp only [bj,go_sem,simprocAttr];refine And.intro (.inr ⟨0,_,rfl,rfl⟩) ?_;simp only [m2,m3,go_sem,simprocAttr];refine bn ?_;simp only [bj,go_sem,simprocAttr];refine And.intro (.inr ⟨0,_,rfl,rfl⟩) ?_;simp only [m5,m6,go_sem,simprocAttr];refine bn ?_;simp only [ot,go_sem,simprocAttr]
theorem Oe:g9 TP 194 [.slice 2 [.agg [.int .i64 0,.int .i64 20]] true,.int .i64 5] (.slice 2 (List.replicate 5 ot) false):=by
 obtain ⟨m1,m2,m3,m4,m5,m6,m7,m8⟩:=Fk;obtain ⟨i1,i2,i3,i4,i5⟩:=iw;refine fR (ai (by kernel_rfl) rfl zV) rfl ?_;simp only [Cd,go_sem,simprocAttr];refine ae (F7 5 (by decide) (by decide)) rfl ?_;have hrm:(5:Int)<=(aw:Int):=by decide
 simp only [hrm,go_sem,simprocAttr];refine bn ?_;simp only [bj,go_sem,simprocAttr];refine And.intro (.inr ⟨0,_,rfl,rfl⟩) ?_;simp only [m4,go_sem,simprocAttr];refine bn ?_;simp only [bj,go_sem,simprocAttr];refine And.intro (.inr ⟨0,_,rfl,rfl⟩) ?_;simp only [m7,go_sem,simprocAttr];refine bn ?_;simp only [bj,go_sem,simprocAttr];refine And.intro (.inr ⟨0,_,rfl,rfl⟩) ?_;simp only [m8,go_sem,simprocAttr];refine bn ?_;simp only [ot,go_sem,simprocAttr]
theorem Rk (n:Nat) (h1:1<=n) (h5:n<=5):g9 TP 194 [.slice 2 [.agg [.int .i64 0,.int .i64 20]] true,.int .i64 n] (.slice 2 (List.replicate n ot) false):=by
 match n,h1,h5 with
 |1,_,_=>exact Oi
 |2,_,_=>exact Oh
 |3,_,_=>exact Og
 |4,_,_=>exact Of
 |5,_,_=>exact Oe
theorem SOk.wickwaxes {s} (h:SOk s):s.wick.waxes.length<1000000000:=by
 have:=(Wk.vE h.wick).lx;omega
theorem Jz {s} {c} {x} (h:(Wk.ej s c x).2=0):Wk.r8 s (Wk.ej s c x).1:=by
 unfold Wk.ej at h |-;split at h
 .rename_i h0;rw [if_pos h0];split at h
  .cases h
  .rename_i h1;rw [if_neg h1];rcases Wk.uN s (Wk.gN s c x s.wicks 0) (-1) (Wk.oY s c x s.wicks 0 (by simp)) (.inl rfl) with e | e
   .rw [e] at h1;exact absurd (by decide) h1
   .exact e
 .rename_i h0;exact absurd h h0
set_option maxHeartbeats 1000000 in
theorem Y8 (s) (b) (ex) (n) (hs:SOk s) (hb:BkOk s b n) (kind) (a b' c d):aC TP 120 [.ptr 2 1 0 0,.p (.str (bs kind)),.p (.agg [.int .i64 a,.int .i64 b',.int .i64 c,.int .i64 d])] (B7 s b ex) (kr s b ex (aR s b (.wick kind a b' c d))):=by
 refine bO (ai (by kernel_rfl) rfl YN) rfl ?_;simp only [ChShop.cells,go_sem,simprocAttr];rcases sh (λx:Wax=>x.name==bs kind) s.wick.waxes 0 with h3 | ⟨j,x,hj,hx,_⟩
 .refine rS (TC s.wick.waxes (bs kind) false hs.wickwaxes h3) rfl (mX _) ?_;simp only [go_sem,simprocAttr];exact dv (e:=4) (by simp only [aR,if_pos h3]) [_] rfl
 rw [jv] at hj;have hnj:¬ (j:Int)<0:=by omega
 have hfd:=UM s.wick.waxes (bs kind) false hs.wickwaxes (by omega);rw [hj] at hfd;refine ae hfd rfl ?_;simp only [go_sem,simprocAttr];have hT:=Wk.DL s.wick ⟨(j:Int),a,b',⟨c,d⟩⟩ x (λh0=>by
  obtain ⟨x',hx'⟩:=Wk.NT h0;have:=hx'.hx;dsimp only at this;rw [iH,hx] at this;cases this
  exact hx')
 refine aD hT rfl ?_;by_cases h4:(Wk.ej s.wick ⟨(j:Int),a,b',⟨c,d⟩⟩ x).2=0;rotate_left
 .have h4':((Wk.ej s.wick ⟨(j:Int),a,b',⟨c,d⟩⟩ x).2==0)=false:=by simpa using h4
  simp only [h4',go_sem,simprocAttr];refine az (λh=>by cases h) (λ_=>?_);simp only [go_sem,simprocAttr];exact dv (e:=(Wk.ej s.wick ⟨(j:Int),a,b',⟨c,d⟩⟩ x).2) (by simp only [aR,hj,if_neg hnj,iH,hx,if_pos h4]) [_] rfl
 have h4n:¬ (Wk.ej s.wick ⟨(j:Int),a,b',⟨c,d⟩⟩ x).2≠0:=λh=>h h4;have hv:=Jz h4;simp only [h4,go_sem,simprocAttr];refine az (λ_=>?_) (λh=>by cases h);obtain ⟨k,hk⟩:=p4 hv.1;have hkl:k<s.wick.wicks.length:=by have:=hv.2;omega
 obtain ⟨w,hw⟩:∃ w,s.wick.wicks[k]?=some w:=⟨_,bE hkl⟩
 have hkB:(k:Int)<(s.wick.wicks.length:Int):=by omega
 simp only [hk,hkB,hw,go_sem,simprocAttr];have hact:aR s b (.wick kind a b' c d)=.ok (b,bl w.name):=by
  simp only [aR,hj,if_neg hnj,iH,hx,if_neg h4n,hk,hw]
 have:=g7 (s:=s) (b:=b) (ex:=ex) (ex':=ex) hact (hh:=B7 s b ex++[.row 4 [.p (.agg [.int .i64 a,.int .i64 b',.int .i64 c,.int .i64 d])]]) [_] rfl;rw [KI] at this;exact this
theorem U2 {l} (h:(bdCheck l).2.2=0):1<=l.length/\l.length<=5:=by
 unfold bdCheck at h;split at h
 .rename_i h1;simp [ar] at h1;omega
 .cases h
theorem Hp {l} {w} (h:(cb l w).2.2=0):((cb l w).1.length<=1000/\∀ n,n∈(cb l w).1->0<=n/\n<1000000000)/\0<=(cb l w).2.1/\(cb l w).2.1<1000000000:=by
 unfold cb at h |-;split at h
 .rename_i h0;rw [if_pos h0];obtain ⟨hl,hw⟩:=Ce h0;split at h
  .cases h
  .rename_i r hr;dsimp only;have hm:r∈fits l w:=by
    rcases mo _ _ _ _ hr with h | h
    .cases h
    .exact h
   have hro:=(yZ hl hm).1;have hb:=(H' (ue hl hro.rng)).2.2.2.2.1;have h5:=hl.len;have h6:=hro.len;have hp:di jW (l.zip r)=eW l r:=rfl;refine ⟨⟨by omega,λn hn=>?_⟩,?_,?_⟩
   .have:=hro.rng n hn;omega
   .rw [<-hp];exact hb.1
   .rw [<-hp];omega
 .rename_i h0;exact absurd h h0
theorem QO (s) (a b' c):(ip s a b' c).pv=.agg [.slice 2 (List.replicate s.blend.length ot) false,.int .i64 a,.int .i64 b',.int .i64 0,.int .i64 c]:=by
 simp only [BdWish.pv,ip,List.map_replicate,Span.pv,ot]
set_option maxHeartbeats 1000000 in
theorem FG (s) (b) (ex) (n) (hs:SOk s) (hb:BkOk s b n) (a b' c):aC TP 122 [.ptr 2 1 0 0,.p (.agg [.int .i64 a,.int .i64 b',.int .i64 c])] (B7 s b ex) (kr s b ex (aR s b (.blend a b' c))):=by
 refine bO (ai (by kernel_rfl) rfl YL) rfl ?_;simp only [ChShop.cells,go_sem,simprocAttr];have hbl:=U2 hs.blend;have hR:=Rk s.blend.length hbl.1 hbl.2;refine wN hR rfl ?_;simp only [go_sem,simprocAttr];refine aD (MX s.blend (ip s a b' c)) (by rw [QO];rfl) ?_;by_cases h4:(cb s.blend (ip s a b' c)).2.2=0;rotate_left
 .have h4':((cb s.blend (ip s a b' c)).2.2==0)=false:=by simpa using h4
  simp only [tu,h4',go_sem,simprocAttr];refine az (λh=>by cases h) (λ_=>?_);simp only [go_sem,simprocAttr];exact dv (e:=(cb s.blend (ip s a b' c)).2.2) (by simp only [aR,if_pos h4]) [_,_] rfl
 have h4n:¬ (cb s.blend (ip s a b' c)).2.2≠0:=λh=>h h4;obtain ⟨c1,c2⟩:=Hp h4;simp only [tu,h4,go_sem,simprocAttr];refine az (λ_=>?_) (λh=>by cases h);simp only [go_sem,simprocAttr];have hsd:=ph [.ns (cb s.blend (ip s a b' c)).1,.n (cb s.blend (ip s a b' c)).2.1] true (by simp) (λw hw=>by
  simp only [bw,eD,or_false] at hw;rcases hw with rfl | rfl
  .exact c1
  .exact c2)
 refine ae hsd rfl ?_;simp only [go_sem,simprocAttr];exact g7 (b':=b) (ex':=ex) (a:=joinL ([Word.ns (cb s.blend (ip s a b' c)).1,.n (cb s.blend (ip s a b' c)).2.1].flatMap Word.ws)) (by simp only [aR,if_neg h4n];rfl) [_,_] rfl
end Ch
theorem Hj {P} {f} {args args'} {h} {R} (K) (hl:args'.length=args.length)
  (ha:∀ (i:Nat) (a'),args'[i]?=some a'->args[i]?=some a'\/∃ a q,args[i]?=some a/\a'=.p q/\xV (eH (λi=>!K i) h) a=some q)
  (hc:aC P f args' (eH K h) R):aC P f args h R:=by
 intro M0 m w cargs hS hargs;have e0:=BG ⟨m,h,w⟩ K h.length;have hk:=yV hS K;have hargs':dM (Rep M0 (Mem.kill K ⟨m,h,w⟩)) cargs args':=by
  refine ⟨by rw [hargs.1,hl],λi a' hi=>?_⟩;rcases ha i a' hi with h1 | ⟨a,q,h1,rfl,h2⟩
  .exact e0.keep (hargs.2 i a' h1)
  .exact yX (S:=⟨m,h,w⟩) hS K (hargs.2 i a h1) h2
 have:=hc M0 (gC K m) w cargs hk hargs';refine ⟨this.1,this.2.mono λe w' hh=>?_⟩;obtain ⟨r,h',m',hR,hev,hk',hend⟩:=hh;have hlen:(eH K h).length=h.length:=by simp [eH]
 rw [hlen] at hev;exact ⟨r,h',m',hR,e0.trans hev,hk',hend⟩
theorem oG {n} {a} (h:dY n a):qa (·≠n) a:=by
 cases a<;>first | exact Ba h | exact trivial
theorem IC {n} {a} (h:fa n a):rA (·≠n) a:=by
 cases a<;>first | exact Ba h | exact trivial | exact ⟨λc hc=>oG (h.1 c hc),λc hc=>oG (h.2 c hc)⟩
theorem Rs {n} {a} (h:f' n a):sL (·≠n) a:=by
 cases a<;>first | exact Ba h | exact trivial | exact λc hc=>IC (h c hc) | exact ⟨λc hc=>oG (h.1 c hc),λc hc=>oG (h.2 c hc)⟩
theorem Ar {n} {a} (h:below n a):rB (·≠n) a:=by
 cases a<;>first | exact Ba h | exact trivial | exact λc hc=>Rs (h c hc) | exact λc hc=>IC (h c hc) | exact ⟨λc hc=>oG (h.1 c hc),λc hc=>oG (h.2 c hc)⟩
theorem CD {n} {o} (h:bi n o):pG (·≠n) o:=by
 cases o<;>first | exact trivial | exact λx hx=>Ar (h x hx) | exact λt=>Ar (h t) | exact oG h
theorem qy {T}:∀ (live) (t),(cY (ce T live []) t=T t/\t∈live)\/cY (ce T live []) t=.undef
 |[],t=>.inr rfl
 |x::r,t=>by
  unfold ce cY;by_cases h:t=x
  .subst h;rw [if_pos rfl];exact .inl ⟨rfl,by simp⟩
  .rw [if_neg h];rcases qy r t with ⟨h1,h2⟩ | h1
   .exact .inl ⟨h1,by simp [h2]⟩
   .exact .inr h1
theorem B9 {P} {H} {Q} {x} {A} (live) (i sz) (hi:A.bs<=i) (hb:A.bs<=A.h.length) (hx:A.h[i]?=some (.row 1 [.p .nilslice])) (hl:∀ t,t∈live->below A.h.length (A.tmps t)) (ho:∀ o,o∈A.h->bi A.h.length o) (hd:A.df=[])
  (k:@W ⟨P,H,.loop x,Q⟩ { n:=A.n,bs:=A.bs,rc:=A.rc,tmps:=cY (ce A.tmps live []),h:=A.h.set i (.row 1 [.slice A.h.length 0 0 0])++[.row sz []],df:=A.df }):@W ⟨P,H,.loop x,Q⟩ A:=by
 have hil:i<A.h.length:=(aE.1 hx).1
 have hw:=tS (P:=P) (A:={ A with h:=A.h++[.row sz []] }) (T:=cY (ce A.tmps live [])) A.h.length i sz 1 [.p .nilslice] [.slice A.h.length 0 0 0] hb hi (by simp) (by omega)
  (by rw [be hil];exact hx) rfl (λn x y h1 h2=>by
   match n,h1,h2 with
   |0,h1,h2 =>
    cases h1;cases h2;refine ⟨_,_,rfl,rfl,rfl,λj c d h3 h4=>?_⟩
    match j,h3,h4 with
    |0,h3,h4=>cases h3;cases h4;exact .inr ⟨rfl,rfl⟩
    |j+1,h3,h4=>cases h3
   |n+1,h1,h2=>simp at h1) (λt=>by
   rcases qy (T:=A.tmps) live t with ⟨h1,h2⟩ | h1
   .exact .inl ⟨h1,Ar (hl t h2)⟩
   .exact .inr h1) (λid o hid ho'=>by
   have hlt:id<A.h.length:=by
    have:=(aE.1 ho').1;simp at this;omega
   rw [be hlt] at ho'
   exact CD (ho o (aL ho'))) hd
 have e:((A.h++[AObj.row sz []]).set A.h.length (.row sz [])).set i (.row 1 [.slice A.h.length 0 0 0])=A.h.set i (.row 1 [.slice A.h.length 0 0 0])++[.row sz []]:=by
  rw [tP _ _ (bM _),El];show (A.h++[AObj.row sz []]).set i _=_;rw [Eh _ _ hil]
 refine fb (Et sz) (fb hw ?_);dsimp only;rw [e];exact k
namespace Ch
set_option maxRecDepth 4000
def cU (l:List (List UInt8)):AObj:=.row 1 [.p (bG l)]
theorem Av (w) (ws) (id) (h) (hid:h[id]?=some (cU (w::ws))) :
  aC TP 99 [.ptr id 1 0 0] h (λr h'=>r=.ret (.p (.str (bs w)))/\h'=h.set id (cU ws)):=by
 unfold cU bG at hid |-;have h0:(0:Int)<((ws.length+1:Nat):Int):=by omega
 have h0d:decide ((0:Int)<((ws.length+1:Nat):Int))=true:=decide_eq_true h0;refine aB (ai (by kernel_rfl) rfl TQ) rfl ?_;simp only [hid,h0d,go_sem,simprocAttr];refine az (λ_=>?_) (λh=>by cases h);have h1:(1:Int)<=((ws.length+1:Nat):Int):=by omega
 have htk:List.take (ws.length+1) (PV.str (bs w)::ws.map λx=>PV.str (bs x))=PV.str (bs w)::ws.map λx=>PV.str (bs x):=ga (by simp);simp only [hid,h0,h1,htk,go_sem,simprocAttr]
theorem ID (id) (h) (hid:h[id]?=some (cU [])) :
  aC TP 99 [.ptr id 1 0 0] h (λr h'=>r=.panic (gp 6)/\h'=h):=by
 unfold cU bG at hid;refine aB (ai (by kernel_rfl) rfl TQ) rfl ?_;simp only [hid,go_sem,simprocAttr];refine az (λh=>by cases h) (λ_=>?_);simp only [go_sem,simprocAttr]
def iX (id:Nat):AObj:=.row 1 [.func (.func 99) [] [.ptr id 1 0 0]]
theorem Zc (w) (ws) (id jd) (h) (hid:h[id]?=some (cU (w::ws))) (hjd:h[jd]?=some (iX id)) (hn:aV w=some w) :
  aC TP 100 [.ptr jd 1 0 0] h (λr h'=>r=.ret (.p (.str (bs w)))/\h'=h.set id (cU ws)):=by
 have hnm:nameOk (bs w)=true:=by
  unfold aV at hn;split at hn
  .assumption
  .cases hn
 unfold iX at hjd;refine aB (ai (by kernel_rfl) rfl Qg) rfl ?_;simp only [hjd,go_sem,simprocAttr];refine cy (Av w ws id h hid) ?_;simp only [go_sem,simprocAttr];refine ae (jE (bs w)) rfl ?_;simp only [hnm,go_sem,simprocAttr];refine az (λ_=>?_) (λh=>by cases h);simp only [go_sem,simprocAttr]
theorem Od {w v} (h:aV w=some v):v=w:=by
 unfold aV at h;split at h
 .cases h;rfl
 .cases h
theorem Ru (l) (id jd) (h) (hid:h[id]?=some (cU l)) (hjd:h[jd]?=some (iX id)) (hn:∀ w ws,l=w::ws->aV w=none) :
  aC TP 100 [.ptr jd 1 0 0] h (λr h'=>r=.panic (gp 6)/\∃ o,h'=h.set id o):=by
 unfold iX at hjd;refine aB (ai (by kernel_rfl) rfl Qg) rfl ?_;simp only [hjd,go_sem,simprocAttr]
 cases l with
 |nil =>
  refine tE (ID id h hid) ?_;simp only [go_sem,simprocAttr]
  exact ⟨_,(jz hid).symm⟩
 |cons w ws =>
  have hnm:nameOk (bs w)=false:=by
   have:=hn w ws rfl;unfold aV at this;split at this
   .cases this
   .rename_i h;simpa using h
  refine cy (Av w ws id h hid) ?_;simp only [go_sem,simprocAttr];refine ae (jE (bs w)) rfl ?_;simp only [hnm,go_sem,simprocAttr];refine az (λh=>by cases h) (λ_=>?_);simp only [go_sem,simprocAttr];exact ⟨_,rfl⟩
theorem LQ {w} {v} (h:bD w=some v):jB w=some v/\0<=v/\v<=10000000/\bH v=w:=by
 unfold bD at h;split at h
 .rename_i x hx;split at h
  .rename_i hc;cases h;exact ⟨hx,hc⟩
  .cases h
 .cases h
theorem Rt (w) (ws) (id jd) (h) (v) (hl:w.length<=1000000) (hid:h[id]?=some (cU (w::ws))) (hjd:h[jd]?=some (iX id)) (hn:bD w=some v) :
  aC TP 102 [.ptr jd 1 0 0] h (λr h'=>r=.ret (.p (.int .i64 v))/\h'=h.set id (cU ws)):=by
 obtain ⟨n1,n2,n3,n4⟩:=LQ hn;have hp:kE (bs w)=.tuple [.int .i64 v,.niliface]:=by
  unfold jB at n1;rw [kE,gq];cases ha:Lib.atoiAll w<;>rw [ha] at n1<;>first | cases n1;done | skip
  cases n1;rfl
 unfold iX at hjd;refine aB (ai (by kernel_rfl) rfl Qf) rfl ?_;simp only [hjd,go_sem,simprocAttr];refine cy (Av w ws id h hid) ?_;simp only [go_sem,simprocAttr];refine ae (Ed (bs w) (by rw [aq];omega)) rfl ?_;simp only [hp,n2,n3,go_sem,simprocAttr];refine ae (AN v n2 (by omega)) rfl ?_;have hb:(bs (bH v)==bs w)=true:=by rw [n4,cf];exact beq_self_eq_true _
 simp only [hb,go_sem,simprocAttr];refine az (λ_=>?_) (λh=>by cases h);simp only [go_sem,simprocAttr]
theorem Mo (l) (id jd) (h) (hl:∀ w,w∈l->w.length<=1000000) (hid:h[id]?=some (cU l)) (hjd:h[jd]?=some (iX id)) (hn:∀ w ws,l=w::ws->bD w=none) :
  aC TP 102 [.ptr jd 1 0 0] h (λr h'=>r=.panic (gp 6)/\∃ o,h'=h.set id o):=by
 unfold iX at hjd;refine aB (ai (by kernel_rfl) rfl Qf) rfl ?_;simp only [hjd,go_sem,simprocAttr]
 cases l with
 |nil =>
  refine tE (ID id h hid) ?_;simp only [go_sem,simprocAttr]
  exact ⟨_,(jz hid).symm⟩
 |cons w ws =>
  have hnw:=hn w ws rfl;have hlw:=hl w (by simp);refine cy (Av w ws id h hid) ?_;simp only [go_sem,simprocAttr];refine ae (Ed (bs w) (by rw [aq];omega)) rfl ?_
  cases hnl:jB w with
  |none =>
   have hx:∃ v,kE (bs w)=.tuple [.int .i64 v,.iface 309 .any]:=by
    unfold jB at hnl;rw [kE,gq];cases ha:Lib.atoiAll w<;>rw [ha] at hnl<;>first | cases hnl;done | exact ⟨_,rfl⟩
   obtain ⟨v,hx⟩:=hx;simp only [hx,go_sem,simprocAttr];refine az (λh=>by cases h) (λ_=>?_);simp only [go_sem,simprocAttr]
   exact ⟨_,rfl⟩
  |some v =>
   have hp:kE (bs w)=.tuple [.int .i64 v,.niliface]:=by
    unfold jB at hnl;rw [kE,gq];cases ha:Lib.atoiAll w<;>rw [ha] at hnl<;>first | cases hnl;done | skip
    cases hnl;rfl
   by_cases h0:0<=v;rotate_left
   .have h0':decide (0<=v)=false:=by simpa using h0
    simp only [hp,h0',go_sem,simprocAttr];refine az (λh=>by cases h) (λ_=>?_);simp only [go_sem,simprocAttr];exact ⟨_,rfl⟩
   by_cases h1:v<=10000000;rotate_left
   .have h1':decide (v<=10000000)=false:=by simpa using h1
    simp only [hp,h0,h1',go_sem,simprocAttr];refine az (λh=>by cases h) (λ_=>?_);simp only [go_sem,simprocAttr];exact ⟨_,rfl⟩
   simp only [hp,h0,h1,go_sem,simprocAttr];refine ae (AN v h0 (by omega)) rfl ?_;have hb:(bs (bH v)==bs w)=false:=by
    rw [cf]
    cases hd:(bH v==w) with
    |false=>rfl
    |true =>
     rw [bD,hnl] at hnw;simp only [h0,h1,true_and,eq_of_beq hd,if_true] at hnw;cases hnw
   simp only [hb,go_sem,simprocAttr];refine az (λh=>by cases h) (λ_=>?_);simp only [go_sem,simprocAttr];exact ⟨_,rfl⟩
theorem jY {H} {Q} {ops} {rest} {dst} {A} (l) (id jd) (hid:A.h[id]?=some (cU l)) (hjd:A.h[jd]?=some (iX id))
  (h1:∀ w ws,l=w::ws->aV w=some w->@WO ⟨TP,H,ops,rest,Q⟩ (A.put dst (.p (.str (bs w))) (A.h.set id (cU ws))))
  (h2:(∀ w ws,l=w::ws->aV w=none)->∀ o,@WQ ⟨Q⟩ (.panic (gp 6)) { A with h:=A.h.set id o }):@WF ⟨TP,H,ops,rest,Q,dst⟩ A 100 [.ptr jd 1 0 0]:=by
 by_cases hn:∀ w ws,l=w::ws->aV w=none
 .refine cq (Ru l id jd A.h hid hjd hn) (λv h hr=>by cases hr.1) (λv h hr=>?_);obtain ⟨e,o,rfl⟩:=hr;cases e;exact h2 hn o
 .cases l with
  |nil=>exact absurd (λw ws h=>by cases h) hn
  |cons w ws =>
   have hw:aV w=some w:=by
    cases hc:aV w with
    |none=>exact absurd (λw' ws' h=>by cases h;exact hc) hn
    |some v=>rw [Od hc]
   exact cy (Zc w ws id jd A.h hid hjd hw) (h1 w ws rfl hw)
theorem gL {H} {Q} {ops} {rest} {dst} {A} (l) (id jd) (hl:∀ w,w∈l->w.length<=1000000) (hid:A.h[id]?=some (cU l)) (hjd:A.h[jd]?=some (iX id))
  (h1:∀ w ws v,l=w::ws->bD w=some v->@WO ⟨TP,H,ops,rest,Q⟩ (A.put dst (.p (.int .i64 v)) (A.h.set id (cU ws))))
  (h2:(∀ w ws,l=w::ws->bD w=none)->∀ o,@WQ ⟨Q⟩ (.panic (gp 6)) { A with h:=A.h.set id o }):@WF ⟨TP,H,ops,rest,Q,dst⟩ A 102 [.ptr jd 1 0 0]:=by
 by_cases hn:∀ w ws,l=w::ws->bD w=none
 .refine cq (Mo l id jd A.h hl hid hjd hn) (λv h hr=>by cases hr.1) (λv h hr=>?_);obtain ⟨e,o,rfl⟩:=hr;cases e;exact h2 hn o
 .cases l with
  |nil=>exact absurd (λw ws h=>by cases h) hn
  |cons w ws =>
   cases hc:bD w with
   |none=>exact absurd (λw' ws' h=>by cases h;exact hc) hn
   |some v=>exact cy (Rt w ws id jd A.h v (hl w (by simp)) hid hjd hc) (h1 w ws v rfl hc)
end Ch
set_option maxRecDepth 100000
theorem KD (l p) (hl:l.length<1000000000) (hp:p.length<1000000000):ah TP 226 [.str (bs l),.str (bs p)] (.bool (decide (l.take p.length=p))):=by
 refine aa (ai (by kernel_rfl) rfl XA) rfl ?_;by_cases hle:p.length<=l.length
 .have e1:decide ((((bs p).size:Nat):Int)<=(((bs l).size:Nat):Int))=true:=by rw [aq,aq];simp;omega
  have e3:((((bs p).size:Nat):Int))<=(((bs l).size:Nat):Int):=by rw [aq,aq];omega
  have e4:(bs l).extract 0 (bs p).size=bs (l.take p.length):=by rw [cZ,nq,aq]
  have e5:(bs (l.take p.length)==bs p)=decide (l.take p.length=p):=by
   rw [cf,qX];simp
  simp only [e3,e4,e5,go_sem,simprocAttr]
 .have e1:decide ((((bs p).size:Nat):Int)<=(((bs l).size:Nat):Int))=false:=by rw [aq,aq];simp;omega
  have e2:decide (l.take p.length=p)=false:=by
   rw [decide_eq_false_iff_not];intro h;have:=congrArg List.length h;rw [tK] at this;omega
  simp only [e1,e2,go_sem,simprocAttr]
theorem BT (l p) (hl:l.length<1000000000) (hp:p.length<1000000000):ah TP 165 [.str (bs l),.str (bs p)] (.tuple [.str (bs (if l.take p.length=p then l.drop p.length else l)),.bool (decide (l.take p.length=p))]):=by
 refine aa (ai (by kernel_rfl) rfl Yh) rfl ?_;simp only [go_sem,simprocAttr];refine ae (KD l p hl hp) rfl ?_;by_cases h:l.take p.length=p
 .have hle:p.length<=l.length:=by
   have:=congrArg List.length h;rw [tK] at this;omega
  have e3:((((bs p).size:Nat):Int))<=(((bs l).size:Nat):Int):=by rw [aq,aq];omega
  have e4:(bs l).extract (bs p).size (bs l).size=bs (l.drop p.length):=by
   rw [cZ,aq,aq,qW]
  have e5:decide (l.take p.length=p)=true:=decide_eq_true h;simp only [e5,e3,e4,if_pos h,go_sem,simprocAttr]
 .have e5:decide (l.take p.length=p)=false:=decide_eq_false h;simp only [e5,if_neg h,go_sem,simprocAttr]
theorem KE (l p) (hl:l.length<1000000000) (hp:p.length<1000000000):ah TP 95 [.str (bs l),.str (bs p)] (.tuple [.str (bs (if l.take p.length=p then l.drop p.length else l)),.bool (decide (l.take p.length=p))]):=by
 refine aa (ai (by kernel_rfl) rfl zbl) rfl ?_;simp only [go_sem,simprocAttr];refine ae (BT l p hl hp) rfl ?_;simp only [go_sem,simprocAttr]
namespace Ch
set_option maxRecDepth 4000
def H7 (s:ChShop) (b:ChBooks) (ex:List PV) (t:Heap):Heap:=B7 s b ex++t
def jK (s:ChShop) (b:ChBooks) (ex:List PV) (t:Heap) (q:Except Int (ChBooks×List UInt8)) (r:AEnd) (h'':Heap):Prop:=∃ h' t',h''=h'++t'/\kr s b ex q r h'/\t'.length=t.length/\t'.take 3=t.take 3
theorem GL {s} {b} {ex} {q} {r} {h'} (h:kr s b ex q r h'):h'.length=7:=by
 unfold kr at h;split at h
 .rw [h.2];rfl
 .rcases h.2 with ⟨_,h⟩ | ⟨_,_,_,h⟩<;>rw [h]<;>rfl
theorem j1 {f} {args} {s} {b} {ex} {q} (hc:aC TP f args (B7 s b ex) (kr s b ex q)) (ha:∀ a,a∈args->below 7 a) (t):aC TP f args (H7 s b ex t) (jK s b ex t q):=by
 refine (ib (fo s b ex) ha (hc.mono λr h' hr=>⟨GL hr,hr⟩) t).mono λr h'' hr=>?_;obtain ⟨h',e,_,hr⟩:=hr;exact ⟨h',t,e,hr,rfl,rfl⟩
theorem ju {s} {b} {ex} {t} {q} {v} {h} (hr:jK s b ex t q (.ret v) h):∃ a,v=.p (.str (bs a)):=by
 obtain ⟨h',t',_,hp,_⟩:=hr;unfold kr at hp;split at hp
 .cases hp.1
 .rename_i b' a;cases hp.1;exact ⟨a,rfl⟩
theorem Zm (s) (b) (ex) (t) (n) (hs:SOk s) (hb:BkOk s b n) (i j) (text) (hi:(H7 s b ex t)[i]?=some (.row 1 [.ptr 2 1 0 0])) (hj:(H7 s b ex t)[j]?=some (.row 1 [.p (.str (bs text))])) :
  aC TP 96 [.ptr i 1 0 0,.ptr j 1 0 0] (H7 s b ex t) (jK s b ex t (aR s b (.test text))):=by
 refine aB (ai (by kernel_rfl) rfl zbk) rfl ?_;simp only [hi,hj,go_sem,simprocAttr];refine cq (j1 (Y9 s b ex n hs hb text) (by simp only [go_sem,simprocAttr]) t) (λv h hr=>?_) (λv h hr=>?_)
 .obtain ⟨a,rfl⟩:=ju hr;simp only [go_sem,simprocAttr];exact hr
 .simp only [go_sem,simprocAttr];exact hr
theorem Us (s) (b) (ex) (t) (n) (hs:SOk s) (hb:BkOk s b n) (i j) (w) (hi:(H7 s b ex t)[i]?=some (.row 1 [.ptr 2 1 0 0])) (hj:(H7 s b ex t)[j]?=some (.row 1 [.p (.str (bs w))])) :
  aC TP 108 [.ptr i 1 0 0,.ptr j 1 0 0] (H7 s b ex t) (jK s b ex t (aR s b (.drop w))):=by
 refine aB (ai (by kernel_rfl) rfl YZ) rfl ?_;simp only [hi,hj,go_sem,simprocAttr];refine cq (j1 (Zf s b ex n hs hb w) (by simp only [go_sem,simprocAttr]) t) (λv h hr=>?_) (λv h hr=>?_)
 .obtain ⟨a,rfl⟩:=ju hr;simp only [go_sem,simprocAttr];exact hr
 .simp only [go_sem,simprocAttr];exact hr
theorem Ur (s) (b) (ex) (t) (n) (hs:SOk s) (hb:BkOk s b n) (i j) (w) (hi:(H7 s b ex t)[i]?=some (.row 1 [.ptr 2 1 0 0])) (hj:(H7 s b ex t)[j]?=some (.row 1 [.p (.str (bs w))])) :
  aC TP 110 [.ptr i 1 0 0,.ptr j 1 0 0] (H7 s b ex t) (jK s b ex t (aR s b (.plan w))):=by
 refine aB (ai (by kernel_rfl) rfl YX) rfl ?_;simp only [hi,hj,go_sem,simprocAttr];refine cq (j1 (Ea s b ex n hs hb w) (by simp only [go_sem,simprocAttr]) t) (λv h hr=>?_) (λv h hr=>?_)
 .obtain ⟨a,rfl⟩:=ju hr;simp only [go_sem,simprocAttr];exact hr
 .simp only [go_sem,simprocAttr];exact hr
theorem Uq (s) (b) (ex) (t) (n) (hs:SOk s) (hb:BkOk s b n) (i j) (w) (hi:(H7 s b ex t)[i]?=some (.row 1 [.ptr 2 1 0 0])) (hj:(H7 s b ex t)[j]?=some (.row 1 [.p (.str (bs w))])) :
  aC TP 112 [.ptr i 1 0 0,.ptr j 1 0 0] (H7 s b ex t) (jK s b ex t (aR s b (.pour w))):=by
 refine aB (ai (by kernel_rfl) rfl YV) rfl ?_;simp only [hi,hj,go_sem,simprocAttr];refine cq (j1 (Zb s b ex n hs hb w) (by simp only [go_sem,simprocAttr]) t) (λv h hr=>?_) (λv h hr=>?_)
 .obtain ⟨a,rfl⟩:=ju hr;simp only [go_sem,simprocAttr];exact hr
 .simp only [go_sem,simprocAttr];exact hr
theorem Ux (s) (b) (ex) (t) (n) (hs:SOk s) (hb:BkOk s b n) (i j k l m) (name colour lot) (grams) (hi:(H7 s b ex t)[i]?=some (.row 1 [.ptr 2 1 0 0])) (hj:(H7 s b ex t)[j]?=some (.row 1 [.p (.str (bs name))]))
  (hk:(H7 s b ex t)[k]?=some (.row 1 [.p (.str (bs colour))])) (hl:(H7 s b ex t)[l]?=some (.row 1 [.p (.str (bs lot))])) (hm:(H7 s b ex t)[m]?=some (.row 1 [.p (.int .i64 grams)])) :
  aC TP 106 [.ptr i 1 0 0,.ptr j 1 0 0,.ptr k 1 0 0,.ptr l 1 0 0,.ptr m 1 0 0] (H7 s b ex t) (jK s b ex t (aR s b (.batch name colour lot grams))):=by
 refine aB (ai (by kernel_rfl) rfl Y0) rfl ?_;simp only [hi,hj,hk,hl,hm,go_sem,simprocAttr];refine cq (j1 (Ub s b ex n hs hb name colour lot grams) (by simp only [go_sem,simprocAttr]) t) (λv h hr=>?_) (λv h hr=>?_)
 .obtain ⟨a,rfl⟩:=ju hr;simp only [go_sem,simprocAttr];exact hr
 .simp only [go_sem,simprocAttr];exact hr
theorem zcA (s) (b) (ex) (t) (n) (hs:SOk s) (hb:BkOk s b n) (i j k) (kind) (hours) (hi:(H7 s b ex t)[i]?=some (.row 1 [.ptr 2 1 0 0])) (hj:(H7 s b ex t)[j]?=some (.row 1 [.p (.str (bs kind))]))
  (hk:(H7 s b ex t)[k]?=some (.row 1 [.p (.int .i64 hours)])) :
  aC TP 116 [.ptr i 1 0 0,.ptr j 1 0 0,.ptr k 1 0 0] (H7 s b ex t) (jK s b ex t (aR s b (.box kind hours))):=by
 refine aB (ai (by kernel_rfl) rfl YR) rfl ?_;simp only [hi,hj,hk,go_sem,simprocAttr];refine cq (j1 (zcx s b ex n hs hb kind hours) (by simp only [go_sem,simprocAttr]) t) (λv h hr=>?_) (λv h hr=>?_)
 .obtain ⟨a,rfl⟩:=ju hr;simp only [go_sem,simprocAttr];exact hr
 .simp only [go_sem,simprocAttr];exact hr
theorem Zl (s) (b) (ex) (t) (n) (hs:SOk s) (hb:BkOk s b n) (i j k) (kind) (a b' c d) (hi:(H7 s b ex t)[i]?=some (.row 1 [.ptr 2 1 0 0])) (hj:(H7 s b ex t)[j]?=some (.row 1 [.p (.str (bs kind))]))
  (hk:(H7 s b ex t)[k]?=some (.row 4 [.p (.agg [.int .i64 a,.int .i64 b',.int .i64 c,.int .i64 d])])) :
  aC TP 119 [.ptr i 1 0 0,.ptr j 1 0 0,.ptr k 1 0 0] (H7 s b ex t) (jK s b ex t (aR s b (.wick kind a b' c d))):=by
 refine aB (ai (by kernel_rfl) rfl YO) rfl ?_;simp only [hi,hj,hk,go_sem,simprocAttr];refine cq (j1 (Y8 s b ex n hs hb kind a b' c d) (by simp only [go_sem,simprocAttr]) t) (λv h hr=>?_) (λv h hr=>?_)
 .obtain ⟨a,rfl⟩:=ju hr;simp only [go_sem,simprocAttr];exact hr
 .simp only [go_sem,simprocAttr];exact hr
theorem Uw (s) (b) (ex) (t) (n) (hs:SOk s) (hb:BkOk s b n) (i k) (a b' c) (hi:(H7 s b ex t)[i]?=some (.row 1 [.ptr 2 1 0 0]))
  (hk:(H7 s b ex t)[k]?=some (.row 3 [.p (.agg [.int .i64 a,.int .i64 b',.int .i64 c])])) :
  aC TP 121 [.ptr i 1 0 0,.ptr k 1 0 0] (H7 s b ex t) (jK s b ex t (aR s b (.blend a b' c))):=by
 refine aB (ai (by kernel_rfl) rfl YM) rfl ?_;simp only [hi,hk,go_sem,simprocAttr];refine cq (j1 (FG s b ex n hs hb a b' c) (by simp only [go_sem,simprocAttr]) t) (λv h hr=>?_) (λv h hr=>?_)
 .obtain ⟨a,rfl⟩:=ju hr;simp only [go_sem,simprocAttr];exact hr
 .simp only [go_sem,simprocAttr];exact hr
theorem OS (s) (b) (ex) (t) (n) (hs:SOk s) (hb:BkOk s b n) (i j) (kind) (hi:(H7 s b ex t)[i]?=some (.row 1 [.ptr 2 1 0 0])) (hj:(H7 s b ex t)[j]?=some (.row 1 [.p (.str (bs kind))])) :
  aC TP 114 [.ptr i 1 0 0,.ptr j 1 0 0] (H7 s b ex t) (jK s b ex t (aR s b (.promise kind))):=by
 have hp:=yh s b ex n hs hb kind;have hfr:∀ {R:AEnd->Heap->Prop},aC TP 115 [.ptr 2 1 0 0,.p (.str (bs kind))] (B7 s b ex) (λr h'=>R r h'/\h'=B7 s b ex)->aC TP 115 [.ptr 2 1 0 0,.p (.str (bs kind))] (H7 s b ex t) (λr h'=>h'=H7 s b ex t/\R r (B7 s b ex)):=λ{R} hc=>by
  refine (ib (fo s b ex) (by simp only [go_sem,simprocAttr]) (hc.mono λr h' hr=>⟨by rw [hr.2],hr⟩) t).mono λr h'' hr=>?_;obtain ⟨h',e,_,hr,e2⟩:=hr;subst e2;exact ⟨e,hr⟩
 refine aB (ai (by kernel_rfl) rfl YT) rfl ?_;simp only [hi,hj,go_sem,simprocAttr]
 cases hq:gb s b kind with
 |error e =>
  refine cq (hfr (hp.1 e hq)) (λv h hr=>by cases hr.2) (λv h hr=>?_);obtain ⟨rfl,hr⟩:=hr;cases hr;simp only [go_sem,simprocAttr]
  exact ⟨_,t,rfl,by simp only [aR,hq];exact ⟨rfl,rfl⟩,rfl,rfl⟩
 |ok q =>
  obtain ⟨k,m⟩:=q;obtain ⟨hm,hc⟩:=hp.2 k m hq;refine cq (hfr hc) (λv h hr=>?_) (λv h hr=>by cases hr.2);obtain ⟨rfl,hr⟩:=hr;cases hr;simp only [go_sem,simprocAttr];have hsd:=ph [.n m] true (by simp) (λw hw=>by
   simp only [bw,eD,or_false] at hw;subst hw
   exact ⟨hm.1,by omega⟩)
  refine ae hsd rfl ?_;simp only [go_sem,simprocAttr];exact ⟨_,t,rfl,by simp only [aR,hq];exact ⟨rfl,.inl ⟨_,rfl⟩⟩,rfl,rfl⟩
theorem zcz (s) (b) (ex) (t) (n) (hs:SOk s) (hb:BkOk s b n) (i j k l m r) (name kind) (grams) (rs) (hrs:rs.length<1000000000) (hi:(H7 s b ex t)[i]?=some (.row 1 [.ptr 2 1 0 0])) (hj:(H7 s b ex t)[j]?=some (.row 1 [.p (.str (bs name))]))
  (hk:(H7 s b ex t)[k]?=some (.row 1 [.p (.str (bs kind))])) (hl:(H7 s b ex t)[l]?=some (.row 1 [.p (.int .i64 grams)])) (hm:(H7 s b ex t)[m]?=some (.row 1 [.slice r rs.length 0 rs.length])) (hr7:10<=r) (hr:(H7 s b ex t)[r]?=some (.row 1 (rs.map λv=>.p (aK v)))) :
  aC TP 104 [.ptr i 1 0 0,.ptr j 1 0 0,.ptr k 1 0 0,.ptr l 1 0 0,.ptr m 1 0 0] (H7 s b ex t) (jK s b ex t (aR s b (.lot name kind grams rs))):=by
 have hcall:aC TP 105 [.ptr 2 1 0 0,.p (.str (bs name)),.p (.str (bs kind)),.p (.int .i64 grams),.slice r rs.length 0 rs.length] (H7 s b ex t) (jK s b ex t (aR s b (.lot name kind grams rs))):=by
  have e:eH (λx=>x==r) (H7 s b ex t)=H7 s b ex (t.set (r-7) .dead):=by
   rw [Fz];unfold H7;rw [tP _ _ (show (B7 s b ex).length<=r by show 7<=r;omega)];rfl
  refine Hj (args':=[.ptr 2 1 0 0,.p (.str (bs name)),.p (.str (bs kind)),.p (.int .i64 grams),.p (.slice 1 (rs.map aK) false)]) (λx=>x==r) rfl (λx a' hx=>?_) ?_
  .match x,hx with
   |0,hx=>exact .inl hx
   |1,hx=>exact .inl hx
   |2,hx=>exact .inl hx
   |3,hx=>exact .inl hx
   |4,hx =>
    cases hx;refine .inr ⟨_,_,rfl,rfl,?_⟩;have hk:(eH (λi=>!(i==r)) (H7 s b ex t))[r]?=some (.row 1 (rs.map λv=>.p (aK v))):=by rw [nQ (by simp)];exact hr
    have hf:∀ (n:Nat) (h:Heap),aU (ci n h) (rs.map λv=>.p (aK v))=some (rs.map aK):=λn h=>dq (er n h) aK rs;unfold xV ci;rw [hk];simp only [mi,hf];rw [if_pos (by simp)];show some (PV.slice 1 (List.drop 0 (List.take (0+rs.length) (rs.map aK))) false)=_
    rw [nq,ga (by simp)]
   |n+5,hx=>simp at hx
  .rw [e];refine (j1 (zcw s b ex n hs hb name kind grams rs hrs) (by simp only [go_sem,simprocAttr]) _).mono λx h' hx=>?_;obtain ⟨h1,t1,e1,p1,l1,k1⟩:=hx;refine ⟨h1,t1,e1,p1,by rw [l1,zp],by rw [k1];exact List.take_set_of_le (by omega)⟩
 refine aB (ai (by kernel_rfl) rfl Y1) rfl ?_;simp only [hi,hj,hk,hl,hm,go_sem,simprocAttr];refine cq hcall (λv h hr=>?_) (λv h hr=>?_)
 .obtain ⟨a,rfl⟩:=ju hr;simp only [go_sem,simprocAttr];exact hr
 .simp only [go_sem,simprocAttr];exact hr
end Ch
end Abs
end Go.Proofs.YtfafnkpfamgbbaaGreatDoor
