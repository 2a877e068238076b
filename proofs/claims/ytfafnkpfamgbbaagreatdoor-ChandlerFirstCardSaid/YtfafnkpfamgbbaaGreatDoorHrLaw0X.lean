/-
  CONTRACTS: the helpers of the laws of layer 9: the examples, and that they are answered as
  CONTRACTS: the laws HourKept and HourRules. No conditions but those in the theorems' heads
  CONTRACTS: chandler: promise, box, stock. No conditions but those in the theorems' heads.
  CONTRACTS: chandler: best, plan, pour. No conditions but those in the theorems' heads.
-/
import Derived.Test.YtfafnkpfamgbbaaGreatDoorAbsCutX
import Derived.Test.YtfafnkpfamgbbaaGreatDoorChBkX
set_option linter.unusedSimpArgs false
set_option linter.unusedVariables false
open Go.Proofs.Tryz renaming prog->TP
namespace Go.Proofs.YtfafnkpfamgbbaaGreatDoor
namespace Abs
set_option maxRecDepth 100000
theorem I7 (t):PL (cM t) t.pv:=by
 cases t with
 |mk k e ms =>
  cases ms with
  |nil=>exact Ou k e
  |cons m ms=>exact .refl _
theorem H8 (s) (all):ah TP 166 [s.pv,.str (bs all)] (.tuple [(aM s all).1.pv,.int .i64 (aM s all).2]) :=
 (Gx s all).lessD (PL.tupleL ⟨I7 _,.refl _,trivial⟩)
theorem Pp (a c:List Int) (b1 b2) (ha:a.length<1000000000):ah TP 36 [.slice 1 (a.map aJ) b1,.slice 1 (c.map aJ) b2] (.bool (a==c)):=by
 refine aa (ai (by kernel_rfl) rfl YX) rfl ?_;simp only [go_sem,simprocAttr];refine aW (λhb=>?_) (λhb=>?_)<;>simp only [hb,go_sem,simprocAttr]
 .have:¬ (a=c):=λh=>by subst h;simp at hb
  simp [this]
 have hlen:a.length=c.length:=by simp [bne] at hb;omega
 refine dQ [0,1] a ha (τ:=Unit) (λdone rest _=>c.take done.length=done) (λdone _=>[(5,.p (.int .i64 done.length))]) () (by simp) ?_ ?_ ?_
 .simp only [go_sem,simprocAttr]<;>simp
 .intro _ e2;rw [fx (by omega)] at e2;subst e2;simp only [go_sem,simprocAttr];simp
 .intro done x rest _ e1 e2 hx hlt hnx;have hlt2:(done.length:Int)<(c.length:Int):=by omega
  obtain ⟨y,hy⟩:∃ y,c[done.length]?=some y:=⟨_,b6 (by omega)⟩
  simp only [hlt,hlt2,hx,hy,go_sem,simprocAttr];refine aW (λhb=>?_) (λhb=>?_)<;>simp only [hb,go_sem,simprocAttr]
  .have:¬ (a=c):=λh=>by
    subst h;rw [hx] at hy;cases hy;simp at hb
   simp [this]
  .have hxy:x=y:=by simpa using hb
   refine aL e1 () (by rw [aP,bu,wz,e2,hy,hxy];rfl) ?_;simp only [hnx,go_sem,simprocAttr]
theorem Ph (a b):ah TP 81 [.int .i64 a,.int .i64 b] (.agg [.int .i64 a,.int .i64 b]):=by
 refine aa (ai (by kernel_rfl) rfl YG) rfl ?_;simp only [go_sem,simprocAttr]
def BT:HrShop:=⟨[⟨⟨#[97,108,116,97,114]⟩,⟨100000,101000⟩,1000⟩],[⟨⟨#[99,104,117,114,99,104]⟩,⟨1200,2000⟩,⟨90000,110000⟩⟩,⟨⟨#[108,97,109,112]⟩,⟨1400,2000⟩,⟨0,10000000⟩⟩],100⟩
theorem dm:∀ l,y5 l l
 |[]=>trivial
 |x::l=>⟨.refl x,dm l⟩
theorem Ww:ah TP 51 [] BT.pv:=by
 refine ah.lessD (q:=.agg [.slice 4 (BT.kinds.map HrKind.pv) true,.slice 5 (BT.rules.map HrRule.pv) true,.int .i64 100]) ?_ (PL.aggL rfl ⟨PL.sliceL rfl (dm _),PL.sliceL rfl (dm _),.refl _,trivial⟩);refine aa (ai (by kernel_rfl) rfl YQ) rfl ?_;simp only [go_sem,simprocAttr];repeat' (refine ae (Ph _ _) rfl ?_;simp only [go_sem,simprocAttr])
 exact ⟨rfl,rfl⟩
theorem Bo {x} (hx:HrKOk x):0<=x.promise/\x.promise<=16666/\x.promise*x.rates.hi<=x.k.weight.lo-x.k.rest/\(x.promise<16666->x.k.weight.lo-x.k.rest<x.rates.hi*(x.promise+1)):=by
 have hk:=hx.k;have h1:=hk.lo;have h4:=hk.rest;have h5:=hk.less;have h6:=hx.pos;have h7:=hx.hi
 have hd:=Frac.down_le (f:=⟨x.least.top,x.least.below*60⟩) (show (0:Int)<x.rates.hi*60 by omega);simp only [HrK.least] at hd;have e:∀ n:Int,n*(x.rates.hi*60)=n*x.rates.hi*60:=λn=>(tC _ _ _).symm;have key:∀ n:Int,n<=Frac.down ⟨60*(x.k.weight.lo-x.k.rest),x.rates.hi*60⟩↔n*x.rates.hi<=x.k.weight.lo-x.k.rest:=by
  intro n;rw [hd n,e n];omega
 rw [HrK.promise,HrK.least];dsimp only;generalize hD:Frac.down ⟨60*(x.k.weight.lo-x.k.rest),x.rates.hi*60⟩=D at key |-;have k0:0<=D:=(key 0).2 (by omega);have k1:=(key D).1 (tm _);have k2:¬ (D+1)*x.rates.hi<=x.k.weight.lo-x.k.rest:=λh=>by have:=(key (D+1)).2 h;omega
 split
 .refine ⟨k0,by omega,k1,λ_=>?_⟩;rw [u0];omega
 .refine ⟨by omega,by omega,(key _).1 (by omega),λh=>by omega⟩
def Q0 (l:List HrTest) (k w r:Int):PV:=.agg [.slice 3 (l.map HrTest.pv) false,.int .u8 k,.int .u32 w,.int .u32 r]
attribute [go_sem] Q0
namespace Ch
set_option maxRecDepth 4000
structure SOk (s:ChShop):Prop where
 wax:(Wx.wxCheck s.wax).2.2=0
 blend:(bdCheck s.blend).2.2=0
 wick:Wk.shopErr s.wick=0
 hour:(hrCheck s.hour).2.2=0
 colour:(Cl.clCheck s.colour).2.2=0
theorem SOk.kinds {s} (h:SOk s):s.hour.kinds.length<1000000000:=by
 have h:=h.hour;unfold hrCheck at h;split at h
 .rename_i h1;simp [az] at h1;omega
 .cases h
theorem Bn {s} {l} {k} (h:(dH s l k).2=0):0<=(dH s l k).1/\(dH s l k).1<=16666:=by
 unfold dH at h |-;split at h
 .rename_i h0;rw [if_pos h0];have:=Bo (uq h0).1;exact ⟨this.1,this.2.1⟩
 .rename_i h0;exact absurd h h0
def IB (s:ChShop) (b:ChBooks) (ex:List PV) (q:Except Int (Int×Int)) (r:AEnd) (h':Heap):Prop :=
 h'=B7 s b ex/\r=match q with | .error e=>.panic (fo e) | .ok (k,n)=>.ret (.p (.tuple [.int .i64 k,.int .i64 n]))
theorem Do (s) (b) (ex) (n) (hs:SOk s) (hb:BkOk s b n) (kind):ay TP 115 [.ptr 2 1 0 0,.p (.str (bs kind))] (B7 s b ex)
  (IB s b ex (fh s b kind)):=by
 have hk9:=hs.kinds;refine bv (ai (by kernel_rfl) rfl VT) rfl ?_;simp only [ChShop.cells,go_sem,simprocAttr];by_cases h0:au (λx:HrKind=>x.name==bs kind) s.hour.kinds 0<0
 .refine qb (QH s.hour.kinds (bs kind) false hk9 h0) rfl (lI _) ?_;simp only [fh,if_pos h0,go_sem,simprocAttr];exact ⟨_,[],(bF _).symm,rfl,eB s b ex,trivial,rfl,rfl⟩
 refine ae (RP s.hour.kinds (bs kind) false hk9 (by omega)) rfl ?_;simp only [go_sem,simprocAttr];refine P7 (Mq s.hour b.tests (au (λx:HrKind=>x.name==bs kind) s.hour.kinds 0)) ?_ (.tuple (Flat.cons (.int _ _) (Flat.cons (.int _ _) Flat.nil))) ?_
 .simp only [go_sem,simprocAttr]
 simp only [go_sem,simprocAttr];by_cases h1:(dH s.hour b.tests (au (λx:HrKind=>x.name==bs kind) s.hour.kinds 0)).2=0
 .simp only [h1,go_sem,simprocAttr];refine aq (λ_=>?_) (λh=>by cases h);simp only [fh,if_neg h0,go_sem,simprocAttr];exact ⟨_,[],(bF _).symm,rfl,eB s b ex,trivial,rfl,by simp only [h1];rfl⟩
 .have h1':((dH s.hour b.tests (au (λx:HrKind=>x.name==bs kind) s.hour.kinds 0)).2==0)=false:=by simpa using h1
  simp only [h1',go_sem,simprocAttr];refine aq (λh=>by cases h) (λ_=>?_);simp only [fh,if_neg h0,if_pos h1,go_sem,simprocAttr];exact ⟨_,[],(bF _).symm,rfl,eB s b ex,trivial,rfl,rfl⟩
theorem wt (s) (b) (ex) (n) (hs:SOk s) (hb:BkOk s b n) (kind) :
  (∀ e,fh s b kind=.error e->ay TP 115 [.ptr 2 1 0 0,.p (.str (bs kind))] (B7 s b ex) (λr h'=>r=.panic (fo e)/\h'=B7 s b ex)) /\
  (∀ k n,fh s b kind=.ok (k,n)->(0<=n/\n<=16666)/\ay TP 115 [.ptr 2 1 0 0,.p (.str (bs kind))] (B7 s b ex) (λr h'=>r=.ret (.p (.tuple [.int .i64 k,.int .i64 n]))/\h'=B7 s b ex)):=by
 refine ⟨λe he=>(Do s b ex n hs hb kind).mono λr h' hr=>?_,λk m hk=>⟨?_,(Do s b ex n hs hb kind).mono λr h' hr=>?_⟩⟩
 .unfold IB at hr;rw [he] at hr;exact ⟨hr.2,hr.1⟩
 .unfold fh at hk;dsimp only at hk;split at hk
  .cases hk
  .split at hk
   .cases hk
   .rename_i _ h2;cases hk;exact Bn (by simpa using h2)
 .unfold IB at hr;rw [hk] at hr;exact ⟨hr.2,hr.1⟩
theorem rR {P} {H} {Q} {ops} {rest} {dst} {A} {f} {args} {e} (hc:ay P f args A.h (λr h'=>r=.panic e/\h'=A.h))
  (h2:@WQ ⟨Q⟩ (.panic e) A):@WF ⟨P,H,ops,rest,Q,dst⟩ A f args :=
 bW hc (λv h hr=>by cases hr.1) (λv h hr=>by obtain ⟨e,rfl⟩:=hr;cases e;exact h2)
theorem Zf (s) (b) (ex) (n) (hs:SOk s) (hb:BkOk s b n) (kind) (hours):ay TP 117 [.ptr 2 1 0 0,.p (.str (bs kind)),.p (.int .i64 hours)] (B7 s b ex) (jz s b ex (aU s b (.box kind hours))):=by
 have hp:=wt s b ex n hs hb kind;have hl:=hb.boxes;refine bv (ai (by kernel_rfl) rfl VR) rfl ?_;simp only [ChShop.cells,go_sem,simprocAttr]
 cases hq:fh s b kind with
 |error e =>
  refine rR (hp.1 e hq) ?_;simp only [go_sem,simprocAttr]
  exact cL (e:=e) (by simp only [aU,hq]) [] (bF _).symm
 |ok q =>
  obtain ⟨k,m⟩:=q;refine b9 (v:=.p (.tuple [.int .i64 k,.int .i64 m])) (h':=B7 s b ex) (hp.2 k m hq).2 ?_;simp only [go_sem,simprocAttr];refine aq (λh1=>?_) (λh1=>?_);rotate_left
  .have h1':¬ hours<=m:=by simpa using h1
   simp only [go_sem,simprocAttr];exact cL (e:=9) (by simp only [aU,hq,if_pos h1']) [] (bF _).symm
  have h1':hours<=m:=by simpa using h1
  simp only [go_sem,simprocAttr];have h1n:¬ ¬ hours<=m:=λh=>h h1';refine aq (λh2=>?_) (λh2=>?_);rotate_left
  .have h2':¬ b.boxes.length<20:=by simp at h2;omega
   simp only [go_sem,simprocAttr];exact cL (e:=3) (by simp only [aU,hq,if_neg h1n,if_pos h2']) [] (bF _).symm
  have h2':b.boxes.length<20:=by simp at h2;omega
  have h2n:¬ ¬ b.boxes.length<20:=λh=>h h2';have hrm:b.boxes.length+1<=aB:=by simp only [aB];omega
  simp only [hrm,go_sem,simprocAttr];exact gc (b':={ b with boxes:=b.boxes++[⟨k,hours⟩] }) (ex':=ex) (a:=Ai) (by simp only [aU,hq,if_neg h1n,if_neg h2n]) [] (by simp only [aP,bu,cp,bQ,cO,bF,rd,go_sem,simprocAttr])
def jB (x:ChLot):List Word:=[.s (bl x.name),.n x.grams]
def ql (w:Word):AV:=.p w.pv
theorem Gh (n) (h) (l:List Word):aO (bV n h) (l.map ql)=some (l.map Word.pv):=cZ (dO n h) Word.pv l
theorem R0 (n) (x):below n (kj x)=True:=eq_true trivial
theorem My (n) (x):below n (cj x)=True:=eq_true trivial
theorem PH (n) (x):below n (nC x)=True:=eq_true trivial
theorem R1 (n) (x):below n (rd x)=True:=eq_true trivial
theorem PG (n) (x):below n (ql x)=True:=eq_true trivial
attribute [go_sem] Gh R0 My PH R1 PG
theorem tL (l:List ChLot):(l.flatMap jB).length=2*l.length:=by
 induction l with
 |nil=>rfl
 |cons x r ih=>rw [qh,aP,ih];simp [jB];omega
theorem Lg (l:List ChLot):(l.flatMap jB).flatMap Word.ws=l.flatMap λx=>[bl x.name,bO x.grams]:=by
 rw [List.flatMap_assoc];rfl
theorem Q6 (s) (b) (ex) (n) (hs:SOk s) (hb:BkOk s b n):ay TP 123 [.ptr 2 1 0 0] (B7 s b ex) (jz s b ex (aU s b .stock)):=by
 have hl:=hb.lots;refine bv (ai (by kernel_rfl) rfl VL) rfl ?_;simp only [ChShop.cells,go_sem,simprocAttr];refine et 3 1 (by simp only [go_sem,simprocAttr]) ?_;simp only [go_sem,simprocAttr];refine bT [10,11] b.lots (by omega) (τ:=Unit) (λdone rest _=>True) (λdone _=>[(3,.slice 7 (done.flatMap jB).length 0 (done.flatMap jB).length),(12,.p (.int .i64 done.length))]) (λdone _=>B7 s b ex++[.row 1 ((done.flatMap jB).map ql)]) () trivial ?_ ?_ ?_
 .simp only [ChShop.cells,ww,go_sem,simprocAttr]
 .intro _ _;by_cases h0:b.lots=[]
  .have hz:(((b.lots.flatMap jB).length:Int)==0)=true:=by rw [h0];rfl
   simp only [ChShop.cells,hz,go_sem,simprocAttr];exact gc (b':=b) (ex':=ex) (a:=Nh) (by simp only [aU,if_pos h0]) [_] rfl
  .have hz:(((b.lots.flatMap jB).length:Int)==0)=false:=by
    rw [beq_eq_false_iff_ne,tL];intro h;exact h0 (rT (by omega))
   simp only [ChShop.cells,hz,go_sem,simprocAttr];have hsd:=nH (b.lots.flatMap jB) false (by rw [tL];omega) (λw hw=>by
    obtain ⟨x,hx,hw⟩:=xu.1 hw;have h1:=hb.grams x hx;have h2:=hb.names x hx;have h3:=hb.few;have h4:(100000:Int)*(n+1)<=100000*41:=by omega
    simp only [jB,cz,eQ,or_false] at hw;rcases hw with rfl | rfl
    .show (bl x.name).length<=1000;unfold bl;have:x.name.data.toList.length=x.name.size:=by show x.name.data.toList.length=x.name.data.size;exact r6
     omega
    .exact ⟨h1.1,by omega⟩)
   refine bh hsd ?_ (.str _) ?_
   .simp only [go_sem,simprocAttr]
   simp only [go_sem,simprocAttr];refine gc (b':=b) (ex':=ex) (a:=joinL ((b.lots.flatMap jB).flatMap Word.ws)) (by rw [Lg,aU,if_neg h0]) [_] rfl
 .intro done w r _ e1 _ hx hlt hnx;have hA:kj w=.p w.pv:=rfl;have hdl:=tL done;have hrm:2*done.length+2<=aB:=by rw [e1] at hl;simp at hl;simp only [aB];omega
  simp only [ChShop.cells,hlt,hx,hA,hdl,hrm,go_sem,simprocAttr];refine aL e1 () trivial ?_;simp only [hnx,tB,qh,ww,jB,aP,cp,bF,ql,Word.pv,Ih,bQ,cO,go_sem,simprocAttr];rw [hdl]
theorem SOk.colours {s} (h:SOk s):s.colour.colours.length<1000000000:=by
 have:=(Cl.va h.colour).len;omega
def Gp (x:ClBatch):AV:=.p x.pv
theorem Wj (n) (h) (l:List ClBatch):aO (bV n h) (l.map Gp)=some (l.map ClBatch.pv):=cZ (dO n h) ClBatch.pv l
theorem WK (n) (x):below n (Gp x)=True:=eq_true trivial
attribute [go_sem] Wj WK
def jA (l:List ChBatch):List ClBatch:=l.map λx=>⟨x.colour,x.grams⟩
theorem JY (s) (b) (ex) (n) (hs:SOk s) (hb:BkOk s b n) (c) (o) (m) (hq:kP s b c=.ok (o,m)) :
  ay TP 186 [.ptr 2 1 0 0,.p (.str (bs c))] (B7 s b ex) (λr h'=>r=.ret (.p (.tuple [.slice 1 (o.map Cl.oW) false,.int .i64 m]))/\h'=B7 s b ex):=by
 have hl:=hb.batches;have hc9:=hs.colours;unfold kP at hq;dsimp only at hq;split at hq
 .cases hq
 rename_i h0;split at hq
 .cases hq
 rename_i h1;have h1':Cl.dg s.colour (au (λx:ClColour=>x.name==bs c) s.colour.colours 0) (d7 b)=0:=by simpa using h1
 split at hq
 .cases hq
 rename_i q h2;cases hq;refine nX (ai (by kernel_rfl) rfl Nw) rfl ?_;simp only [ChShop.cells,go_sem,simprocAttr];refine ae (Kl s.colour.colours (bs c) false hc9 (by omega)) rfl ?_;simp only [go_sem,simprocAttr];refine et 7 2 (by simp only [go_sem,simprocAttr]) ?_;simp only [go_sem,simprocAttr];refine bT [0,6,25,26] b.batches (by omega) (τ:=Unit) (λdone rest _=>True) (λdone _=>[(7,.slice 7 done.length 0 done.length),(27,.p (.int .i64 done.length))]) (λdone _=>B7 s b ex++[.row 2 ((jA done).map Gp)]) () trivial ?_ ?_ ?_
 .simp only [ChShop.cells,jA,cO,go_sem,simprocAttr]
 .intro _ _;have hw:jA b.batches=d7 b:=rfl;have hwl:(d7 b).length=b.batches.length:=by simp only [d7,fY]
  have hB:=Cl.NE s.colour (au (λx:ClColour=>x.name==bs c) s.colour.colours 0) (d7 b) (by rw [hwl];omega);rw [Cl.qF,if_pos h1',h2] at hB;simp only [ChShop.cells,hw,go_sem,simprocAttr];refine uR hB ?_ ?_
  .simp only [hwl,go_sem,simprocAttr];rw [fx (by rw [fY,hwl];exact bR _)]
  simp only [go_sem,simprocAttr];refine aq (λ_=>?_) (λh=>by cases h);simp only [go_sem,simprocAttr]
 .intro done w r _ e1 _ hx hlt hnx;have hx':=uM hx ex;have hrm:done.length+1<=aB:=by rw [e1] at hl;simp at hl;simp only [aB];omega
  have hwd:(jA done).length=done.length:=by simp [jA]
  simp only [ChShop.cells,hlt,hx',hrm,hwd,go_sem,simprocAttr];refine aL e1 () trivial ?_;simp only [hnx,jA,aP,cp,bQ,cO,Gp,ClBatch.pv,go_sem,simprocAttr]
def WT (s:ChShop) (b:ChBooks) (ex:List PV) (e:Int) (r:AEnd) (h':Heap):Prop:=r=.panic (fo e)/\h'=B7 s b ex
theorem JZ (s) (b) (ex) (n) (hs:SOk s) (hb:BkOk s b n) (c) (e) (hq:kP s b c=.error e) :
  ay TP 186 [.ptr 2 1 0 0,.p (.str (bs c))] (B7 s b ex) (WT s b ex e):=by
 have hl:=hb.batches;have hc9:=hs.colours;refine bv (ai (by kernel_rfl) rfl Nw) rfl ?_;simp only [ChShop.cells,go_sem,simprocAttr];by_cases h0:au (λx:ClColour=>x.name==bs c) s.colour.colours 0<0
 .have he:e=4:=by
   unfold kP at hq;dsimp only at hq;rw [if_pos h0] at hq;cases hq;rfl
  subst he;refine qb (QK s.colour.colours (bs c) false hc9 h0) rfl (lI _) ?_;simp only [go_sem,simprocAttr];exact ⟨_,[],(bF _).symm,rfl,eB s b ex,trivial,rfl,rfl⟩
 obtain ⟨hp,hne⟩:Cl.qF s.colour (au (λx:ClColour=>x.name==bs c) s.colour.colours 0) (d7 b)=.tuple [.nilslice,.int .i64 0,.int .i64 e]/\(e==0)=false:=by
  unfold kP at hq;dsimp only at hq;rw [if_neg h0] at hq;split at hq
  .rename_i h1;cases hq;rw [Cl.qF,if_neg h1];exact ⟨rfl,by simpa using h1⟩
  .rename_i h1;have h1':Cl.dg s.colour (au (λx:ClColour=>x.name==bs c) s.colour.colours 0) (d7 b)=0:=by simpa using h1
   split at hq
   .rename_i h2;cases hq;rw [Cl.qF,if_pos h1',h2];exact ⟨rfl,rfl⟩
   .cases hq
 refine ae (Kl s.colour.colours (bs c) false hc9 (by omega)) rfl ?_;simp only [go_sem,simprocAttr];refine et 7 2 (by simp only [go_sem,simprocAttr]) ?_;simp only [go_sem,simprocAttr];refine bT [0,6,25,26] b.batches (by omega) (τ:=Unit) (λdone rest _=>True) (λdone _=>[(7,.slice 7 done.length 0 done.length),(27,.p (.int .i64 done.length))]) (λdone _=>B7 s b ex++[.row 2 ((jA done).map Gp)]) () trivial ?_ ?_ ?_
 .simp only [ChShop.cells,jA,cO,go_sem,simprocAttr]
 .intro _ _;have hw:jA b.batches=d7 b:=rfl;have hwl:(d7 b).length=b.batches.length:=by simp only [d7,fY]
  have hB:=Cl.NE s.colour (au (λx:ClColour=>x.name==bs c) s.colour.colours 0) (d7 b) (by rw [hwl];omega);rw [hp] at hB;simp only [ChShop.cells,hw,go_sem,simprocAttr];refine uR hB ?_ ?_
  .simp only [hwl,go_sem,simprocAttr];rw [fx (by rw [fY,hwl];exact bR _)]
  simp only [hne,go_sem,simprocAttr];refine aq (λh=>by cases h) (λ_=>?_);simp only [go_sem,simprocAttr];exact ⟨_,_,rfl,rfl,eB s b ex,trivial,rfl,rfl⟩
 .intro done w r _ e1 _ hx hlt hnx;have hx':=uM hx ex;have hrm:done.length+1<=aB:=by rw [e1] at hl;simp at hl;simp only [aB];omega
  have hwd:(jA done).length=done.length:=by simp [jA]
  simp only [ChShop.cells,hlt,hx',hrm,hwd,go_sem,simprocAttr];refine aL e1 () trivial ?_;simp only [hnx,jA,aP,cp,bQ,cO,Gp,ClBatch.pv,go_sem,simprocAttr]
theorem td {s} {b} {c} {o} {m} (hs:SOk s) {n} (hb:BkOk s b n) (hq:kP s b c=.ok (o,m)):o.Perm (List.range b.batches.length)/\0<=m/\m<=210000:=by
 unfold kP at hq;dsimp only at hq;split at hq
 .cases hq
 split at hq
 .cases hq
 split at hq
 .cases hq
 rename_i q h2;cases hq;have hwl:(d7 b).length=b.batches.length:=by simp only [d7,fY]
 unfold Cl.yW at h2;rw [hwl] at h2;have hl:(List.range b.batches.length).length<=7:=by rw [List.length_range];exact hb.batches
 have hS:=Cl.l8 (need:=Cl.im s.colour (d7 b)) (col:=Cl.kT (d7 b)) (λc j n h=>by
  unfold Cl.im at h;split at h
  .exact Cl.zx (Cl.va hs.colour) h
  .cases h) 7 (au (λx:ClColour=>x.name==bs c) s.colour.colours 0) (List.range b.batches.length)
 rw [h2] at hS;refine ⟨Cl.Bb hl h2,?_,?_⟩
 .exact (hS o m rfl).1
 .have:=(hS o m rfl).2;omega
def iP (b:ChBooks) (o:List Nat):List Word:=o.map λi=>.s (pQ b.batches i)
theorem Ol (b) (o) (m):(iP b o++[Word.n m]).flatMap Word.ws=o.map (pQ b.batches)++[bO m]:=by
 rw [tB]
 congr 1
 induction o with
 |nil=>rfl
 |cons x r ih=>simp only [iP,bQ,qh] at ih |-;rw [ih];rfl
theorem Hx {s} {b} {n} (hb:BkOk s b n) (i):(pQ b.batches i).length<=1000:=by
 unfold pQ;split
 .rename_i x hx;have h:=(hb.waits x (aI hx)).2.2;unfold bl;have:x.name.data.toList.length=x.name.size:=by show x.name.data.toList.length=x.name.data.size;exact r6
  omega
 .exact cQ _
theorem BX (s) (b) (ex) (n) (hs:SOk s) (hb:BkOk s b n) (c):ay TP 111 [.ptr 2 1 0 0,.p (.str (bs c))] (B7 s b ex) (jz s b ex (aU s b (.plan c))):=by
 have hl:=hb.batches;refine bv (ai (by kernel_rfl) rfl VX) rfl ?_;simp only [ChShop.cells,go_sem,simprocAttr]
 cases hq:kP s b c with
 |error e =>
  refine rR (JZ s b ex n hs hb c e hq) ?_;simp only [go_sem,simprocAttr]
  exact cL (e:=e) (by simp only [aU,hq]) [] (bF _).symm
 |ok q =>
  obtain ⟨o,m⟩:=q;obtain ⟨f1,f2,f3⟩:=td hs hb hq;have fl:o.length=b.batches.length:=by rw [f1.length_eq,List.length_range]
  refine b9 (v:=.p (.tuple [.slice 1 (o.map Cl.oW) false,.int .i64 m])) (h':=B7 s b ex) (JY s b ex n hs hb c o m hq) ?_;simp only [go_sem,simprocAttr];refine et 7 1 (by simp only [go_sem,simprocAttr]) ?_;simp only [go_sem,simprocAttr];refine bT [0,6,16,17] o (by omega) (τ:=Unit) (λdone rest _=>True) (λdone _=>[(7,.slice 7 done.length 0 done.length),(18,.p (.int .i64 done.length))]) (λdone _=>B7 s b ex++[.row 1 ((iP b done).map ql)]) () trivial ?_ ?_ ?_
  .simp only [ChShop.cells,iP,cO,go_sem,simprocAttr]
  .intro _ _;have hpl:(iP b o).length=o.length:=by simp [iP]
   have hrm:o.length+1<=aB:=by simp only [aB];omega
   simp only [ChShop.cells,hpl,hrm,go_sem,simprocAttr];have hsd:=nH (iP b o++[.n m]) false (by rw [aP,hpl];simp;omega) (λw hw=>by
    rcases bX.1 hw with hw | hw
    .obtain ⟨i,_,rfl⟩:=dD.1 hw;exact Hx hb i
    .simp at hw;subst hw
     exact ⟨f2,by omega⟩)
   refine bh hsd ?_ (.str _) ?_
   .have e:(iP b o).map ql++[AV.p (.iface 3 (.int .i64 m))]=(iP b o++[Word.n m]).map ql:=by rw [cp];rfl
    have e2:o.length+1=(iP b o++[Word.n m]).length:=by rw [aP,hpl];rfl
    simp only [e,Gh,go_sem,simprocAttr];rw [e2,if_pos rfl];show some [PV.slice 1 (List.take (iP b o++[Word.n m]).length (List.map Word.pv (iP b o++[Word.n m]))) false]=_;rw [fx (by rw [fY];exact bR _)]
   simp only [go_sem,simprocAttr];exact gc (b':=b) (ex':=ex) (a:=joinL ((iP b o++[Word.n m]).flatMap Word.ws)) (by rw [Ol];simp only [aU,hq]) [_] rfl
  .intro done w r _ e1 _ hx hlt hnx;have hw:w<b.batches.length:=by
    have:w∈o:=by rw [e1];simp
    have:=f1.mem_iff.1 this;exact B'.1 this
   obtain ⟨y,hy⟩:∃ y,b.batches[w]?=some y:=⟨_,b6 hw⟩
   have hx':=uM hy ex;have hn:pQ b.batches w=bl y.name:=by rw [pQ,hy]
   have hwB:(w:Int)<(b.batches.length:Int):=by omega
   have hrm:done.length+1<=aB:=by rw [e1] at fl;simp at fl;simp only [aB];omega
   have hpl:(iP b done).length=done.length:=by simp [iP]
   simp only [ChShop.cells,hlt,hx,Cl.oW,hx',hwB,hrm,hpl,go_sem,simprocAttr];refine aL e1 () trivial ?_;simp only [hnx,iP,aP,cp,bQ,cO,ql,Word.pv,hn,Ih,go_sem,simprocAttr]
def om (l:List ChBatch):Int:=(l.map (·.grams)).sum
theorem oQ {s} {b} {n} (hb:BkOk s b n):∀ d,(∀ x,x∈d->x∈b.batches)->0<=om d/\om d<=100000*d.length
 |[],_=>by simp [om]
 |x::r,h=>by
  have ih:=oQ hb r (λy hy=>h y (by simp [hy]));have hx:=(hb.waits x (h x (by simp))).1;simp only [om,bQ,List.sum_cons,e9] at ih |-;omega
set_option maxHeartbeats 1000000 in
theorem Wc (s) (b) (ex) (n) (hs:SOk s) (hb:BkOk s b n) (c):ay TP 113 [.ptr 2 1 0 0,.p (.str (bs c))] (B7 s b ex) (jz s b ex (aU s b (.pour c))):=by
 have hl:=hb.batches;refine bv (ai (by kernel_rfl) rfl VV) rfl ?_;simp only [ChShop.cells,go_sem,simprocAttr]
 cases hq:kP s b c with
 |error e =>
  refine rR (JZ s b ex n hs hb c e hq) ?_;simp only [go_sem,simprocAttr]
  exact cL (e:=e) (by simp only [aU,hq]) [] (bF _).symm
 |ok q =>
  obtain ⟨o,m⟩:=q;obtain ⟨f1,f2,f3⟩:=td hs hb hq;refine b9 (v:=.p (.tuple [.slice 1 (o.map Cl.oW) false,.int .i64 m])) (h':=B7 s b ex) (JY s b ex n hs hb c o m hq) ?_;simp only [go_sem,simprocAttr];refine bT [0,6,19,20] b.batches (by omega) (τ:=Unit) (λdone rest _=>True) (λdone _=>[(21,.p (.int .i64 done.length))]) (λdone _=>B7 s { b with poured:=b.poured+om done } ex) () trivial ?_ ?_ ?_
  .simp only [ChShop.cells,om,cO,List.sum_nil,qk,go_sem,simprocAttr]
  .intro _ _;have hsum:=oQ hb b.batches (λx hx=>hx);have hw1:=hb.poured;have hw2:=hb.lost;have hw3:=hb.few;have hwr:IntKind.i64.wrap (b.lost+m)=b.lost+m:=an (by omega) (by omega);simp only [ChShop.cells,hwr,go_sem,simprocAttr];have hsd:=nH [.n m] true (by simp) (λw hw=>by
    simp only [cz,eQ,or_false] at hw;subst hw
    exact ⟨f2,by omega⟩)
   refine ae hsd rfl ?_;simp only [go_sem,simprocAttr];exact O8 (b':={ b with poured:=b.poured+Lc b.batches,batches:=[],lost:=b.lost+m }) (l:=b.batches) (x:=ex) (a:=joinL ([Word.n m].flatMap Word.ws)) (by simp only [aU,hq];rfl) rfl [] (bF _).symm
  .intro done w r _ e1 _ hx hlt hnx;have hx':=uM hx ex;have hsum:=oQ hb (done++[w]) (λx hx=>by rw [e1];simp at hx |-;rcases hx with h | h;exact .inl h;exact .inr (.inl h));have hdw:om (done++[w])=om done+w.grams:=by simp [om]
   have hdl:(done++[w]).length<=7:=by rw [e1] at hl;simp at hl |-;omega
   have hw1:=hb.poured;have hw3:=hb.few;have hwr:IntKind.i64.wrap (b.poured+om done+w.grams)=b.poured+(om done+w.grams):=by rw [Int.add_assoc];exact an (by omega) (by omega)
   simp only [ChShop.cells,hlt,hx',hwr,go_sem,simprocAttr];refine aL e1 () trivial ?_;simp only [hnx,hdw,ChShop.cells,go_sem,simprocAttr]
end Ch
end Abs
end Go.Proofs.YtfafnkpfamgbbaaGreatDoor
