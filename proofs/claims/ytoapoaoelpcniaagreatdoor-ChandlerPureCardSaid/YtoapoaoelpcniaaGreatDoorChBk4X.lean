/- CONTRACTS of the program's functions, and laws on what they return. No conditions but those in the theorems' heads. -/
import Derived.Test.YtoapoaoelpcniaaGreatDoorChBkX
set_option linter.all false
open Go.Proofs.Tryz renaming prog->TP
namespace Go.Proofs.YtoapoaoelpcniaaGreatDoor
namespace Abs
namespace Ch
set_option maxRecDepth 4000
theorem La{s}{a}(h:(aU s a).2=0):bV s.kinds.length (aU s a).1=0/\bS s []=0:=by
 unfold aU at h |-;split at h
 .rename_i h0;rw[if_pos h0];split at h
  .cases h
  .rename_i h1;rw[if_neg h1];split at h
   .cases h
   .rename_i t ht;split at h
    .rename_i hg;rw[if_pos hg];refine⟨?_,h0⟩;unfold oO at hg;simp only[cG,beq_iff_eq]at hg;exact hg.1
    .cases h
 .rename_i h0;exact absurd h h0
theorem Gk{s}(h:bS s []=0):(hrCheck s).2.2=0:=by
 unfold bS at h;split at h
 .assumption
 .exact h
theorem In{nk}{t}(h:bV nk t=0):dL t=t.pv:=by
 have:=(fS h).1.two;unfold dL
 cases hm:t.marks with
 |nil=>rw[hm]at this;simp at this
 |cons m r=>simp only[HrTest.pv,hm]
theorem Vh{s}{t}{nk}(h:bV nk t=0):(kW s t).1.length<=1000/\∀i,i∈(kW s t).1->0<=i/\i<1000000000:=by
 have hl:=(fS h).1.len;have hg:∀(l:List HrMark) (i:Nat),(ov t i l).length<=l.length/\∀j,j∈ov t i l->0<=j/\j<i+l.length:=by
  intro l
  induction l with
  |nil=>intro i;exact⟨bB _,λj hj=>by cases hj⟩
  |cons m r ih=>
   intro i;have:=ih (i+1);rw[ov];refine⟨?_,λj hj=>?_⟩
   .rw[aB,cu];have:(if iA (wo t i)=true then [(i:Int)] else []).length<=1:=by split<;>simp
    omega
   .rcases dr.1 hj with hj|hj
    .split at hj
     .simp at hj;subst hj;simp;omega
     .simp at hj
    .have:=this.2 j hj;simp at this |-;omega
 unfold kW;split
 .unfold yC;split
  .simp
  .have:=hg t.marks 0;refine⟨lH this.1 (by omega),λi hi=>?_⟩;have:=this.2 i hi;simp at this;omega
 .simp
theorem Kz(s)(b:ChBooks)(ex)(t):B7 s { b with tests:=b.tests++[t] } ex =
  [.dead,.dead,.row 23 [.agg ([.slice 3 b.lots.length 0 b.lots.length,.slice 4 (b.batches.length+ex.length) 0 b.batches.length,.slice 5 (b.tests.length+1) 0 (b.tests.length+1),.slice 6 b.boxes.length 0 b.boxes.length,.p (.int .i64 b.poured),.p (.int .i64 b.lost)]++s.cells.map .p)],
  .row 4 (b.lots.map lT),.row 4 (b.batches.map cR++ex.map .p),.row 3 (b.tests.map pW++[.p t.pv]),.row 2 (b.boxes.map uc)]:=by
 simp only[B7,aB,bn,cj,bL,ck,pW]
def B3:Hints:=ec [(53,.low),(1007052,.sto),(32,.low),(40,.app 37),(5000001,.app 5)]
theorem Vb:cC B3 Tryz.f135=true:=by kernel_rfl
set_option maxHeartbeats 1000000 in
theorem XB(s)(b)(ex)(n)(hs:SOk s)(hb:BkOk s b n)(text):aD TP 135 [.ptr 2 1 0 0,.p (.str (bs text))] (B7 s b ex) (kP s b ex (aO s b (.test text))):=by
 have hl:=hb.tests;refine bN (eg (by kernel_rfl) rfl Vb) rfl ?_;simp only[ChShop.cells,go_sem,simprocAttr];refine ae (Kc s.hour text) rfl ?_;by_cases he:(aU s.hour text).2=0;rotate_left
 .have he':((aU s.hour text).2==0)=false:=by simpa using he
  simp only[dL,he',go_sem,simprocAttr];refine az (λh=>by cases h) (λ_=>?_);simp only[go_sem,simprocAttr];exact dJ (e:=(aU s.hour text).2) (by simp only[aO,if_pos he]) [_] rfl
 obtain⟨g1,g2⟩:=La he;have hpv:=In g1;simp only[hpv,he,HrTest.pv,go_sem,simprocAttr];refine az (λ_=>?_) (λh=>by cases h);simp only[go_sem,simprocAttr];refine az (λh2=>?_) (λh2=>?_);rotate_left
 .have h2':¬b.tests.length<8:=by simp at h2;omega
  simp only[go_sem,simprocAttr];exact dJ (e:=3) (by simp only[aO,if_neg (not_not_intro he),if_pos h2']) [_] rfl
 have h2':b.tests.length<8:=by simp at h2;omega
 have h2n:¬¬b.tests.length<8:=λh=>h h2';have hrm:b.tests.length+1<=aw:=by simp only[aw];omega
 simp only[hrm,B3,aL,go_sem,simprocAttr];refine And.intro (.inr ⟨5,_,rfl,rfl⟩) ?_;refine ax (X1 s.hour (aU s.hour text).1) rfl ?_
 have hact:aO s b (.test text)=.ok ({ b with tests:=b.tests++[(aU s.hour text).1] },
   if(d9 s.hour (aU s.hour text).1).2=0 then joinL [be (d9 s.hour (aU s.hour text).1).1.lo,be (d9 s.hour (aU s.hour text).1).1.hi]
   else joinL (KU::(kW s.hour (aU s.hour text).1).1.map be)):=by simp only[aO,if_neg (not_not_intro he),if_neg h2n]
 by_cases hr:(d9 s.hour (aU s.hour text).1).2=0
 .simp only[B3,hr,Span.pv,go_sem,simprocAttr];have hrg:0<=(d9 s.hour (aU s.hour text).1).1.lo/\(d9 s.hour (aU s.hour text).1).1.lo<1000000000/\0<=(d9 s.hour (aU s.hour text).1).1.hi/\(d9 s.hour (aU s.hour text).1).1.hi<1000000000:=by
   have:=tz (fS g1).1;unfold d9;split
   .split
    .dsimp only;omega
    .dsimp only;omega
   .dsimp only;omega
  have hsd:=qa [.n (d9 s.hour (aU s.hour text).1).1.lo,.n (d9 s.hour (aU s.hour text).1).1.hi] true (by simp) (λw hw=>by
   simp only[ci,iL,or_false]at hw;rcases hw with rfl|rfl
   .exact⟨hrg.1,hrg.2.1⟩
   .exact⟨hrg.2.2.1,hrg.2.2.2⟩)
  refine And.intro rfl ?_;refine ae hsd rfl ?_;simp only[go_sem,simprocAttr];rw[if_pos hr]at hact;exact ik (ex':=ex) (a:=joinL ([Word.n (d9 s.hour (aU s.hour text).1).1.lo,.n (d9 s.hour (aU s.hour text).1).1.hi].flatMap Word.ws)) hact [_,_] (congrArg (·++[_,_]) (Kz s b ex (aU s.hour text).1).symm)
 .have hr':((d9 s.hour (aU s.hour text).1).2==0)=false:=by simpa using hr
  simp only[B3,aL,hr',Span.pv,go_sem,simprocAttr];refine And.intro rfl ?_;refine ax (V8 s.hour (aU s.hour text).1) rfl ?_;simp only[B3,mG,go_sem,simprocAttr];obtain⟨o1,o2⟩:=Vh (s:=s.hour) g1;have hsd:=qa [.s KU,.ns (kW s.hour (aU s.hour text).1).1] true (by simp) (λw hw=>by
   simp only[ci,iL,or_false]at hw;rcases hw with rfl|rfl
   .show (3:Nat)<=1000;decide
   .exact⟨o1,o2⟩)
  refine ae hsd rfl ?_;simp only[go_sem,simprocAttr];rw[if_neg hr]at hact;exact ik (ex':=ex) (a:=joinL ([Word.s KU,.ns (kW s.hour (aU s.hour text).1).1].flatMap Word.ws)) (by simpa[Word.ws]using hact) [_,_] (congrArg (·++[_,_]) (Kz s b ex (aU s.hour text).1).symm)
theorem UX(t)(rs)(k):Wx.nv (Wx.AJ t rs k):=by
 have key:∀(l:List (Nat×Nat)) (p:Span),Wx.nv p->Wx.nv (Wx.joinL (λq=>(Wx.tR (Wx.gL t rs q)).map (Wx.ez k q)) l p):=by
  intro l
  induction l with
  |nil=>intro p h;exact h
  |cons q l ih=>
   intro p h;rw[Wx.joinL];refine ih _ ?_;unfold Wx.tR;by_cases hc:(Wx.gL t rs q).lo<=(Wx.gL t rs q).hi
   .rw[if_pos hc];have hi:=Wx.Gx hc;refine Wx.JU h ?_;unfold Wx.ez;split
    .omega
    .split
     .dsimp only;omega
     .dsimp only;omega
   .rw[if_neg hc];exact h
 exact key _ _ (by unfold Wx.nv;decide)
theorem K0{t}{rs}{k}(h:(Wx.bD t rs k).2.2=0):(0<=(Wx.bD t rs k).1.lo/\(Wx.bD t rs k).1.lo<1000000000)/\0<=(Wx.bD t rs k).1.hi/\(Wx.bD t rs k).1.hi<1000000000:=by
 have hB:=UX t rs k.toNat;unfold Wx.nv at hB;unfold Wx.bD at h |-;split
 .split
  .unfold Wx.mi;split
   .dsimp only;omega
   .split
    .dsimp only;omega
    .split<;>dsimp only<;>omega
  .dsimp only;omega
 .dsimp only;omega
theorem SOk.waxkinds{s}(h:SOk s):s.wax.kinds.length<1000000000:=by
 have:=(Wx.FN h.wax).kinds;omega
theorem QW(s)(x:ChLot):af TP 204 [x.pv,.ptr 1 [.str s] 0 0] (.bool (x.name==s)):=by
 refine aa (ah Tryz.func204 rfl (by kernel_rfl)) rfl ?_;simp only[go_sem,simprocAttr]
theorem L7(s)(x:ChBatch):af TP 209 [x.pv,.ptr 1 [.str s] 0 0] (.bool (x.name==s)):=by
 refine aa (ah Tryz.func209 rfl (by kernel_rfl)) rfl ?_;simp only[go_sem,simprocAttr]
theorem Ib(s)(b:ChBooks)(ex)(t):B7 s { b with lots:=b.lots++[t] } ex =
  [.dead,.dead,.row 23 [.agg ([.slice 3 (b.lots.length+1) 0 (b.lots.length+1),.slice 4 (b.batches.length+ex.length) 0 b.batches.length,.slice 5 b.tests.length 0 b.tests.length,.slice 6 b.boxes.length 0 b.boxes.length,.p (.int .i64 b.poured),.p (.int .i64 b.lost)]++s.cells.map .p)],
  .row 4 (b.lots.map lT++[.p t.pv]),.row 4 (b.batches.map cR++ex.map .p),.row 3 (b.tests.map pW),.row 2 (b.boxes.map uc)]:=by
 simp only[B7,aB,bn,cj,bL,ck,lT]
def H4:Hints:=ec [(64,.low),(76,.app 69),(5000001,.app 6)]
theorem Xh:cC H4 Tryz.f142=true:=by kernel_rfl
set_option maxHeartbeats 1000000 in
theorem Z1(s)(b)(ex)(n)(hs:SOk s)(hb:BkOk s b n)(name kind)(grams)(rs)(hrs:rs.length<1000000000):aD TP 142 [.ptr 2 1 0 0,.p (.str (bs name)),.p (.str (bs kind)),.p (.int .i64 grams),.p (.slice 1 (rs.map aI) false)] (B7 s b ex) (kP s b ex (aO s b (.lot name kind grams rs))):=by
 have hl:=hb.lots;refine bN (eg (by kernel_rfl) rfl Xh) rfl ?_;simp only[ChShop.cells,go_sem,simprocAttr];refine bf (BN (fv:=.func (.func 204) [] [.ptr 1 [.str (bs name)] 0 0]) b.lots (λy=>y.name==bs name) false 4 rfl (by omega) λy _=>⟨_,_,_,rfl,QW (bs name) y⟩) ?_ (.bool _) ?_
 .simp only[go_sem,simprocAttr]
 simp only[go_sem,simprocAttr];refine az (λh1=>?_) (λh1=>?_);rotate_left
 .have h1':(b.lots.any λy=>y.name==bs name)=true:=by simpa using h1
  simp only[go_sem,simprocAttr];exact dJ (e:=5) (by simp only[aO,if_pos h1']) [_] rfl
 have h1':¬(b.lots.any λy=>y.name==bs name)=true:=by
  intro h;rw[h]at h1;cases h1
 simp only[go_sem,simprocAttr];by_cases h2:aA (λx:WxKind=>x.name==bs kind) s.wax.kinds 0<0
 .refine sS (U' s.wax.kinds (bs kind) false hs.waxkinds h2) rfl (nI _) ?_;simp only[go_sem,simprocAttr];exact dJ (e:=4) (by simp only[aO,if_neg h1',if_pos h2]) [_] rfl
 refine ae (Wd s.wax.kinds (bs kind) false hs.waxkinds (by omega)) rfl ?_;by_cases h3:1<=grams/\grams<=100000;rotate_left
 .have ha:aO s b (.lot name kind grams rs)=.error 7:=by simp only[aO,if_neg h1',if_neg h2,if_pos h3]
  by_cases hg:1<=grams
  .have hg2:decide (grams<=100000)=false:=by simpa using λh=>h3 ⟨hg,h⟩
   have hg1:decide (1<=grams)=true:=by simpa using hg
   simp only[hg1,hg2,go_sem,simprocAttr];refine az (λh=>by cases h) (λ_=>?_);simp only[go_sem,simprocAttr];exact dJ (e:=7) ha [_] rfl
  .have hg1:decide (1<=grams)=false:=by simpa using hg
   simp only[hg1,go_sem,simprocAttr];refine az (λh=>by cases h) (λ_=>?_);simp only[go_sem,simprocAttr];exact dJ (e:=7) ha [_] rfl
 have h3n:¬¬(1<=grams/\grams<=100000):=λh=>h h3;simp only[h3.1,h3.2,go_sem,simprocAttr];refine az (λ_=>?_) (λh=>by cases h);simp only[go_sem,simprocAttr];refine ae (Wx.XV s.wax rs (aA (λx:WxKind=>x.name==bs kind) s.wax.kinds 0) hrs) rfl ?_;by_cases h4:(Wx.bD s.wax rs (aA (λx:WxKind=>x.name==bs kind) s.wax.kinds 0)).2.2=0;rotate_left
 .have h4':((Wx.bD s.wax rs (aA (λx:WxKind=>x.name==bs kind) s.wax.kinds 0)).2.2==0)=false:=by simpa using h4
  simp only[h4',Span.pv,go_sem,simprocAttr];refine az (λh=>by cases h) (λ_=>?_);simp only[go_sem,simprocAttr];exact dJ (e:=(Wx.bD s.wax rs (aA (λx:WxKind=>x.name==bs kind) s.wax.kinds 0)).2.2) (by simp only[aO,if_neg h1',if_neg h2,if_neg h3n,if_pos h4]) [_,_] rfl
 have h4n:¬(Wx.bD s.wax rs (aA (λx:WxKind=>x.name==bs kind) s.wax.kinds 0)).2.2≠0:=λh=>h h4;obtain⟨r1,r2⟩:=K0 h4;simp only[h4,Span.pv,go_sem,simprocAttr];refine az (λ_=>?_) (λh=>by cases h);simp only[go_sem,simprocAttr];refine az (λh5=>?_) (λh5=>?_);rotate_left
 .have h5':¬b.lots.length<8:=by simp at h5;omega
  simp only[go_sem,simprocAttr];exact dJ (e:=3) (by simp only[aO,if_neg h1',if_neg h2,if_neg h3n,if_neg h4n,if_pos h5']) [_,_] rfl
 have h5':b.lots.length<8:=by simp at h5;omega
 have h5n:¬¬b.lots.length<8:=λh=>h h5';have hrm:b.lots.length+1<=aw:=by simp only[aw];omega
 have hact:aO s b (.lot name kind grams rs)=.ok ({ b with lots:=b.lots++[⟨bs name,aA (λx:WxKind=>x.name==bs kind) s.wax.kinds 0,grams,rs⟩] },joinL [ji (Wx.bD s.wax rs (aA (λx:WxKind=>x.name==bs kind) s.wax.kinds 0)).2.1,be (Wx.bD s.wax rs (aA (λx:WxKind=>x.name==bs kind) s.wax.kinds 0)).1.lo,be (Wx.bD s.wax rs (aA (λx:WxKind=>x.name==bs kind) s.wax.kinds 0)).1.hi]):=by
  simp only[aO,if_neg h1',if_neg h2,if_neg h3n,if_neg h4n,if_neg h5n]
 simp only[hrm,H4,aL,go_sem,simprocAttr];refine And.intro (.inr ⟨3,_,rfl,rfl⟩) ?_;have hsd:∀w:List UInt8,w.length<=1000->af TP 54 [.slice 1 ([Word.s w,.n (Wx.bD s.wax rs (aA (λx:WxKind=>x.name==bs kind) s.wax.kinds 0)).1.lo,.n (Wx.bD s.wax rs (aA (λx:WxKind=>x.name==bs kind) s.wax.kinds 0)).1.hi].map Word.pv) true] _:=λw hw=>qa [.s w,.n (Wx.bD s.wax rs (aA (λx:WxKind=>x.name==bs kind) s.wax.kinds 0)).1.lo,.n (Wx.bD s.wax rs (aA (λx:WxKind=>x.name==bs kind) s.wax.kinds 0)).1.hi] true (by simp) (λx hx=>by
  simp only[ci,iL,or_false]at hx;rcases hx with rfl|rfl|rfl
  .exact hw
  .exact r1
  .exact r2)
 by_cases v1:(Wx.bD s.wax rs (aA (λx:WxKind=>x.name==bs kind) s.wax.kinds 0)).2.1=1
 .have hv:ji (Wx.bD s.wax rs (aA (λx:WxKind=>x.name==bs kind) s.wax.kinds 0)).2.1=Fa:=by rw[ji,if_pos v1]
  simp only[v1,H4,go_sem,simprocAttr];refine ae (hsd Fa (by decide)) rfl ?_;simp only[go_sem,simprocAttr];exact ik (ex':=ex) (a:=joinL ([Word.s Fa,.n (Wx.bD s.wax rs (aA (λx:WxKind=>x.name==bs kind) s.wax.kinds 0)).1.lo,.n (Wx.bD s.wax rs (aA (λx:WxKind=>x.name==bs kind) s.wax.kinds 0)).1.hi].flatMap Word.ws)) (by rw[hact,hv];rfl) [_,_] (congrArg (·++[_,_]) (Ib s b ex ⟨bs name,aA (λx:WxKind=>x.name==bs kind) s.wax.kinds 0,grams,rs⟩).symm)
 have v1':((Wx.bD s.wax rs (aA (λx:WxKind=>x.name==bs kind) s.wax.kinds 0)).2.1==1)=false:=by simpa using v1
 by_cases v2:(Wx.bD s.wax rs (aA (λx:WxKind=>x.name==bs kind) s.wax.kinds 0)).2.1=2
 .have hv:ji (Wx.bD s.wax rs (aA (λx:WxKind=>x.name==bs kind) s.wax.kinds 0)).2.1=r8:=by rw[ji,if_neg v1,if_pos v2]
  simp only[v2,H4,go_sem,simprocAttr];refine ae (hsd r8 (by decide)) rfl ?_;simp only[go_sem,simprocAttr];exact ik (ex':=ex) (a:=joinL ([Word.s r8,.n (Wx.bD s.wax rs (aA (λx:WxKind=>x.name==bs kind) s.wax.kinds 0)).1.lo,.n (Wx.bD s.wax rs (aA (λx:WxKind=>x.name==bs kind) s.wax.kinds 0)).1.hi].flatMap Word.ws)) (by rw[hact,hv];rfl) [_,_] (congrArg (·++[_,_]) (Ib s b ex ⟨bs name,aA (λx:WxKind=>x.name==bs kind) s.wax.kinds 0,grams,rs⟩).symm)
 have v2':((Wx.bD s.wax rs (aA (λx:WxKind=>x.name==bs kind) s.wax.kinds 0)).2.1==2)=false:=by simpa using v2
 have hv:ji (Wx.bD s.wax rs (aA (λx:WxKind=>x.name==bs kind) s.wax.kinds 0)).2.1=ug:=by rw[ji,if_neg v1,if_neg v2]
 simp only[v1',v2',H4,go_sem,simprocAttr];refine ae (hsd ug (by decide)) rfl ?_;simp only[go_sem,simprocAttr];exact ik (ex':=ex) (a:=joinL ([Word.s ug,.n (Wx.bD s.wax rs (aA (λx:WxKind=>x.name==bs kind) s.wax.kinds 0)).1.lo,.n (Wx.bD s.wax rs (aA (λx:WxKind=>x.name==bs kind) s.wax.kinds 0)).1.hi].flatMap Word.ws)) (by rw[hact,hv];rfl) [_,_] (congrArg (·++[_,_]) (Ib s b ex ⟨bs name,aA (λx:WxKind=>x.name==bs kind) s.wax.kinds 0,grams,rs⟩).symm)
theorem lW{α}(p):∀(l) (k),aA p l k<0\/∃(j:Nat) (x:α),aA p l k=((k+j:Nat):Int)/\l[j]?=some x/\p x=true
 |[],k=>.inl (by simp[aA])
 |y::l,k=>by
  rw[aA];split
  .rename_i h;exact .inr ⟨0,y,by simp,rfl,h⟩
  .rcases lW p l (k+1) with h|⟨j,x,h1,h2,h3⟩
   .exact .inl h
   .exact .inr ⟨j+1,x,by rw[h1];congr 1;omega,by simpa using h2,h3⟩
theorem O7(s)(b:ChBooks)(ex)(ls)(t):B7 s { b with lots:=ls,batches:=b.batches++[t] } ex =
  [.dead,.dead,.row 23 [.agg ([.slice 3 ls.length 0 ls.length,.slice 4 (b.batches.length+1+ex.length) 0 (b.batches.length+1),.slice 5 b.tests.length 0 b.tests.length,.slice 6 b.boxes.length 0 b.boxes.length,.p (.int .i64 b.poured),.p (.int .i64 b.lost)]++s.cells.map .p)],
  .row 4 (ls.map lT),.row 4 (b.batches.map cR++[.p t.pv]++ex.map .p),.row 3 (b.tests.map pW),.row 2 (b.boxes.map uc)]:=by
 simp only[B7,aB,bn,cj,bL,ck,cR]
theorem nB(l:List ChBatch)(ex):(l.map ChBatch.pv++ex).take l.length=l.map ChBatch.pv:=gk (by simp)
theorem UJ(s)(b:ChBooks)(ls)(t):B7 s { b with lots:=ls,batches:=b.batches++[t] } [] =
  [.dead,.dead,.row 23 [.agg ([.slice 3 ls.length 0 ls.length,.slice 4 (b.batches.length+1) 0 (b.batches.length+1),.slice 5 b.tests.length 0 b.tests.length,.slice 6 b.boxes.length 0 b.boxes.length,.p (.int .i64 b.poured),.p (.int .i64 b.lost)]++s.cells.map .p)],
  .row 4 (ls.map lT),.row 4 (b.batches.map cR++[.p t.pv]),.row 3 (b.tests.map pW),.row 2 (b.boxes.map uc)]:=by
 rw[O7,ck,bC];rfl
def RB:Hints:=ec [(77,.low),(89,.app 82),(5000001,.app 6)]
theorem Xi:cC RB Tryz.f144=true:=by kernel_rfl
set_option maxHeartbeats 1000000 in
theorem Vw(s)(b)(ex)(n)(hs:SOk s)(hb:BkOk s b n)(name colour lot)(grams):aD TP 144 [.ptr 2 1 0 0,.p (.str (bs name)),.p (.str (bs colour)),.p (.str (bs lot)),.p (.int .i64 grams)] (B7 s b ex) (kP s b ex (aO s b (.batch name colour lot grams))):=by
 have hl:=hb.batches;have hll:=hb.lots;refine bN (eg (by kernel_rfl) rfl Xi) rfl ?_;simp only[ChShop.cells,go_sem,simprocAttr];refine bf (BM (fv:=.func (.func 209) [] [.ptr 1 [.str (bs name)] 0 0]) b.batches (λy=>y.name==bs name) false 4 rfl (by omega) λy _=>⟨_,_,_,rfl,L7 (bs name) y⟩) ?_ (.bool _) ?_
 .simp only[go_sem,simprocAttr];rw[nB]
 simp only[go_sem,simprocAttr];refine az (λh1=>?_) (λh1=>?_);rotate_left
 .have h1':(b.batches.any λy=>y.name==bs name)=true:=by simpa using h1
  simp only[go_sem,simprocAttr];exact dJ (e:=5) (by simp only[aO,if_pos h1']) [_] rfl
 have h1':¬(b.batches.any λy=>y.name==bs name)=true:=by
  intro h;rw[h]at h1;cases h1
 simp only[go_sem,simprocAttr];by_cases h2:aA (λx:ClColour=>x.name==bs colour) s.colour.colours 0<0
 .refine sS (U9 s.colour.colours (bs colour) false hs.colours h2) rfl (nI _) ?_;simp only[go_sem,simprocAttr];exact dJ (e:=4) (by simp only[aO,if_neg h1',if_pos h2]) [_] rfl
 refine ae (Wc s.colour.colours (bs colour) false hs.colours (by omega)) rfl ?_;simp only[go_sem,simprocAttr];rcases lW (λx:ChLot=>x.name==bs lot) b.lots 0 with h3|⟨j,x,hj,hx,_⟩
 .refine sS (U7 b.lots (bs lot) false (by omega) h3) ?_ (nI _) ?_
  .simp only[go_sem,simprocAttr]
  simp only[go_sem,simprocAttr];exact dJ (e:=4) (by simp only[aO,if_neg h1',if_neg h2,if_pos h3]) [_] rfl
 rw[iq]at hj;have hjl:j<b.lots.length:=(aF.1 hx).1;have hjB:(j:Int)<(b.lots.length:Int):=by omega
 have h3:¬aA (λx:ChLot=>x.name==bs lot) b.lots 0<0:=by rw[hj];omega
 have h3j:¬(j:Int)<0:=by omega
 have hfd:=Wb b.lots (bs lot) false (by omega) (by omega);rw[hj]at hfd;refine bf hfd ?_ (.int _ _) ?_
 .simp only[go_sem,simprocAttr]
 by_cases h4:1<=grams/\grams<=100000;rotate_left
 .have ha:aO s b (.batch name colour lot grams)=.error 7:=by simp only[aO,if_neg h1',if_neg h2,if_neg h3,if_pos h4]
  by_cases hg:1<=grams
  .have hg2:decide (grams<=100000)=false:=by simpa using λh=>h4 ⟨hg,h⟩
   have hg1:decide (1<=grams)=true:=by simpa using hg
   simp only[hg1,hg2,go_sem,simprocAttr];refine az (λh=>by cases h) (λ_=>?_);simp only[go_sem,simprocAttr];exact dJ (e:=7) ha [_] rfl
  .have hg1:decide (1<=grams)=false:=by simpa using hg
   simp only[hg1,go_sem,simprocAttr];refine az (λh=>by cases h) (λ_=>?_);simp only[go_sem,simprocAttr];exact dJ (e:=7) ha [_] rfl
 have h4n:¬¬(1<=grams/\grams<=100000):=λh=>h h4;have hA:lT x=.p x.pv:=rfl;simp only[h4.1,h4.2,go_sem,simprocAttr];refine az (λ_=>?_) (λh=>by cases h);simp only[hjB,hx,hA,go_sem,simprocAttr];refine az (λh5=>?_) (λh5=>?_);rotate_left
 .have h5':¬grams<=x.grams:=by simpa using h5
  simp only[go_sem,simprocAttr];exact dJ (e:=9) (by simp only[aO,if_neg h1',if_neg h2,if_neg h4n,hj,if_neg h3j,g7,hx,if_pos h5']) [_] rfl
 have h5':grams<=x.grams:=by simpa using h5
 have h5n:¬¬grams<=x.grams:=λh=>h h5';simp only[go_sem,simprocAttr];refine az (λh6=>?_) (λh6=>?_);rotate_left
 .have h6':¬b.batches.length<7:=by simp at h6;omega
  simp only[go_sem,simprocAttr];exact dJ (e:=3) (by simp only[aO,if_neg h1',if_neg h2,if_neg h4n,hj,if_neg h3j,g7,hx,if_neg h5n,if_pos h6']) [_] rfl
 have h6':b.batches.length<7:=by simp at h6;omega
 have h6n:¬¬b.batches.length<7:=λh=>h h6';have hg:=hb.grams x (aG hx);have hw:IntKind.i64.wrap (x.grams-grams)=x.grams-grams:=aj (by omega) (by have:=hb.few;omega);have hact:aO s b (.batch name colour lot grams)=.ok ({ b with lots:=b.lots.set j { x with grams:=x.grams-grams },batches:=b.batches++[⟨bs name,aA (λx:ClColour=>x.name==bs colour) s.colour.colours 0,(j:Int),grams⟩] },uf):=by
  simp only[aO,if_neg h1',if_neg h2,if_neg h4n,hj,if_neg h3j,g7,hx,if_neg h5n,if_neg h6n]
 have hrm:b.batches.length+1<=aw:=by simp only[aw];omega
 have hset:(b.lots.map lT).set j (.p (.agg [.str x.name,.int .i64 x.kind,.int .i64 (x.grams-grams),.slice 1 (x.readings.map aI) false]))=(b.lots.set j { x with grams:=x.grams-grams }).map lT:=by rw[RE];rfl
 have hsl:(b.lots.set j { x with grams:=x.grams-grams }).length=b.lots.length:=As;simp only[hjB,hx,hA,hw,hset,go_sem,simprocAttr]
 cases ex with
 |nil=>
  simp only[RB,aL,ck,bC,cw,pk,hrm,go_sem,simprocAttr];refine And.intro (.inr ⟨4,_,rfl,rfl⟩) ?_;refine ik (ex':=[]) hact [.row 1 [.p (.str (bs name))]] ?_
  rw[UJ,hsl];rfl
 |cons e ex=>
  have hc1:(b.batches.map cR++AV.p e::ex.map AV.p).length=b.batches.length+(ex.length+1):=by simp
  have hc2:(b.batches.length=b.batches.length+(ex.length+1))=False:=eq_false (by omega);have hc3:(b.batches.map cR++AV.p e::ex.map AV.p).take b.batches.length=b.batches.map cR:=gk (by simp);have hc4:(b.batches.map cR++AV.p e::ex.map AV.p).drop (b.batches.length+1)=ex.map AV.p:=by
   rw[List.drop_append];simp
  have hc5:b.batches.length+1<=b.batches.length+(ex.length+1):=by omega
  simp only[RB,aL,cu,hc1,hc2,hc3,hc4,hc5,go_sem,simprocAttr];refine And.intro (.inr ⟨4,_,rfl,rfl⟩) ?_;refine ik (ex':=ex) hact [.row 1 [.p (.str (bs name))]] ?_;rw[O7,hsl,show b.batches.length+1+ex.length=b.batches.length+(ex.length+1) by omega];rfl
def qe:PV:=.agg [.str .empty,.int .i64 0,.int .i64 0,.int .i64 0]
theorem S3(l:List ChBatch)(ex:List PV)(i id)(h)(hid:h[id]?=some (.row 4 (l.map cR++ex.map .p)))(hi:i<l.length)(hlen:l.length<=7) :
  aD TP 216 [.slice id (l.length+ex.length) 0 l.length,.p (.int .i64 i),.p (.int .i64 (i+1:Nat))] h
   (λr h'=>r=.ret (.slice id (l.length+ex.length) 0 (l.length-1))/\h'=h.set id (.row 4 ((l.eraseIdx i).map cR++.p qe::ex.map .p))):=by
 refine aC (ah Tryz.func216 rfl (by kernel_rfl)) rfl ?_;have h1:(i:Int)<=((i+1:Nat):Int):=by omega
 have h2:((i+1:Nat):Int)<=(l.length:Int):=by omega
 have h2e:((i+1:Nat):Int)<=((l.length+ex.length:Nat):Int):=by omega
 have h3:((i:Int)==((i+1:Nat):Int))=false:=by simp;omega
 have h0:(0:Int)<=(i:Int):=by omega
 have h4:(0:Int)+(l.length:Int)<=((l.length+ex.length:Nat):Int):=by omega
 have h4b:(l.length:Int)<=((l.length+ex.length:Nat):Int):=by omega
 have h5:(i:Int)<=(l.length:Int):=by omega
 have h5e:(i:Int)<=((l.length+ex.length:Nat):Int):=by omega
 have h6:i+1+(l.length-(i+1))<=l.length+ex.length:=by omega
 have h7:¬(i=l.length+ex.length):=by omega
 have hys:List.take (l.length-(i+1)) (List.drop (i+1) (l.map cR++ex.map .p))=(l.drop (i+1)).map cR:=by
  rw[UK (by rw[eF];omega),<-List.map_drop,gk (by simp)]
 have h8:i+(l.length-(i+1))=l.length-1:=by omega
 have h9:l.length-1<=l.length+ex.length:=by omega
 obtain⟨z,hz⟩:∃z,List.drop (l.length-1) (l.map cR++ex.map .p)=z::ex.map AV.p:=by
  have:(List.drop (l.length-1) (l.map cR)).length=1:=by simp;omega
  match hd:List.drop (l.length-1) (l.map cR),this with
  |[z],_=>
   refine⟨z,?_⟩;rw[UK (by rw[eF];omega),hd];rfl
 have htk0:List.take i (l.map cR++ex.map AV.p)=(l.take i).map cR:=by rw[List.take_append_of_le_length (by rw[eF];omega),At]
 have her:(l.take i).map cR++((l.drop (i+1)).map cR++z::ex.map AV.p)=(l.eraseIdx i).map cR++z::ex.map AV.p:=by
  rw[<-cF,<-cj,UL]
 have hel:(l.eraseIdx i).length=l.length-1:=by rw[uW,if_pos hi]
 have hgs:∀x,(h.set id x)[id]?=some x:=λx=>by rw[jf (aF.1 hid).1]
 have h10:((l.length-1:Nat):Int)<=(l.length:Int):=by omega
 have h10e:((l.length-1:Nat):Int)<=((l.length+ex.length:Nat):Int):=by omega
 have h11:(0:Int)<=((l.length-1:Nat):Int):=by omega
 have h12:l.length-1+1=l.length:=by omega
 have h13:l.length-(l.length-1)=1:=by omega
 have h14:l.length-1+(l.length-(l.length-1))<=l.length+ex.length:=by omega
 have h15:¬((l.length:Int)<=((l.length-1:Nat):Int)):=by omega
 have h16:l.length<=l.length+ex.length:=by omega
 have hle2:((l.eraseIdx i).map cR++z::ex.map AV.p).length=l.length+ex.length:=by simp[hel];omega
 have hle3:(l.length-1+(ex.length+1))=l.length+ex.length:=by omega
 have htk:List.take (l.length-1) (List.map cR (l.eraseIdx i)++z::ex.map AV.p)=List.map cR (l.eraseIdx i):=gk (by rw[eF,hel]);have us:List.drop l.length (List.map cR (l.eraseIdx i)++z::ex.map AV.p)=ex.map AV.p:=by
  rw[List.drop_append,KE (by rw[eF,hel];omega),eF,hel,h13];rfl
 simp only[h15,htk,us,hid,h0,h1,h2,h3,h4,h5,h6,h7,hys,h8,h9,hz,htk0,her,hgs,h10,h11,h12,h13,h16,hle2,Kj,Nat.sub_zero,iq,List.length_drop,cF,rg,KB,Pe,qe,go_sem,simprocAttr];rfl
theorem UI(s)(b:ChBooks)(ex)(ls)(j)(hj:j<b.batches.length):B7 s { b with lots:=ls,batches:=b.batches.eraseIdx j } (qe::ex) =
  [.dead,.dead,.row 23 [.agg ([.slice 3 ls.length 0 ls.length,.slice 4 (b.batches.length+ex.length) 0 (b.batches.length-1),.slice 5 b.tests.length 0 b.tests.length,.slice 6 b.boxes.length 0 b.boxes.length,.p (.int .i64 b.poured),.p (.int .i64 b.lost)]++s.cells.map .p)],
  .row 4 (ls.map lT),.row 4 ((b.batches.eraseIdx j).map cR++.p qe::ex.map .p),.row 3 (b.tests.map pW),.row 2 (b.boxes.map uc)]:=by
 have h1:(b.batches.eraseIdx j).length=b.batches.length-1:=by rw[uW,if_pos hj]
 have h2:b.batches.length-1+(ex.length+1)=b.batches.length+ex.length:=by omega
 simp only[B7,h1,cu,h2,bL]
set_option maxHeartbeats 1000000 in
theorem XH(s)(b)(ex)(n)(hs:SOk s)(hb:BkOk s b n)(name):aD TP 146 [.ptr 2 1 0 0,.p (.str (bs name))] (B7 s b ex) (kP s b ex (aO s b (.drop name))):=by
 have hl:=hb.batches;have hll:=hb.lots;refine bN (ah Tryz.func146 rfl (by kernel_rfl)) rfl ?_;simp only[ChShop.cells,go_sem,simprocAttr];rcases lW (λx:ChBatch=>x.name==bs name) b.batches 0 with h3|⟨j,y,hj,hy,_⟩
 .refine sS (U6 b.batches (bs name) false (by omega) h3) ?_ (nI _) ?_
  .simp only[go_sem,simprocAttr];rw[nB]
  simp only[go_sem,simprocAttr];exact dJ (e:=4) (by simp only[aO,if_pos h3]) [] (bC _).symm
 rw[iq]at hj;have hjl:j<b.batches.length:=(aF.1 hy).1;have hjB:(j:Int)<(b.batches.length:Int):=by omega
 have hnj:¬(j:Int)<0:=by omega
 have hfd:=Wa b.batches (bs name) false (by omega) (by omega);rw[hj]at hfd;refine bf hfd ?_ (.int _ _) ?_
 .simp only[go_sem,simprocAttr];rw[nB]
 have hy':=x7 hy ex;obtain⟨⟨g1,g2⟩,⟨g3,g4⟩,_⟩:=hb.waits y (aG hy);obtain⟨k,hk⟩:=nx g3;have hkl:k<b.lots.length:=by omega
 obtain⟨x,hx⟩:∃x,b.lots[k]?=some x:=⟨_,dc hkl⟩
 have hkB:(k:Int)<(b.lots.length:Int):=by omega
 have hA:lT x=.p x.pv:=rfl;have hg:=hb.grams x (aG hx);have hw:IntKind.i64.wrap (x.grams+y.grams)=x.grams+y.grams:=aj (by omega) (by have:=hb.few;omega);have hw2:IntKind.i64.wrap ((j:Int)+1)=((j+1:Nat):Int):=by rw[aj (by omega) (by omega)];rfl
 have hset:(b.lots.map lT).set k (.p (.agg [.str x.name,.int .i64 x.kind,.int .i64 (x.grams+y.grams),.slice 1 (x.readings.map aI) false]))=(b.lots.set k { x with grams:=x.grams+y.grams }).map lT:=by rw[RE];rfl
 have hsl:(b.lots.set k { x with grams:=x.grams+y.grams }).length=b.lots.length:=As;have hact:aO s b (.drop name)=.ok ({ b with lots:=b.lots.set k { x with grams:=x.grams+y.grams },batches:=b.batches.eraseIdx j },uf):=by
  simp only[aO,hj,if_neg hnj,g7,hy,hk,hx]
 simp only[hjB,hy',hk,hkB,hx,hA,hw,hset,hw2,go_sem,simprocAttr];refine cJ (S3 b.batches ex j 4 _ rfl hjl hl) ?_;simp only[go_sem,simprocAttr];refine ik (ex':=qe::ex) hact [] ?_;rw[UI _ _ _ _ _ hjl,hsl];rfl
end Ch
end Abs
end Go.Proofs.YtoapoaoelpcniaaGreatDoor
