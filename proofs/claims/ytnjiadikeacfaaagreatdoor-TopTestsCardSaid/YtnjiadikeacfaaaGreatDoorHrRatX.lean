/- CONTRACTS of the program's functions, and laws on what they return. No conditions but those in the theorems' heads. -/
import Derived.Test.YtnjiadikeacfaaaGreatDoorHrTstX
set_option linter.all false
namespace Go.Proofs.YtnjiadikeacfaaaGreatDoor
namespace Abs
set_option maxRecDepth 4000
def Frac.le (f g:Frac):Prop:=f.top*g.below<=g.top*f.below
theorem Frac.lt_iff(f g:Frac):f.lt g=true↔¬g.le f:=by
 simp only[Frac.lt,Frac.le,decide_eq_true_eq];omega
theorem Frac.lt_false(f g:Frac):f.lt g=false↔g.le f:=by
 simp only[Frac.lt,Frac.le,decide_eq_false_iff_not];omega
theorem Frac.le_refl(f:Frac):f.le f:=l4 _
theorem Frac.le_total(f g:Frac):f.le g\/g.le f:=by simp only[Frac.le];omega
theorem Frac.le_trans{f g h:Frac}(hf:0<f.below)(hg:0<g.below)(hh:0<h.below)(h1:f.le g)(h2:g.le h):f.le h:=by
 unfold Frac.le at *
 have e1:f.top*g.below*h.below<=g.top*f.below*h.below:=tr h1 (Ds hh);have e2:g.top*h.below*f.below<=h.top*g.below*f.below:=tr h2 (Ds hf);have e3:f.top*h.below*g.below<=h.top*f.below*g.below:=by
  have a1:f.top*h.below*g.below=f.top*g.below*h.below:=by rw[uS,AN h.below,<-uS]
  have a2:g.top*f.below*h.below=g.top*h.below*f.below:=by rw[uS,AN f.below,<-uS]
  have a3:h.top*f.below*g.below=h.top*g.below*f.below:=by rw[uS,AN f.below,<-uS]
  omega
 exact Int.le_of_mul_le_mul_right e3 hg
theorem Frac.le_int(f:Frac)(n):f.le ⟨n,1⟩↔f.top<=n*f.below:=by simp[Frac.le]
theorem Frac.int_le(f)(n):Frac.le ⟨n,1⟩ f↔n*f.below<=f.top:=by simp[Frac.le]
theorem Frac.down_le{f:Frac}(hf:0<f.below)(n):n<=f.down↔n*f.below<=f.top:=wx hf
theorem Frac.up_le{f:Frac}(hf:0<f.below)(n):f.up<=n↔f.top<=n*f.below:=by
 unfold Frac.up;have:=wx (a:=-n) (b:=-f.top) hf;rw[za]at this;constructor
 .intro h;have:=this.1 (by omega);omega
 .intro h;have:=this.2 (by omega);omega
def Gm (l:List (Frac×Frac)) (q:Frac×Frac):Prop:=
 ((∃p,p∈l/\p.1=q.1)/\∀p,p∈l->p.1.le q.1)/\((∃p,p∈l/\p.2=q.2)/\∀p,p∈l->q.2.le p.2)
theorem Jv{l}{q p}(hl:∀x,x∈l->jt x)(hq:Gm l q)(hqB:jt q)(hp:jt p):Gm (l++[p]) (iH q p):=by
 have n1:q.1≠⟨0,0⟩:=λh=>by have:=hqB.2.2.1;rw[h]at this;exact absurd this (by decide)
 have n2:q.2≠⟨0,0⟩:=λh=>by have:=hqB.2.2.2;rw[h]at this;exact absurd this (by decide)
 obtain⟨⟨⟨x,hx,ex⟩,h1⟩,⟨y,hy,ey⟩,h2⟩:=hq;unfold iH i6 i7;simp only[decide_eq_false n1,decide_eq_false n2,jQ];refine⟨?_,?_⟩
 .dsimp only;cases hc:q.1.lt p.1
  .rw[Frac.lt_false]at hc;refine⟨⟨x,by simp[hx],ex⟩,λz hz=>?_⟩;rcases b7.1 hz with hz|hz
   .exact h1 z hz
   .rw[dA.1 hz];exact hc
  .have hc':q.1.le p.1:=(Frac.le_total _ _).resolve_right (by rw[Frac.lt_iff]at hc;exact hc);refine⟨⟨p,by simp,rfl⟩,λz hz=>?_⟩;rcases b7.1 hz with hz|hz
   .exact Frac.le_trans (hl z hz).2.2.1 hqB.2.2.1 hp.2.2.1 (h1 z hz) hc'
   .rw[dA.1 hz];exact Frac.le_refl _
 .dsimp only;cases hc:p.2.lt q.2
  .rw[Frac.lt_false]at hc;refine⟨⟨y,by simp[hy],ey⟩,λz hz=>?_⟩;rcases b7.1 hz with hz|hz
   .exact h2 z hz
   .rw[dA.1 hz];exact hc
  .have hc':p.2.le q.2:=(Frac.le_total _ _).resolve_right (by rw[Frac.lt_iff]at hc;exact hc);refine⟨⟨p,by simp,rfl⟩,λz hz=>?_⟩;rcases b7.1 hz with hz|hz
   .exact Frac.le_trans hp.2.2.2 hqB.2.2.2 (hl z hz).2.2.2 hc' (h2 z hz)
   .rw[dA.1 hz];exact Frac.le_refl _
theorem Ae:∀(r l) (q),(∀x,x∈l++r->jt x)->Gm l q->jt q->Gm (l++r) (r.foldl iH q)
 |[],l,q,_,h,_=>by simpa using h
 |p::r,l,q,hb,h,hq=>by
  have hp:=hb p (by simp);have:=Ae r (l++[p]) (iH q p) (by simpa using hb) (Jv (λx hx=>hb x (by simp[hx])) h hq hp) (yy (.inr hq) hp);simpa using this
theorem zt{t}(hok:TestOk t):Gm (eZ t) (d6 t):=by
 have hB:=mj hok;have hne:=EB hok.two;unfold d6
 cases hp:eZ t with
 |nil=>exact absurd hp hne
 |cons p r=>
  rw[hp]at hB;have hpB:=hB p (by simp);have e:iH iE p=p:=by simp[iH,i6,i7,iE]
  rw[pp,e];have:=Ae r [p] p (by simpa using hB) ⟨⟨⟨p,by simp,rfl⟩,by simp[Frac.le_refl]⟩,⟨p,by simp,rfl⟩,by simp[Frac.le_refl]⟩ hpB;simpa using this
def gy (t:HrTest):Bool:=(da t).2
theorem NW{t}(hok:TestOk t):gy t=true↔∀p,p∈eZ t->∀q,q∈eZ t->p.1.le q.2:=by
 have hb:=zt hok;have hB:=mj hok;have hr:=yi hok;have e:gy t=true↔(d6 t).1.le (d6 t).2:=by
  rw[gy,da];dsimp only;rw[yY,Frac.lt_false]
 rw[e];constructor
 .intro h p hp q hq;exact Frac.le_trans (hB p hp).2.2.1 hr.2.2.2 (hB q hq).2.2.2 (Frac.le_trans (hB p hp).2.2.1 hr.2.2.1 hr.2.2.2 (hb.1.2 p hp) h) (hb.2.2 q hq)
 .intro h;obtain⟨⟨p,hp,e1⟩,_⟩:=hb.1;obtain⟨⟨q,hq,e2⟩,_⟩:=hb.2;rw[<-e1,<-e2];exact h p hp q hq
theorem vS:∀(l) (last),eM last l=false->(∀m,m∈l->last<m.minute)/\l.Pairwise λa b=>a.minute<b.minute
 |[],_,_=>⟨λ_ h=>(fW h).elim,.nil⟩
 |m::r,last,h=>by
  rw[eM,SH]at h;have h1:last<m.minute:=by simpa using h.1
  have ⟨h2,h3⟩:=vS r m.minute h.2;refine⟨λx hx=>?_,.cons h2 h3⟩;rcases ce.1 hx with rfl|hx
  .exact h1
  .have:=h2 x hx;omega
theorem eX{nk}{t}(h:aO nk t=0):TestOk t/\0<=t.kind/\t.kind<nk:=by
 unfold aO at h;split at h
 .rename_i h1;split at h
  .rename_i h2;split at h
   .rename_i h3;split at h
    .rename_i h4;split at h
     .cases h
     .rename_i h5;simp[al]at h1 h2 h3;have h5':=vS _ _ (IR.2 h5);rw[kK]at h4;refine⟨⟨⟨by omega,λm hm=>?_,by omega⟩,by omega,h5'.2⟩,by omega,by omega⟩;have:=h4 m hm;simp[fC,al]at this;omega
    .cases h
   .cases h
  .cases h
 .cases h
theorem wM{s}{t}(h:bn s [t]=0):(hrCheck s).2.2=0/\aO s.kinds.length t=0:=by
 unfold bn at h;split at h
 .rename_i hc;refine⟨hc,?_⟩;simp only[bW]at h;split at h<;>assumption
 .contradiction
def di (s:HrShop) (t:HrTest):Span×Int:=if bn s [t]=0 then(if gy t=true then((da t).1,0) else(⟨0,0⟩,9)) else(⟨0,0⟩,bn s [t])
theorem JZ(s)(t):af Tryz.prog 19 [s.pv,t.pv] (.tuple [(di s t).1.pv,.int .i64 (di s t).2]):=by
 refine aa (ah Tryz.func19 rfl (by kernel_rfl)) rfl ?_;simp only[go_sem,simprocAttr];refine aY (kq s [t] true (by simp)) (by simp only[go_sem,simprocAttr]) (.int _ _) ?_;simp only[go_sem,simprocAttr];cases h0:(bn s [t] != 0)
 rotate_left
 .have h0':¬bn s [t]=0:=by simpa using h0
  simp only[di,if_neg h0',go_sem,simprocAttr]
 have h0':bn s [t]=0:=by simpa using h0
 have hok:=(eX (wM h0').2).1;simp only[go_sem,simprocAttr];refine ae (Am t hok) rfl ?_;simp only[Span.pv,go_sem,simprocAttr];cases h1:(da t).2
 .simp only[di,h0',gy,h1,go_sem,simprocAttr]
 .simp only[di,h0',gy,h1,go_sem,simprocAttr]
def uL {α:Type}:List α->List (α×α)
 |[]=>[]
 |x::r=>r.map (λy=>(x,y))++uL r
theorem pV{α}(x:α):∀l,∀q,q∈uL (l++[x])↔q∈uL l\/∃y,y∈l/\q=(y,x)
 |[],q=>by simp[uL]
 |z::l,q=>by
  rw[eW,uL,uL,b7,b7,pV x l,ca,b7];simp only[bD,bj,ce,fW,or_false];constructor
  .rintro((h|h)|h|⟨y,hy,h⟩)
   .exact .inl (.inl h)
   .exact .inr ⟨z,.inl rfl,h⟩
   .exact .inl (.inr h)
   .exact .inr ⟨y,.inr hy,h⟩
  .rintro((h|h)|⟨y,rfl|hy,h⟩)
   .exact .inl (.inl h)
   .exact .inr (.inl h)
   .exact .inl (.inr h)
   .exact .inr (.inr ⟨y,hy,h⟩)
theorem xv(e):∀(rest done) (q),(q∈ig e done rest\/∃p,p∈uL done/\q=lu e p.1 p.2)↔∃p,p∈uL (done++rest)/\q=lu e p.1 p.2
 |[],done,q=>by simp[ig]
 |b::r,done,q=>by
  have:=xv e r (done++[b]) q;rw[dq,Dt]at this;rw[<-this,ig,b7,dN];constructor
  .rintro((⟨a,ha,h⟩|h)|⟨p,hp,h⟩)
   .exact .inr ⟨(a,b),(pV b done _).2 (.inr ⟨a,ha,rfl⟩),h.symm⟩
   .exact .inl h
   .exact .inr ⟨p,(pV b done _).2 (.inl hp),h⟩
  .rintro(h|⟨p,hp,h⟩)
   .exact .inl (.inr h)
   .rcases(pV b done _).1 hp with hp|⟨a,ha,rfl⟩
    .exact .inr ⟨p,hp,h⟩
    .exact .inl (.inl ⟨a,ha,h.symm⟩)
theorem Lu(t)(q):q∈eZ t↔∃p,p∈uL t.marks/\q=lu t.error p.1 p.2:=by
 have:=xv t.error t.marks [] q;simpa[uL,eZ]using this
def d7 (m:HrMark):AV:=.p m.pv
attribute [go_sem] d7
def tY:AV:=.p (.agg [.int .i64 0,.int .i64 0])
theorem Q2(l)(b)(h)(hl:l≠[])(hlen:l.length<=10) :
  aB Tryz.prog 68 [.p (.slice 2 (l.map HrMark.pv) b)] h (λr h'=>r=.ret (.slice h.length l.length 0 l.length)/\h'=h++[.row 2 (l.map d7)]):=by
 refine aA (ah Tryz.func68 rfl (by kernel_rfl)) rfl ?_;have hne:¬(l.map HrMark.pv=[]):=by simpa using hl
 have hrm:l.length<=ar:=by simp[ar];omega
 have hm:(l.map HrMark.pv).map AV.p=l.map d7:=by simp[d7]
 have hne2:¬(l.map d7=[]):=by simpa using hl
 simp only[hne,hrm,hm,hne2,go_sem,simprocAttr]
theorem On(l:List HrMark)(i id)(h)(hid:h[id]?=some (.row 2 (l.map d7)))(hi:i<l.length)(hlen:l.length<=10) :
  aB Tryz.prog 67 [.slice id l.length 0 l.length,.p (.int .i64 i),.p (.int .i64 (i+1:Nat))] h
   (λr h'=>r=.ret (.slice id l.length 0 (l.length-1))/\h'=h.set id (.row 2 ((l.eraseIdx i).map d7++[tY]))):=by
 refine aA (ah Tryz.func67 rfl (by kernel_rfl)) rfl ?_;have h1:(i:Int)<=((i+1:Nat):Int):=by omega
 have h2:((i+1:Nat):Int)<=(l.length:Int):=by omega
 have h3:((i:Int)==((i+1:Nat):Int))=false:=by simp;omega
 have h0:(0:Int)<=(i:Int):=by omega
 have h4:(0:Int)+(l.length:Int)<=(l.length:Int):=by omega
 have h5:(i:Int)<=(l.length:Int):=by omega
 have h6:i+1+(l.length-(i+1))<=l.length:=by omega
 have h7:¬(i=l.length):=by omega
 have hys:List.take (l.length-(i+1)) (List.drop (i+1) (List.map d7 l))=(l.drop (i+1)).map d7:=by
  rw[<-List.map_drop,gv (by simp)]
 have h8:i+(l.length-(i+1))=l.length-1:=by omega
 have h9:l.length-1<=l.length:=by omega
 obtain⟨z,hz⟩:∃z,List.drop (l.length-1) (List.map d7 l)=[z]:=by
  have:(List.drop (l.length-1) (List.map d7 l)).length=1:=by simp;omega
  match hd:List.drop (l.length-1) (List.map d7 l),this with
  |[z],_=>exact⟨z,rfl⟩
 have her:List.take i (List.map d7 l)++((l.drop (i+1)).map d7++[z])=(l.eraseIdx i).map d7++[z]:=by
  rw[<-dq,<-y6,<-ca,SF]
 have hel:(l.eraseIdx i).length=l.length-1:=by rw[xV,if_pos hi]
 have hgs:∀x,(h.set id x)[id]?=some x:=λx=>by rw[iJ (ax.1 hid).1]
 have h10:((l.length-1:Nat):Int)<=(l.length:Int):=by omega
 have h11:(0:Int)<=((l.length-1:Nat):Int):=by omega
 have h12:l.length-1+1=l.length:=by omega
 have h13:l.length-(l.length-1)=1:=by omega
 have h14:l.length-1+(l.length-(l.length-1))<=l.length:=by omega
 have h15:¬((l.length:Int)<=((l.length-1:Nat):Int)):=by omega
 have htk:List.take (l.length-1) (List.map d7 (l.eraseIdx i)++[z])=List.map d7 (l.eraseIdx i):=jL (by rw[dL,hel]);have nJ:List.drop l.length (List.map d7 (l.eraseIdx i)++[z])=[]:=Dw (by simp[hel];omega);simp only[h15,htk,nJ,hid,h0,h1,h2,h3,h4,h5,h6,h7,hys,h8,h9,hz,her,hel,hgs,h10,h11,h12,h13,Nat.sub_zero,d5,List.length_drop,dq,pO,aK,bt,bi,bw,IN,Nc,tY,go_sem,simprocAttr]
def mo (l:List Int):PV:=.slice 1 (l.map aG) false
def wo (t:HrTest) (i:Nat):HrTest:={ t with marks:=t.marks.eraseIdx i }
def nh (t:HrTest):Nat->List HrMark->List Int
 |_,[]=>[]
 |i,_::r=>(if gy (wo t i)=true then [(i:Int)] else [])++nh t (i+1) r
def wW (t:HrTest):List Int:=if gy t=true then [] else nh t 0 t.marks
theorem U6{t}(hok:TestOk t){i}(h3:3<=t.marks.length):TestOk (wo t i):=by
 have hs:(t.marks.eraseIdx i).Sublist t.marks:=List.eraseIdx_sublist ..;have hl:(t.marks.eraseIdx i).length<=t.marks.length/\2<=(t.marks.eraseIdx i).length:=by
  rw[xV];split<;>omega
 exact⟨⟨iN hl.1 hok.len,λm hm=>hok.all m (hs.subset hm),hok.err⟩,hl.2,hok.sorted.sublist hs⟩
theorem NV{t}(hok:TestOk t)(h:t.marks.length=2):gy t=true:=by
 rw[NW hok]
 match hm:t.marks,h with
 |[a,b],_=>
  intro p hp q hq;have e:eZ t=[lu t.error a b]:=by simp[eZ,ig,hm]
  rw[e,dA]at hp hq;subst hp hq;have h1:=mj hok (lu t.error a b) (by rw[e];simp);have h2:0<b.minute-a.minute:=h1.2.2.1;have h3:=hok.err;show _*_<=_*_;simp only[lu];exact tr (by omega) (by omega)
def jD (s:HrShop) (t:HrTest):List Int×Int:=if bn s [t]=0 then(wW t,0) else([],bn s [t])
set_option maxHeartbeats 2000000 in
theorem Mw(s)(t):af Tryz.prog 23 [s.pv,t.pv] (.tuple [mo (jD s t).1,.int .i64 (jD s t).2]):=by
 refine eB (ah Tryz.func23 rfl (by kernel_rfl)) rfl ?_;simp only[go_sem,simprocAttr];refine aY (kq s [t] true (by simp)) (by simp only[go_sem,simprocAttr]) (.int _ _) ?_;simp only[go_sem,simprocAttr];cases h0:(bn s [t] != 0)
 rotate_left
 .have h0':¬bn s [t]=0:=by simpa using h0
  simp only[jD,if_neg h0',mo,bj,go_sem,simprocAttr];exact⟨_,_,rfl,rfl,.inr ⟨rfl,1,rfl⟩,.inl rfl,trivial⟩
 have h0':bn s [t]=0:=by simpa using h0
 have hok:=(eX (wM h0').2).1;have hsp:jD s t=(wW t,0):=by rw[jD,if_pos h0']
 rw[hsp];simp only[go_sem,simprocAttr];refine ae (Am t hok) rfl ?_;simp only[go_sem,simprocAttr];cases h1:(da t).2;rotate_left
 .simp only[wW,gy,h1,mo,bj,go_sem,simprocAttr];exact⟨_,_,rfl,rfl,.inr ⟨rfl,1,rfl⟩,.inl rfl,trivial⟩
 have hnp:¬gy t=true:=by simp[gy,h1]
 have h3:3<=t.marks.length:=by
  rcases dg t.marks.length 3 with h|h
  .have:=hok.two;exact absurd (NV hok (by omega)) hnp
  .exact h
 have hlen:=hok.len;have hne:t.marks≠[]:=by intro h;rw[h]at h3;simp at h3
 have hsp2:wW t=nh t 0 t.marks:=by rw[wW,if_neg hnp]
 rw[hsp2];simp only[go_sem,simprocAttr];refine ck 4 1 (by simp only[go_sem,simprocAttr]) ?_;simp only[go_sem,simprocAttr]
 refine eO [3,8,28] (σ:=List HrMark×List HrMark×List Int×AObj×Heap)
  (λq=>t.marks=q.1++q.2.1/\nh t 0 t.marks=q.2.2.1++nh t q.1.length q.2.1/\q.2.2.1.length<=q.1.length/\(q.2.2.2.1=.row 3 [.p t.pv]\/∃id ver n,q.2.2.2.1=.row 3 [.agg [.p (.int .i64 t.kind),.p (.int .i64 t.error),.slice id ver 0 n]])) (λq=>q.2.1.length)
  (λq=>[(4,.slice 3 q.2.2.1.length 0 q.2.2.1.length),(29,.p (.int .i64 q.1.length))]) (λq=>[.row 3 [.p s.pv],q.2.2.2.1,.row 2 [.p (da t).1.pv],.row 1 (q.2.2.1.map λn=>.p (aG n))]++q.2.2.2.2) ([],t.marks,[],.row 3 [.p t.pv],[]) ⟨rfl,rfl,bi _,.inl rfl⟩ (by simp only[Span.pv,bj,bw,go_sem,simprocAttr]) ?_ ?_
 .simp only[go_sem,simprocAttr]
 rintro⟨done,rest,out,a,g⟩ ⟨e1,e2,e3,ha⟩
 dsimp only at e1 e2 e3 ha
 cases rest with
 |nil=>
  have hlt:¬((done.length:Int)<(t.marks.length:Int)):=by rw[e1];simp
  rw[nh,bw]at e2;simp only[hlt,decide_false,e2,mo,go_sem,simprocAttr]
  exact .inl rfl
 |cons b r=>
  obtain⟨hx,hlt⟩:=dZ e1;have hlen1:=congrArg List.length e1;simp only[aK,cc]at hlen1;have hi:done.length<t.marks.length:=by omega
  have hnx:IntKind.i64.wrap ((done.length:Int)+1)=(((done++[b]).length:Nat):Int):=be (by omega) (by simp[ar];omega) (by simp);have hn1:IntKind.i64.wrap ((done.length:Int)+1)=((done.length+1:Nat):Int):=by rw[hnx];simp
  have hwo:=U6 hok (i:=done.length) h3;simp only[hlt,decide_true,go_sem,simprocAttr];refine ct (Q2 t.marks false _ hne hlen) ?_;simp only[hn1,go_sem,simprocAttr];have g0:=kg (lo:=g) rfl;have s0:=lQ (lo:=g) rfl;have gg:=kf (lo:=g) rfl;have ss:=lP (lo:=g) rfl;refine ct (On t.marks done.length _ _ (by simp) hi hlen) ?_;have hrm:out.length+1<=ar:=by simp[ar];omega
  have hog:nh t done.length (b::r)=(if gy (wo t done.length)=true then [((done.length:Nat):Int)] else [])++nh t (done.length+1) r:=rfl;rw[hog]at e2;have hfz:∀n h,aS (ci n h) (List.map d7 (t.marks.eraseIdx done.length)++[tY])=some ((wo t done.length).marks.map HrMark.pv++[.agg [.int .i64 0,.int .i64 0]]):=by
   intro n h;have e:List.map d7 (t.marks.eraseIdx done.length)++[tY]=List.map AV.p ((wo t done.length).marks.map HrMark.pv++[.agg [.int .i64 0,.int .i64 0]]):=by simp[d7,tY,wo]
   rw[e];exact de (ef n h) id _ |>.trans (by simp)
  have htk2:List.take (t.marks.length-1) ((t.marks.eraseIdx done.length).map HrMark.pv++[.agg [.int .i64 0,.int .i64 0]])=(t.marks.eraseIdx done.length).map HrMark.pv:=by
   rw[jL (by rw[dL,xV,if_pos hi])]
  have hel2:(t.marks.eraseIdx done.length).length+1=t.marks.length:=by rw[xV,if_pos hi];omega
  have hfl:t.marks.length-1<=t.marks.length:=by omega
  rcases ha with rfl|⟨id,ver,n,rfl⟩ <;>
  (simp only[s0,go_sem,simprocAttr]
   refine aY (Am (wo t done.length) hwo) ?_ (.tuple ?_) ?_
   .simp only[g0,hfz,htk2,hel2,aK,bt,wo,go_sem,simprocAttr]
   .exact Flat.cons (.agg (Flat.cons (.int _ _) (Flat.cons (.int _ _) Flat.nil))) (Flat.cons (.bool _) Flat.nil)
   simp only[dq,aK,bt,gg,ss,go_sem,simprocAttr];cases hp:(da (wo t done.length)).2
   .simp only[go_sem,simprocAttr];refine br (done++[b],r,out,_,g++[AObj.row 2 (List.map d7 (t.marks.eraseIdx done.length)++[tY]),AObj.row 2 [AV.p (PV.agg [PV.int IntKind.i64 (da (wo t done.length)).fst.lo,PV.int IntKind.i64 (da (wo t done.length)).fst.hi])]]) ⟨by rw[e1];simp,by rw[e2,if_neg (by rw[gy,hp];simp)];simp,by simp;omega,.inr ⟨g.length+1+1+1+1,t.marks.length,t.marks.length-1,rfl⟩⟩ (gh _) ?_ ?_
    .simp only[go_sem,simprocAttr]
    .simp only[hnx,go_sem,simprocAttr]
   .simp only[bt,hrm,go_sem,simprocAttr];refine br (done++[b],r,out++[((done.length:Nat):Int)],_,g++[AObj.row 2 (List.map d7 (t.marks.eraseIdx done.length)++[tY]),AObj.row 2 [AV.p (PV.agg [PV.int IntKind.i64 (da (wo t done.length)).fst.lo,PV.int IntKind.i64 (da (wo t done.length)).fst.hi])]]) ⟨by rw[e1];simp,by rw[e2,if_pos (by rw[gy,hp])];simp,by simp;omega,.inr ⟨g.length+1+1+1+1,t.marks.length,t.marks.length-1,rfl⟩⟩ (gh _) ?_ ?_
    .simp only[go_sem,simprocAttr];rw[ca];rfl
    .simp only[hnx,aK,bt,go_sem,simprocAttr])
end Abs
end Go.Proofs.YtnjiadikeacfaaaGreatDoor
