/- CONTRACTS of the program's functions, and laws on what they return. No conditions but those in the theorems' heads. -/
import Derived.Test.YtmndpldajflenaaGreatDoorTrR
set_option linter.all false
set_option maxHeartbeats 16000000
open Go.Proofs.Tryz renaming prog->TP
namespace Go.Proofs.YtmndpldajflenaaGreatDoor
namespace Abs
namespace Tr
set_option maxRecDepth 4000
def ck (l:List Nat):List Int:=l.map λn:Nat=>(n:Int)
theorem cJ(l:List Nat):(ck l).length=l.length:=by simp[ck]
theorem wZ(l:List Nat):(ck l).map intPV=l.map bQ:=by simp[ck,intPV,bQ,zA]
theorem HT{l:List Nat}{i:Nat}{x:Int}(h:(ck l)[i]?=some x):∃n,l[i]?=some n/\x=(n:Int):=by
 unfold ck at h;rw[bU,bx]at h;obtain⟨n,h1,h2⟩:=h;exact⟨n,h1,h2.symm⟩
theorem Av{p:Nat->Int->Bool}{q:Nat->Bool}(h:∀i (n:Nat),p i (n:Int)=q n):∀(l:List Nat) (k:Nat),bv p (ck l) k=l.any q
 |[],_=>rfl
 |x::l,k=>by
  show (p k (x:Int)||bv p (ck l) (k+1))=_;rw[h,Av h l (k+1),eV]
theorem sR{fv:PV}(v:PV)(l:List Nat)(p:Nat->Bool)(hv:ISl v (ck l))(hl:l.length<1000000)(hf:∀(i n:Nat),n∈l->rK TP fv [.int .i64 i,.int .i64 (n:Int)] (.bool (p n))) :
  PCall TP 64 [v,fv] (.bool (l.any p)):=by
 have ha:=Av (p:=λ_ x=>p x.toNat) (q:=p) (λ_ _=>by simp) l 0;generalize hL:ck l=L at hv
 cases hv with
 |nil=>
  have hl0:l=[]:=by
   cases l with
   |nil=>rfl
   |cons x l=>cases hL
  subst hl0;refine ae (am Tryz.func64 rfl) rfl ?_;simp only[go_sem,simprocAttr];refine aE ?_;simp only[go_sem,simprocAttr]
  rfl
 |mk=>
  rw[<-ha,hL];refine Md L (λ_ x=>p x.toNat) _ (by rw[<-hL,cJ];omega) λi x hx=>?_;rw[<-hL]at hx;obtain⟨n,h1,rfl⟩:=HT hx;have:=hf i n (aV h1);simpa[intPV]using this
def hH (sp:Nat->Nat->Bool):List PV:=cB 64 λj=>sp (j / 8) (j%8)
theorem CV(sp:Nat->Nat->Bool):(hH sp).length=64:=iO _ _
attribute [go_sem] CV
theorem JH(sp:Nat->Nat->Bool){x t:Nat}(hx:x<8)(ht:t<8):(hH sp)[x*8+t]?=some (.bool (sp x t)):=by
 unfold hH;rw[cN _ (by omega),(jU ht).1,(jU ht).2]
theorem Ju:ax TP 173=some (.agg (hH λ_ _=>false)):=by kernel_rfl
attribute [go_sem high] Ju
theorem xg(k:Int)(g:Nat)(m:Nat->Bool)(hg:g<8):PCall TP 65 [.int .i64 k,.int .i64 (g:Int),.ptr 8 [.agg (cB 8 m)] 0 0] (.bool (m g)):=by
 have h1:=cN m hg;have h2:(g:Int)<8:=by omega
 refine ae (am Tryz.func65 rfl) rfl ?_;simp only[h1,h2,Nat.mul_one,go_sem,simprocAttr]
theorem Kw(k:Int)(i c:Nat)(sp:Nat->Nat->Bool)(hi:i<8)(hc:c<8):PCall TP 69 [.int .i64 k,.int .i64 (i:Int),.ptr 64 [.agg (hH sp)] 0 0,.ptr 1 [.int .i64 (c:Int)] 0 0] (.bool (sp i c)):=by
 have h1:=JH sp hi hc;have h2:(i:Int)<8:=by omega
 have h3:(c:Int)<8:=by omega
 refine ae (am Tryz.func69 rfl) rfl ?_;simp only[h1,h2,h3,Nat.mul_one,eN,go_sem,simprocAttr]
theorem KC(k:Int)(c:Nat)(best:List Nat)(sp:Nat->Nat->Bool)(hc:c<8)(hb:∀i,i∈best->i<8)(hl:best.length<1000000):PCall TP 68 [.int .i64 k,.int .i64 (c:Int),.ptr 1 [.slice 1 (best.map bQ) false] 0 0,.ptr 64 [.agg (hH sp)] 0 0] (.bool (!best.any λi=>sp i c)):=by
 refine ae (am Tryz.func68 rfl) rfl ?_;simp only[go_sem,simprocAttr];refine dX (sR (fv:=.func (.func 69) [] [.ptr 64 [.agg (hH sp)] 0 0,.ptr 1 [.int .i64 (c:Int)] 0 0]) (.slice 1 (best.map bQ) false) best (λi=>sp i c) (by rw[<-wZ];exact .mk) hl λk i hi=>⟨_,_,_,rfl,Kw k i c sp (hb i hi) hc⟩) ?_ (.bool _) ?_
 .simp only[go_sem,simprocAttr]
 simp only[go_sem,simprocAttr]
def iH (b:List TrBatch) (f:Bool) (v:PV) (sp:Nat->Nat->Bool) (R:List Nat) (k:Nat):Heap:=
 [.row 1 [.p (.slice 5 (b.map TrBatch.pv) f)],.row 1 [.p v],.row 1 [.slice 6 R.length 0 k],.row 82 [.p (bI b f)],.row 64 [.p (.agg (hH sp))],.row 1 [.func (.func 67) [] [.ptr 1 1 0 0,.ptr 2 1 0 0,.ptr 4 1 0 0,.ptr 0 1 0 0,.ptr 5 1 0 0]],.row 1 (rL R)]
attribute [go_sem] iH
theorem ro{b:List TrBatch}{f:Bool}{v:PV}{sp:Nat->Nat->Bool}{R:List Nat}{k:Nat}:∀o,o∈iH b f v sp R k->bw 7 o:=by
 intro o ho;simp only[iH,dQ,rM,or_false]at ho;rcases ho with rfl|rfl|rfl|rfl|rfl|rfl|rfl
 all_goals first|exact bg R 7|(simp[bw,below,de,bS,bP])
def ra (b:List TrBatch) (f:Bool) (v:PV) (sp:Nat->Nat->Bool) (best:List Nat) (o:Option (List Nat)) (r:AEnd) (h':Heap):Prop:=
 match o with
 |some l=>r=.ret (.p (.bool true))/\∃R,h'=iH b f v sp R l.length/\R.take l.length=l/\R.length<=100
 |none=>r=.ret (.p (.bool false))/\∃R,h'=iH b f v sp R best.length/\R.take best.length=best/\R.length<=100
theorem H'(b:List TrBatch)(f:Bool)(v:PV)(sp:Nat->Nat->Bool)(compl:List Nat)(hb8:b.length<=8)(hv:ISl v (ck compl))(hcl:compl.length<1000000)(hc8:∀c,c∈compl->c<8):∀(many a:Nat) (best R:List Nat),a<=b.length+1->best.length+many<=10->R.length<=100->(∀i,i∈best->i<8)->R.take best.length=best ->
  aN TP 67 [.p (.int .i64 (a:Int)),.p (.int .i64 (many:Int)),.ptr 1 1 0 0,.ptr 2 1 0 0,.ptr 4 1 0 0,.ptr 0 1 0 0,.ptr 5 1 0 0] (iH b f v sp R best.length)
   (ra b f v sp best (ci b.length sp compl many a best)):=by
 intro many
 induction many with
 |zero=>
  intro a best R ha hm hR hb hRb;have hx:ju sp compl best=!(compl.any λc=>!best.any λi=>sp i c):=by
   unfold ju;rw[List.all_eq_not_any_not]
  have hgo:ci b.length sp compl 0 a best=if ju sp compl best then some best else none:=rfl
  have hbl:best.length<=R.length:=by
   have:=congrArg List.length hRb;rw[zj]at this;omega
  have hRm:List.take best.length (R.map bQ)=best.map bQ:=by rw[<-qh,hRb]
  have c1:=sR (fv:=.func (.func 68) [] [.ptr 1 [.slice 1 (best.map bQ) false] 0 0,.ptr 64 [.agg (hH sp)] 0 0]) v compl (λc=>!best.any λi=>sp i c) hv hcl λk c hc=>⟨_,_,_,rfl,KC k c best sp (hc8 c hc) hb (by omega)⟩
  refine dS (am Tryz.func67 rfl) rfl ?_;have hvs:v=.nilslice\/∃l g,v=.slice 1 l g:=by
   generalize ck compl=L at hv
   cases hv with
   |nil=>exact .inl rfl
   |mk=>exact .inr ⟨_,_,rfl⟩
  have hfin:∀e:Bool,ju sp compl best=e->ra b f v sp best (ci b.length sp compl 0 a best) (.ret (.p (.bool e))) (iH b f v sp R best.length):=λe he=>by
   rw[hgo,he];cases e
   .exact⟨rfl,R,rfl,hRb,hR⟩
   .exact⟨rfl,R,rfl,hRb,hR⟩
  rcases hvs with rfl|⟨l,g,rfl⟩
  all_goals
   simp only[go_sem,simprocAttr];refine dX c1 ?_ (.bool _) ?_
   .simp only[lB,hRm,go_sem,simprocAttr]
   simp only[<-hx,go_sem,simprocAttr];refine⟨_,[],(co _).symm,rfl,?_,trivial,hfin _ rfl⟩
   exact λo ho=>ro (b:=b) (f:=f) (sp:=sp) (R:=R) (k:=best.length) o ho
 |succ many ih=>
  intro a best R ha hm hR hb hRb;have hm0:(((many+1:Nat):Int)==0)=false:=by rw[beq_eq_false_iff_ne];omega
  have hgo:ci b.length sp compl (many+1) a best=((List.range b.length).drop a).findSome? λi=>ci b.length sp compl many (i+1) (best++[i]):=rfl;have wm:IntKind.i64.wrap (((many+1:Nat):Int)-1)=((many:Nat):Int):=(aj (by omega) (by omega)).trans (by omega);refine dS (am Tryz.func67 rfl) rfl ?_;simp only[hm0,go_sem,simprocAttr]
  refine aS [1,3,5,6] (σ:=Nat×List Nat) (λq=>q.1<=b.length+1/\q.2.length<=100/\q.2.take best.length=best/\ci b.length sp compl (many+1) a best=((List.range b.length).drop q.1).findSome? λi=>ci b.length sp compl many (i+1) (best++[i])) (λq=>b.length+1-q.1)
   (λq=>[(10,.p (.int .i64 (q.1:Int)))]) (λq=>iH b f v sp q.2 best.length) (a,R) ⟨ha,hR,hRb,hgo⟩ ?_ ?_
  .simp only[go_sem,simprocAttr];exact bg R 7
  rintro⟨i,R⟩ ⟨hi,hR,hRb,hT⟩
  dsimp only at hi hR hRb hT;dsimp only;have hbl:best.length<=R.length:=by
   have:=congrArg List.length hRb;rw[zj]at this;omega
  rcases aw i b.length with hin|hin
  rotate_left
  .have hd:decide ((i:Int)<(b.length:Int))=false:=decide_eq_false (by omega);rw[pf (by simpa using hin)]at hT;simp only[hd,go_sem,simprocAttr];refine⟨_,[],(co _).symm,rfl,?_,trivial,?_⟩
   .exact λo ho=>ro (b:=b) (f:=f) (sp:=sp) (R:=R) (k:=best.length) o ho
   .rw[hT];exact⟨rfl,R,rfl,hRb,hR⟩
  have hd:decide ((i:Int)<(b.length:Int))=true:=decide_eq_true (by omega);have wi:IntKind.i64.wrap ((i:Int)+1)=((i+1:Nat):Int):=az (by omega) (by simp[ai];omega) (by omega);have wl:IntKind.i64.wrap (((best.length+1:Nat):Int)-1)=((best.length:Nat):Int):=(aj (by omega) (by omega)).trans (by omega);have oJ:(List.range b.length).drop i=i::(List.range b.length).drop (i+1):=by
   rw[rN (by simpa using hin),List.getElem_range]
  rw[oJ,List.findSome?_cons]at hT
  obtain⟨R',hRl,hR'b,hR'c,hih⟩:∃R':List Nat,R'.length<=100/\R'.take (best.length+1)=best++[i] /\
    ((best.length=R.length/\R'=R++[i])\/(best.length<R.length/\R'.length=R.length/\rL R'=List.take best.length (rL R)++[.p (.int .i64 (i:Int))]++List.drop (best.length+1) (rL R))) /\
    aN TP 67 [.p (.int .i64 ((i+1:Nat):Int)),.p (.int .i64 (many:Int)),.ptr 1 1 0 0,.ptr 2 1 0 0,.ptr 4 1 0 0,.ptr 0 1 0 0,.ptr 5 1 0 0] (iH b f v sp R' (best.length+1)) (ra b f v sp (best++[i]) (ci b.length sp compl many (i+1) (best++[i]))):=by
   have mk:∀R':List Nat,R'.length<=100->R'.take (best.length+1)=best++[i]->aN TP 67 [.p (.int .i64 ((i+1:Nat):Int)),.p (.int .i64 (many:Int)),.ptr 1 1 0 0,.ptr 2 1 0 0,.ptr 4 1 0 0,.ptr 0 1 0 0,.ptr 5 1 0 0] (iH b f v sp R' (best.length+1)) (ra b f v sp (best++[i]) (ci b.length sp compl many (i+1) (best++[i]))):=λR' h1 h2=>by
    have:=ih (i+1) (best++[i]) R' (by omega) (by simp;omega) h1 (λk hk=>by
     rcases gu.1 hk with h|h
     .exact hb k h
     .have:k=i:=by simpa using h
      omega) (by simpa using h2)
    simpa using this
   rcases yO hbl with he|hlt
   .have hRe:R=best:=by rw[<-hRb,he,yP]
    refine⟨R++[i],by simp;omega,by rw[hRe,dz (by simp)],.inl ⟨he,rfl⟩,mk _ (by simp;omega) (by rw[hRe,dz (by simp)])⟩
   .have ht:(R.take best.length++[i]++R.drop (best.length+1)).take (best.length+1)=best++[i]:=by
     rw[hRb,i6 (by simp)]
    have hl:(R.take best.length++[i]++R.drop (best.length+1)).length=R.length:=by simp;omega
    refine⟨R.take best.length++[i]++R.drop (best.length+1),by omega,ht,.inr ⟨hlt,hl,?_⟩,mk _ (by omega) ht⟩;simp[rL,bQ]
  rcases hR'c with⟨he,hRe⟩|⟨hlt,hRe,hrow⟩
  .have hrm:R.length+1<=ai:=by simp[ai];omega
   simp only[hd,he,hrm,wi,wm,go_sem,simprocAttr];rw[hRe,he]at hih;unfold iH at hih;rw[ay,aC,kC]at hih;refine nh hih (λr h' hr=>?_) (λr h' hr=>?_);rotate_left
   .unfold ra at hr;cases hT2:ci b.length sp compl many (i+1) (best++[i])<;>rw[hT2]at hr<;>cases hr.1
   cases hT2:ci b.length sp compl many (i+1) (best++[i]) with
   |some l=>
    rw[hT2]at hr hT;obtain⟨hr1,R2,rfl,hR2,hR2l⟩:=hr;cases hr1;simp only[go_sem,simprocAttr];refine⟨_,[],(co _).symm,rfl,?_,trivial,?_⟩
    .exact λo ho=>ro (b:=b) (f:=f) (sp:=sp) (R:=R2) (k:=l.length) o ho
    .rw[hT]
     exact⟨rfl,R2,rfl,hR2,hR2l⟩
   |none=>
    rw[hT2]at hr hT;obtain⟨hr1,R2,rfl,hR2,hR2l⟩:=hr;cases hr1;rw[ay,aC]at hR2 |-;have hbl2:best.length+1<=R2.length:=by
     have:=congrArg List.length hR2;rw[zj,ay,aC]at this;omega
    have hR2b:R2.take best.length=best:=by
     have:=congrArg (List.take best.length) hR2;rw[List.take_take,yM (Nat.le_succ _),i6 rfl]at this;exact this
    have e3:(best.length:Int)<=(R2.length:Int):=by omega
    have e4:((best.length:Nat):Int)<=((best.length+1:Nat):Int):=by omega
    simp only[wl,e3,e4,Nat.sub_zero,go_sem,simprocAttr];refine ak (i+1,R2) ⟨by dsimp only;omega,hR2l,hR2b,hT⟩ (by dsimp only;omega) ?_;simp only[wi,go_sem,simprocAttr];exact bg R2 7
  .have hrm:R.length+1<=ai:=by simp[ai];omega
   have hne:¬best.length=R.length:=by omega
   have hle:best.length+1<=R.length:=hlt;simp only[hd,hne,hrm,hle,<-hrow,wi,wm,go_sem,simprocAttr];unfold iH at hih;rw[hRe]at hih;refine nh hih (λr h' hr=>?_) (λr h' hr=>?_);rotate_left
   .unfold ra at hr;cases hT2:ci b.length sp compl many (i+1) (best++[i])<;>rw[hT2]at hr<;>cases hr.1
   cases hT2:ci b.length sp compl many (i+1) (best++[i]) with
   |some l=>
    rw[hT2]at hr hT;obtain⟨hr1,R2,rfl,hR2,hR2l⟩:=hr;cases hr1;simp only[go_sem,simprocAttr];refine⟨_,[],(co _).symm,rfl,?_,trivial,?_⟩
    .exact λo ho=>ro (b:=b) (f:=f) (sp:=sp) (R:=R2) (k:=l.length) o ho
    .rw[hT]
     exact⟨rfl,R2,rfl,hR2,hR2l⟩
   |none=>
    rw[hT2]at hr hT;obtain⟨hr1,R2,rfl,hR2,hR2l⟩:=hr;cases hr1;rw[ay,aC]at hR2 |-;have hbl2:best.length+1<=R2.length:=by
     have:=congrArg List.length hR2;rw[zj,ay,aC]at this;omega
    have hR2b:R2.take best.length=best:=by
     have:=congrArg (List.take best.length) hR2;rw[List.take_take,yM (Nat.le_succ _),i6 rfl]at this;exact this
    have e3:(best.length:Int)<=(R2.length:Int):=by omega
    have e4:((best.length:Nat):Int)<=((best.length+1:Nat):Int):=by omega
    simp only[wl,e3,e4,Nat.sub_zero,go_sem,simprocAttr];refine ak (i+1,R2) ⟨by dsimp only;omega,hR2l,hR2b,hT⟩ (by dsimp only;omega) ?_;simp only[wi,go_sem,simprocAttr];exact bg R2 7
def nH (n:Nat) (tk:Nat->List Nat) (a:Nat):Nat->Bool:=dP (λis i=>is i||(tk i).any is) (List.range' (a+1) (n-(a+1))) (λi=>i==a)
theorem xF{is:Nat->Bool}{i:Nat}:ct is i (is i)=is:=by
 funext j;rw[dm];split
 .rename_i h;rw[h]
 .rfl
theorem tZ{g:(Nat->Bool)->Nat->Bool}{is:Nat->Bool}:∀(l:List Nat),(∀i∈l,g is i=is i)->dP g l is=is
 |[],_=>rfl
 |i::l,h=>by
  show dP g l (ct is i (g is i))=is;rw[h i List.mem_cons_self,xF];exact tZ l λj hj=>h j (eU _ hj)
theorem D0{n:Nat}{tk:Nat->List Nat}{a:Nat}(ht:∀i,∀x∈tk i,x<i)(ha:a<n):nH n tk a=rch n tk [] a:=by
 have e:List.range n=List.range (a+1)++List.range' (a+1) (n-(a+1)):=by
  have:=List.range'_append_1 (s:=0) (m:=a+1) (n:=n-(a+1));rw[eN,show a+1+(n-(a+1))=n by omega]at this;rw[List.range_eq_range',List.range_eq_range'];exact this.symm
 have g0:(λ(is:Nat->Bool) i=>is i||(tk i).any is)=iY tk []:=by
  funext is i;simp[iY]
 unfold nH rch;rw[e,g0];unfold dP;rw[oY]
 congr 1
 refine(tZ (g:=iY tk []) (List.range (a+1)) λi hi=>?_).symm;unfold iY;have h1:(tk i).any (λi=>i==a)=false:=by
  rw[wD];intro h;obtain⟨x,hx,hxx⟩:=fL.1 h;have:=ht i x hx;have:=bX.1 hi;have:x=a:=by simpa using hxx
  omega
 rw[h1];simp
def sK (f:Nat->Nat->Int) (i:Nat):List TrTake:=(List.range i).filterMap λa=>if 0<f a i then some ⟨(a:Int),f a i⟩ else none
def eQ (f:Nat->Nat->Int) (k i:Nat) (x:TrBatch):TrBatch:=if x.lost=true/\i<k then⟨x.name,x.grams,x.fresh,false,x.takes++sK f i⟩ else x
def dR (b:List TrBatch) (f:Nat->Nat->Int) (k:Nat):List TrBatch:=b.mapIdx λi x=>eQ f k i x
theorem nM{b:List TrBatch}{f:Nat->Nat->Int}{k:Nat}:(dR b f k).length=b.length:=by simp[dR]
theorem ko{b:List TrBatch}{f:Nat->Nat->Int}{k i:Nat}:(dR b f k)[i]?=(b[i]?).map (eQ f k i):=by simp[dR]
theorem qM{f:Nat->Nat->Int}{i x:Nat}:x∈(sK f i).map (λt=>t.src.toNat)↔x<i/\0<f x i:=by
 unfold sK;constructor
 .intro h;obtain⟨t,ht,rfl⟩:=eK.1 h;obtain⟨a,ha,hh⟩:=List.mem_filterMap.1 ht;split at hh
  .rename_i hp;cases hh;exact⟨by simpa using bX.1 ha,by simpa using hp⟩
  .cases hh
 .rintro⟨h1,h2⟩
  refine eK.2 ⟨⟨(x:Int),f x i⟩,List.mem_filterMap.2 ⟨x,bX.2 h1,by rw[if_pos h2]⟩,rfl⟩
theorem Fo{b:List TrBatch}{f:Nat->Nat->Int}{i:Nat}(hi:i<b.length):tk (dR b f b.length) i=tk b i++if ba b i=true then(sK f i).map (λt=>t.src.toNat) else []:=by
 have e:b[i]?=some (dj b i):=by rw[cS (aT hi)];exact aT hi
 have e2:dj (dR b f b.length) i=eQ f b.length i (dj b i):=cS (by rw[ko,e];rfl);unfold tk;rw[e2];unfold eQ ba;by_cases hl:(dj b i).lost=true
 .rw[if_pos ⟨hl,hi⟩,if_pos hl,kg]
 .rw[if_neg λh=>hl h.1,if_neg hl,co]
theorem u3{b:List TrBatch}(h:BookOk b){f:Nat->Nat->Int}(ht:Truth b.length (tk b) (ba b) (supp b) f){a:Nat}(ha:a<b.length) :
  Reached (tk b) f a (nH b.length (tk (dR b f b.length)) a) b.length/\∀i,nH b.length (tk (dR b f b.length)) a i=true->i<b.length:=by
 have hlt:∀i,∀x∈tk (dR b f b.length) i,x<i:=λi x hx=>by
  rcases aw i b.length with hi|hi
  .rw[Fo hi]at hx;rcases gu.1 hx with hx|hx
   .exact I8 h i x hx
   .split at hx
    .exact(qM.1 hx).1
    .cases hx
  .have:dj (dR b f b.length) i=⟨.empty,0,0,false,[]⟩:=xl (by rw[nM];exact hi);unfold tk at hx;rw[this]at hx;cases hx
 rw[D0 hlt ha];refine⟨λi hi=>?_,λi hi=>?_⟩
 .rw[rch_iff hlt (by simp) hi,Fo hi];constructor
  .rintro(e|⟨x,hx,e⟩|⟨x,hx,_⟩)
   .exact .inl e
   .rcases gu.1 hx with hx|hx
    .exact .inr (.inl ⟨x,hx,e⟩)
    .split at hx
     .exact .inr (.inr ⟨x,(qM.1 hx).2,e⟩)
     .cases hx
   .cases hx
  .rintro(e|⟨x,hx,e⟩|⟨x,hx,e⟩)
   .exact .inl e
   .exact .inr (.inl ⟨x,List.mem_append_left _ hx,e⟩)
   .obtain⟨h1,h2,h3⟩:=ht.can x i hx;exact .inr (.inl ⟨x,List.mem_append_right _ (by rw[if_pos h3];exact qM.2 ⟨h1,hx⟩),e⟩)
 .rcases aw i b.length with h1|h1
  .exact h1
  .rw[JJ h1]at hi;have:i=a:=by simpa using hi
   omega
def pG (b:List TrBatch) (y:Nat->Int):Nat->Nat->Int:=(l8 b.length y (ba b) (supp b)).f
def En (b:List TrBatch) (y:Nat->Int) (a:Nat):Nat->Bool:=nH b.length (tk (dR b (pG b y) b.length)) a
def fD (b:List TrBatch) (good:List Nat):Nat->Nat->Bool:=uh b.length (tk b) (ba b) (losts b) (supp b) good
theorem EP{b:List TrBatch}(h:BookOk b){y:Nat->Int}(hy:∀i,0<=y i){a:Nat}(ha:a<b.length)(bends:Bool) :
  ∃l,fh b.length (fD b ((List.range b.length).filter λi=>!(En b y a i&&bends))) ((List.range b.length).filter λi=>En b y a i&&bends)=some l/\l.length<=1/\(l.length=1↔(List.range b.length).filter (λi=>En b y a i&&bends)≠[]):=
 Cz (mW h hy) ha (u3 h (mW h hy) ha).1 (u3 h (mW h hy) ha).2 bends rfl
end Tr
end Abs
end Go.Proofs.YtmndpldajflenaaGreatDoor
