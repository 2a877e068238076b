/- CONTRACTS of the program's functions, and laws on what they return. No conditions but those in the theorems' heads. -/
import Derived.Test.YtmndpldajflenaaGreatDoorTrKX
import Derived.Test.YtmndpldajflenaaGreatDoorSoEX
set_option linter.all false
set_option maxHeartbeats 16000000
open Go.Proofs.Tryz renaming prog->TP
namespace Go.Proofs.YtmndpldajflenaaGreatDoor
namespace Abs
theorem Co{P}{f}{args args'}{h}{R}(K)(hl:args'.length=args.length)
  (ha:∀(i:Nat) (a'),args'[i]?=some a'->args[i]?=some a'\/∃a q,args[i]?=some a/\a'=.p q/\oK (cO (λi=>!K i) h) a=some q)
  (hc:aN P f args' (cO K h) R):aN P f args h R:=by
 intro M0 m w cargs hS hargs;have e0:=Dl ⟨m,h,w⟩ K h.length;have hk:=AR hS K;have hargs':cK (Rep M0 (Mem.kill K ⟨m,h,w⟩)) cargs args':=by
  refine⟨by rw[hargs.1,hl],λi a' hi=>?_⟩;rcases ha i a' hi with h1|⟨a,q,h1,rfl,h2⟩
  .exact e0.keep (hargs.2 i a' h1)
  .exact uA (S:=⟨m,h,w⟩) hS K (hargs.2 i a h1) h2
 have:=hc M0 (dD K m) w cargs hk hargs';refine⟨this.1,this.2.mono λe w' hh=>?_⟩;obtain⟨r,h',m',hR,hev,hk',hend⟩:=hh;have hlen:(cO K h).length=h.length:=by simp[cO]
 rw[hlen]at hev;exact⟨r,h',m',hR,e0.trans hev,hk',hend⟩
theorem yq{P:Program}{H:Hints}{ops:Array Oper}{rest:List Oper}{Q:Cont}{o:Oper}{hs:Heap}{A:AAct}{f:FuncId}{args:List AV}{R:AEnd->Heap->Prop}(hc:aN P f args A.h R)
  (h1:∀v h',R (.ret v) h'->bL hs h'/\@WD ⟨P,H,ops,rest,Q⟩ hs (A.put o.dst v h')) (h2:∀v h',R (.panic v) h'->False):@N4 ⟨P,H,ops,rest,Q,o⟩ hs A (.call f args):=by
 refine hc.mono λr h' hr=>?_
 cases r with
 |ret v=>exact h1 v h' hr
 |panic v=>exact(h2 v h' hr).elim
namespace Tr
set_option maxRecDepth 4000
theorem L1(h:Heap)(l:List (Nat×Nat))(b:Bool)(hl:l≠[])(hn:l.length<=1000) :
  aN TP 123 [.p (.slice 2 (l.map edgePV) b)] h (λr h'=>r=.ret (.slice h.length l.length 0 l.length)/\h'=h++[.row 2 ((l.map edgePV).map .p)]):=by
 have h1:¬(l.map edgePV=[]):=by simpa using hl
 have h2:l.length<=ai:=by simp[ai];omega
 have h3:¬((l.map edgePV).map AV.p=[]):=by simpa using hl
 refine dH (am Tryz.func123 rfl) rfl ?_;simp only[h1,h2,h3,go_sem,simprocAttr]
theorem J6(h:Heap) :
  aN TP 123 [.p .nilslice] h (λr h'=>r=.ret (.p .nilslice)/\h'=h):=by
 refine dH (am Tryz.func123 rfl) rfl ?_;simp only[go_sem,simprocAttr]
theorem Jt:ax TP 175=some (.agg (aQ xJ)):=by kernel_rfl
attribute [go_sem high] Jt
def ol:Hints:=je [(69,.low),(70,.low),(71,.low),(72,.low),(73,.low),(75,.low),(76,.low),(77,.low),(78,.low),(74,.cal),(79,.app 74),(80,.bar),(5000000,.slot 5 9)]
theorem I':dv ol Tryz.f121=true:=by kernel_rfl
theorem Dv{P:Program}{Q:Cont}{A:AAct}(i:Nat)(o0 o1 o2 o3 o4 o5 o6 o7 o8 o9 o10 o11:Oper):@W ⟨P,ol,.region i ⟨[o0,o1,o2,o3,o4,o5,o6,o7,o8,o9,o10,o11]⟩ true,Q⟩ A=@WD ⟨P,ol,⟨[o0,o1,o2,o3,o4,o5,o6,o7,o8,o9,o10,o11]⟩,[o0,o1,o2,o3,o4,o6,o7,o8,o9,o5,o10,o11],Q⟩ (lk ol [o0,o1,o2,o3,o4,o5,o6,o7,o8,o9,o10,o11] A) (mU ol [o0,o1,o2,o3,o4,o5,o6,o7,o8,o9,o10,o11] A):=by
 rw[Du];rfl
def gq (b:List TrBatch) (f:Bool) (a:Nat) (all:Nat->Bool):Heap:=
 [.row 82 [.p (.agg (fA (supp b) (.slice 5 (b.map TrBatch.pv) f) (.slice 1 ((losts b).map bQ) false)))],.row 1 [.p (.int .i64 (a:Int))],.row 8 [.p (.agg (cB 8 all))],.row 1 [.func (.func 121) [] [.ptr 0 1 0 0,.ptr 1 1 0 0,.ptr 2 1 0 0,.ptr 3 1 0 0]]]
attribute [go_sem] gq
theorem ky{b:List TrBatch}{f:Bool}{a:Nat}{all:Nat->Bool}:∀o,o∈gq b f a all->bw 4 o:=by
 intro o ho;simp only[gq,dQ,rM,or_false]at ho;rcases ho with rfl|rfl|rfl|rfl<;>simp[bw,below,de,bS,bP]
theorem xQ{b:List TrBatch}{f:Bool}{a:Nat}{all all':Nat->Bool}{F:FuncId}{args:List AV}{v:AEnd}(k:aN TP F args (gq b f a all) (λr h'=>r=v/\h'=gq b f a all'))(hargs:∀x,x∈args->below 4 x)(t:Heap) :
  aN TP F args (gq b f a all++t) (λr h'=>r=v/\h'=gq b f a all'++t):=
 (pw (h:=gq b f a all) (λo ho=>ky o ho) hargs (k.mono λr h' hr=>⟨by rw[hr.2];rfl,hr⟩) t).mono λr h'' hr=>by
  obtain⟨h',rfl,_,e1,rfl⟩:=hr;exact⟨e1,rfl⟩
theorem Az{b:List TrBatch}{f:Bool}{a:Nat}{B B':Nat->Bool}{k:Int}{q:PV}{es:List (Nat×Nat)}(r4 r5:AObj)
  (hc:∀v',ESl v' es->aN TP 121 [.p (.int .i64 k),.p q,.p v',.ptr 0 1 0 0,.ptr 1 1 0 0,.ptr 2 1 0 0,.ptr 3 1 0 0] (gq b f a B) (λr h'=>r=.ret (.p (.tuple []))/\h'=gq b f a B')) (hes:es≠[]) :
  aN TP 121 [.p (.int .i64 k),.p q,.slice 6 es.length 0 es.length,.ptr 0 1 0 0,.ptr 1 1 0 0,.ptr 2 1 0 0,.ptr 3 1 0 0] (gq b f a B++[r4,r5,.row 2 ((es.map edgePV).map .p)])
   (λr h'=>r=.ret (.p (.tuple []))/\h'=gq b f a B'++[r4,r5,.dead]):=by
 refine Co (args':=[.p (.int .i64 k),.p q,.p (.slice 2 (es.map edgePV) false),.ptr 0 1 0 0,.ptr 1 1 0 0,.ptr 2 1 0 0,.ptr 3 1 0 0]) (λi=>i==6) rfl (λi a' hi=>?_) ?_
 .match i,hi with
  |0,hi=>exact .inl hi
  |1,hi=>exact .inl hi
  |2,hi=>
   cases hi;refine .inr ⟨_,_,rfl,rfl,?_⟩;show oK [.dead,.dead,.dead,.dead,.dead,.dead,.row 2 ((es.map edgePV).map .p)] (.slice 6 es.length 0 es.length)=_;have hl:((es.map edgePV).map AV.p).length=es.length:=by simp
   have hz:aM (bH 7 [.dead,.dead,.dead,.dead,.dead,.dead,.row 2 ((es.map edgePV).map .p)]) ((es.map edgePV).map AV.p)=some (es.map edgePV):=gR _ _ _
   simp only[hz,hl,go_sem,simprocAttr]
  |3,hi=>exact .inl hi
  |4,hi=>exact .inl hi
  |5,hi=>exact .inl hi
  |6,hi=>exact .inl hi
  |i+7,hi=>simp at hi
 .exact xQ (hc _ (.mk hes)) (by simp[below,de,bS,bP]) [r4,r5,.dead]
theorem Ph(b:List TrBatch)(f:Bool)(a:Nat)(hk:BookOk b)(ha:a<8)(hT:cZ b):∀(ts pre:List Nat) (p:Pb) (v:PV) (more:List (Nat×Nat)) (all:Nat->Bool),
  losts b=pre++ts->MP p->(∀i,-(pre.length:Int)<=p.has i/\p.has i<=1000000)->(∀i,-(pre.length:Int)<=p.needs i/\p.needs i<=1000000)->ESl v more->more.length<=pre.length->(∀e,e∈more->e.1<8) ->
  aN TP 121 [.p (.int .i64 (pre.length:Int)),.p (.agg (aQ p)),.p v,.ptr 0 1 0 0,.ptr 1 1 0 0,.ptr 2 1 0 0,.ptr 3 1 0 0] (gq b f a all)
   (λr h'=>r=.ret (.p (.tuple []))/\h'=gq b f a (mayGo b.length (tk b) a ts p more all)):=by
 intro ts
 induction ts with
 |nil=>
  intro pre p v more all hpre hz hhas hneeds hv hm he;rw[co]at hpre;refine dS (ku (by kernel_rfl) rfl I') rfl ?_;have hb0:((pre.length:Int)==((losts b).length:Int))=true:=by rw[hpre];simp
  have hW:mayGo b.length (tk b) a [] p more all=if fN p then Aj all (rch b.length (tk b) more a) else all:=rfl
  simp only[mD,hb0,go_sem,simprocAttr];refine aa (Bg p hz) rfl ?_;simp only[go_sem,simprocAttr];cases hw:fN p
  .rw[hw,if_neg (by decide)]at hW;rw[hW];simp only[go_sem,simprocAttr];refine⟨_,_,rfl,rfl,?_,trivial,rfl⟩;exact λo ho=>ky (b:=b) (f:=f) (a:=a) (all:=all) o ho
  .rw[hw,if_pos rfl]at hW;have hlp:=hk.lost;have hll:pre.length<=3:=by rw[hpre]at hlp;exact hlp
   simp only[go_sem,simprocAttr];refine aa (Mf b f a v more hk.bats ha hv (by omega) he hT) ?_ ?_
   .rw[bI,cD];rfl
   simp only[go_sem,simprocAttr];obtain⟨R,hR⟩:∃R,R=rch b.length (tk b) more a:=⟨_,rfl⟩
   rw[<-hR]at hW |-;refine aS [5,25] (σ:=Nat) (λk=>k<=8) (λk=>8-k) (λk=>[(26,.p (.int .i64 k))]) (λk=>gq b f a (λi=>all i||(decide (i<k)&&R i))++[.row 80 [.p (.agg (aQ p))]]) 0 (bE _) ?_ ?_
   .have h0:cB 8 (λi=>all i||(decide (i<0)&&R i))=cB 8 all:=g8 λi _=>by simp
    simp only[h0,go_sem,simprocAttr]
   intro k hk8;dsimp only;rcases aw k 8 with h8|h8
   .have hd:decide ((k:Int)<8)=true:=decide_eq_true (by omega);have h8i:(k:Int)<8:=by omega
    have h7:k<=7:=by omega
    have hg:=cN R h8;have hga:(cB 8 (λi=>all i||(decide (i<k)&&R i)))[k]?=some (.bool (all k)):=by rw[cN _ h8];simp
    have hput:∀w:Bool,w=(all k||R k)->bV (List.take k ((cB 8 (λi=>all i||(decide (i<k)&&R i))).map AV.p)++[.p (.bool w)]++List.drop (k+1) ((cB 8 (λi=>all i||(decide (i<k)&&R i))).map AV.p))=some (cB 8 (λi=>all i||(decide (i<k+1)&&R i))):=λw hw=>by
     rw[kK _ w h8]
     congr 1
     refine g8 λi _=>?_;by_cases h:i=k
     .subst h;rw[if_pos rfl,hw];simp
     .rw[if_neg h];have:decide (i<k)=decide (i<k+1):=by rw[decide_eq_decide];omega
      rw[this]
    have hw:IntKind.i64.wrap ((k:Int)+1)=((k+1:Nat):Int):=az (by omega) (by simp[ai];omega) (by omega);simp only[hd,h8i,hg,hga,Nat.mul_one,go_sem,simprocAttr];cases hak:all k
    .have hp:=hput (R k) (by rw[hak,gA]);simp only[h8i,Nat.mul_one,h7,hp,go_sem,simprocAttr];refine ak (k+1) h8 (by omega) ?_;simp only[hw,go_sem,simprocAttr]
    .have hp:=hput true (by rw[hak,gY]);simp only[h8i,Nat.mul_one,h7,hp,go_sem,simprocAttr];refine ak (k+1) h8 (by omega) ?_;simp only[hw,go_sem,simprocAttr]
   .have hd:decide ((k:Int)<8)=false:=decide_eq_false (by omega);have:k=8:=by omega
    subst this;have he8:cB 8 (λi=>all i||(decide (i<8)&&R i))=cB 8 (Aj all R):=g8 λi hi=>by unfold Aj;rw[decide_eq_true hi,kM]
    simp only[hd,he8,hW,go_sem,simprocAttr];refine⟨_,_,rfl,rfl,?_,trivial,rfl⟩
    exact λo ho=>ky (b:=b) (f:=f) (a:=a) (all:=Aj all R) o ho
 |cons t ts ih=>
  intro pre p v more all hpre hz hhas hneeds hv hm he;have hlen:(losts b).length=pre.length+(ts.length+1):=by rw[hpre];simp
  have hlp:=hk.lost;have hb0:((pre.length:Int)==((losts b).length:Int))=false:=by rw[beq_eq_false_iff_ne];omega
  have ht:(losts b)[pre.length]?=some t:=by rw[hpre];simp
  have hlt:(pre.length:Int)<((losts b).length:Int):=by omega
  have htm:t∈losts b:=aV ht;have ht8:t<8:=by have:=bX.1 (List.mem_filter.1 htm).1;have:=hk.len;omega
  have wk:IntKind.i64.wrap ((pre.length:Int)+1)=(((pre++[t]).length:Nat):Int):=az (by omega) (by simp[ai];omega) (by simp);have ih0:=ih (pre++[t]);refine dS (ku (by kernel_rfl) rfl I') rfl ?_;simp only[mD,hb0,hlt,ht,wk,go_sem,simprocAttr];have ih1:=ih0 p v more all (by rw[hpre];simp) hz (λi=>by have:=hhas i;simp;omega) (λi=>by have:=hneeds i;simp;omega) hv (by simp;omega) he;refine fj (xQ ih1 (by simp[below,de,bS,bP]) [.row 80 [.p (.agg (aQ p))]]) ?_;simp only[go_sem,simprocAttr];obtain⟨A0,hA0⟩:∃A0,A0=mayGo b.length (tk b) a ts p more all:=⟨_,rfl⟩
  have hgo:mayGo b.length (tk b) a (t::ts) p more all=(List.range' 0 (t-0)).foldl (λall x=>mayGo b.length (tk b) a ts (kt p x t) (more++[(x,t)]) all) A0:=by rw[mayGo,List.range_eq_range',hA0,Nat.sub_zero]
  rw[<-hA0]
  refine aS [0,2,6,8,12,50] (σ:=Nat×(Nat->Bool)) (λq=>q.1<=t/\mayGo b.length (tk b) a (t::ts) p more all=(List.range' q.1 (t-q.1)).foldl (λall x=>mayGo b.length (tk b) a ts (kt p x t) (more++[(x,t)]) all) q.2) (λq=>t-q.1)
   (λq=>[(51,.p (.int .i64 q.1))]) (λq=>gq b f a q.2++[.row 80 [.p (.agg (aQ p))]]) (0,A0) ⟨bE _,hgo⟩ ?_ ?_
  .simp only[go_sem,simprocAttr]
  rintro⟨x,B⟩ ⟨hx,hB⟩
  dsimp only at hx hB;dsimp only;rcases aw x t with hxt|hxt
  rotate_left
  .have hd:decide ((x:Int)<(t:Int))=false:=decide_eq_false (by omega);rw[show t-x=0 by omega]at hB;rw[show List.foldl (λall x=>mayGo b.length (tk b) a ts (kt p x t) (more++[(x,t)]) all) B (List.range' x 0)=B from rfl]at hB;rw[hB];simp only[hd,go_sem,simprocAttr];refine⟨_,_,rfl,rfl,?_,trivial,rfl⟩;exact λo ho=>ky (b:=b) (f:=f) (a:=a) (all:=B) o ho
  have hd:decide ((x:Int)<(t:Int))=true:=decide_eq_true (by omega);have x8:x<8:=by omega
  have x8i:(x:Int)<8:=by omega
  have x79:x<=79:=by omega
  have t8i:(t:Int)<8:=by omega
  have t79:8+t<=79:=by omega
  have wx:IntKind.i64.wrap ((x:Int)+1)=((x+1:Nat):Int):=az (by omega) (by simp[ai];omega) (by omega);rw[show t-x=(t-(x+1))+1 by omega,List.range'_succ,np]at hB;have hhx:=hhas x;have hnt:=hneeds t;have gh:=s9 p x8;have w1:IntKind.i64.wrap (p.has x-1)=p.has x-1:=aj (by omega) (by omega);have ph:=tK p x8 (p.has x-1);obtain⟨p1,hp1⟩:∃p1:Pb,p1=⟨λi=>if i=x then p.has x-1 else p.has i,p.needs,p.nv⟩:=⟨_,rfl⟩
  rw[<-hp1]at ph;have gn:=zO p1 ht8;have hn1:p1.needs t=p.needs t:=by rw[hp1]
  rw[hn1]at gn;have w2:IntKind.i64.wrap (p.needs t-1)=p.needs t-1:=aj (by omega) (by omega);have pn:=zN p1 ht8 (p.needs t-1);have hgr:aQ ⟨p1.has,λi=>if i=t then p.needs t-1 else p1.needs i,p1.nv⟩=aQ (kt p x t):=fE (λi _=>by
    rw[hp1];show (if i=x then p.has x-1 else p.has i)=if i=x then p.has i-1 else p.has i
    by_cases h:i=x
    .subst h;rfl
    .rw[if_neg h,if_neg h]) (λi _=>by
    rw[hp1];show (if i=t then p.needs t-1 else p.needs i)=if i=t then p.needs i-1 else p.needs i
    by_cases h:i=t
    .subst h;rfl
    .rw[if_neg h,if_neg h]) λ_ _ _ _=>by rw[hp1];rfl
  rw[hgr]at pn;simp only[hd,x8i,Nat.mul_one,gh,w1,x79,ph,t8i,gn,w2,t79,pn,wk,go_sem,simprocAttr]
  have hih:∀(B:Nat->Bool) (v':PV),ESl v' (more++[(x,t)])->aN TP 121 [.p (.int .i64 ((pre++[t]).length:Int)),.p (.agg (aQ (kt p x t))),.p v',.ptr 0 1 0 0,.ptr 1 1 0 0,.ptr 2 1 0 0,.ptr 3 1 0 0] (gq b f a B)
    (λr h'=>r=.ret (.p (.tuple []))/\h'=gq b f a (mayGo b.length (tk b) a ts (kt p x t) (more++[(x,t)]) B)):=λB v' hv'=>
   ih0 (kt p x t) v' (more++[(x,t)]) B (by rw[hpre];simp) (λi hi=>by
    have:=hz i hi;show (if i=x then p.has i-1 else p.has i)=0/\(if i=t then p.needs i-1 else p.needs i)=0
    rw[if_neg (by omega),if_neg (by omega)];exact this) (λi=>by
    have:=hhas i;show -(((pre++[t]).length:Nat):Int)<=(if i=x then p.has i-1 else p.has i)/\(if i=x then p.has i-1 else p.has i)<=1000000;rw[ay,aC]
    split<;>omega) (λi=>by
    have:=hneeds i;show -(((pre++[t]).length:Nat):Int)<=(if i=t then p.needs i-1 else p.needs i)/\(if i=t then p.needs i-1 else p.needs i)<=1000000;rw[ay,aC]
    split<;>omega) hv' (by rw[ay,ay,aC,aC];omega) (λe he'=>by
    rcases gu.1 he' with h|h
    .exact he e h
    .have:e=(x,t):=by simpa using h
     rw[this];exact x8)
  cases hv with
  |nil=>
   simp only[Dv,go_sem,simprocAttr];simp only[ol,wk,go_sem,simprocAttr];refine yq (J6 _) ?_ ?_
   .rintro v h' ⟨h1,h2⟩
    cases h1;rw[h2];refine⟨λid o ho _=>ho,?_⟩;have r1:(1:Nat)<=ai:=by simp[ai]
    simp only[ol,wk,r1,go_sem,simprocAttr];refine⟨.inl ⟨[_],rfl⟩,?_⟩;refine So.WDB_call (Az (es:=[(x,t)]) _ _ (hih B) (by simp)) ?_ ?_
    .rintro v h' ⟨h1,h2⟩
     cases h1;rw[h2];simp only[ol,go_sem,simprocAttr];refine ak (x+1,_) ⟨hxt,hB⟩ (by dsimp only;omega) ?_;simp only[wx,go_sem,simprocAttr]
    .rintro v h' ⟨h1,h2⟩
     cases h1
   .rintro v h' ⟨h1,h2⟩
    cases h1
  |mk hne=>
   simp only[Dv,go_sem,simprocAttr];simp only[ol,wk,go_sem,simprocAttr];refine yq (L1 _ more _ hne (by omega)) ?_ ?_
   .rintro v h' ⟨h1,h2⟩
    cases h1;rw[h2];refine⟨?_,?_⟩
    .intro id o ho hd';have hil:=(aA.1 ho).1;rw[br hil];exact ho
    have r1:more.length+1<=ai:=by simp[ai];omega
    simp only[ol,wk,r1,go_sem,simprocAttr];refine⟨.inr ⟨6,_,rfl,rfl⟩,?_⟩;have hcl:=Az (es:=more++[(x,t)]) (.row 80 [.p (.agg (aQ p))]) (.row 80 [.p (.agg (aQ (kt p x t)))]) (hih B) (by simp);rw[kg,kg,show (more++[(x,t)]).length=more.length+1 by simp]at hcl;refine So.WDB_call hcl ?_ ?_
    .rintro v h' ⟨h1,h2⟩
     cases h1;rw[h2];simp only[ol,go_sem,simprocAttr];refine ak (x+1,_) ⟨hxt,hB⟩ (by dsimp only;omega) ?_;simp only[wx,go_sem,simprocAttr]
    .rintro v h' ⟨h1,h2⟩
     cases h1
   .rintro v h' ⟨h1,h2⟩
    cases h1
theorem Bj(b:List TrBatch)(f:Bool)(a:Nat)(hk:BookOk b)(ha:a<8)(hT:cZ b):PCall TP 66 [bI b f,.int .i64 (a:Int)] (.agg (cB 8 (mayGo b.length (tk b) a (losts b) (supp b) [] λ_=>false))):=by
 have hm:=Ph b f a hk ha hT (losts b) [] (supp b) .nilslice [] (λ_=>false) rfl (DP hk) (λi=>⟨by have:=pS hk i;simp;exact this,by have:=m8 hk i;show kept b i<=_;omega⟩) (λi=>⟨by have:=(jD hk i).1;simp;exact this,by have:=(jD hk i).2;show bF b i<=_;omega⟩) .nil (by simp) (by simp);refine ae (am Tryz.func66 rfl) rfl ?_;simp only[bI,cD,tC,eH,go_sem,simprocAttr];refine fj hm ?_;simp only[go_sem,simprocAttr]
def mQ (ls:List Nat) (bits k:Nat):Nat->Bool:=λi=>(List.range k).any λj=>ls.getD j 0==i&&bitD bits j
theorem DW(ls:List Nat)(bits k:Nat)(hd:ls.Nodup)(hk:k<ls.length):mQ ls bits (k+1)=ct (mQ ls bits k) (ls.getD k 0) (bitD bits k):=by
 funext i;unfold mQ;rw[dm,List.range_succ,List.any_append];by_cases h:i=ls.getD k 0
 .rw[if_pos h];have h1:((List.range k).any λj=>ls.getD j 0==i&&bitD bits j)=false:=by
   rw[wD];intro ha;obtain⟨j,hj,he⟩:=fL.1 ha;have hjk:=bX.1 hj;rw[bY,beq_iff_eq]at he;have:=he.1.trans h;rw[bB,bB,aT (by omega),aT hk]at this;exact(List.pairwise_iff_getElem.1 hd) j k (by omega) hk hjk this
  rw[h1,h];simp
 .rw[if_neg h];have:(ls.getD k 0==i)=false:=by rw[beq_eq_false_iff_ne];exact λe=>h e.symm
  rw[eV,fC,this,Bool.false_and,fM,fM]
theorem tM:∀(ls:List Nat) (bits:Nat),ls.Nodup->mQ ls bits ls.length=cF ls bits
 |[],_,_=>rfl
 |t::ts,bits,hd=>by
  funext i;have ih:=tM ts (bits / 2) (qg.1 hd).2;have ihi:=congrFun ih i;rw[cF,dm,<-ihi];unfold mQ;rw[du,List.range_succ_eq_map,eV,ub];have hs:((λj=>(t::ts).getD j 0==i&&bitD bits j)∘Nat.succ)=λj=>ts.getD j 0==i&&bitD (bits / 2) j:=by
   funext j;show ((t::ts).getD (j+1) 0==i&&bitD bits (j+1))=_;unfold bitD;rw[List.getD_cons_succ,Nat.pow_succ,s7,<-Nat.div_div_eq_div_mul]
  rw[hs];by_cases h:i=t
  .subst h;have hn:((List.range ts.length).any λj=>ts.getD j 0==i&&bitD (bits / 2) j)=false:=by
    rw[wD];intro ha;obtain⟨j,hj,he⟩:=fL.1 ha;have hjk:=bX.1 hj;rw[bY,beq_iff_eq,bB,aT hjk]at he;exact(qg.1 hd).1 (he.1▸nk hjk)
   rw[if_pos rfl,hn];simp[bitD]
  .rw[if_neg h];have:((t::ts).getD 0 0==i)=false:=by rw[beq_eq_false_iff_ne];exact λe=>h e.symm
   rw[this];simp
theorem Ck(b:List TrBatch):(losts b).Nodup:=by unfold losts;exact List.nodup_range.filter _
def pR (b:List TrBatch) (f:Bool):PV:=.func (.func 152) [] [.ptr 82 [bI b f] 0 0]
def ld (b:List TrBatch):List (List PV):=(List.range (2^(losts b).length)).map λbits=>[.agg (cB 8 (cF (losts b) bits))]
theorem Mh(b:List TrBatch)(f:Bool):PCall TP 117 [bI b f] (pR b f):=by
 refine cm (am Tryz.func117 rfl) rfl ?_;simp only[pR,bI,cD,go_sem,simprocAttr]
theorem Ls{n:Nat}(h:n<=3):kr BinOp.shl IntKind.i64 1 (n:Int)=some (.int .i64 ((2^n:Nat):Int)):=by
 match n,h with
 |0,_=>rfl
 |1,_=>rfl
 |2,_=>rfl
 |3,_=>rfl
 |n+4,h=>omega
theorem Lr{s k:Nat}(hs:s<8)(hk:k<3):kr BinOp.shr IntKind.i64 (s:Int) (k:Int)=some (.int .i64 ((s / 2^k:Nat):Int)):=by
 have:∀s,s<8->∀k,k<3->((s:Nat):Int).fdiv (2^(min ((k:Nat):Int).toNat 64))=((s / 2^k:Nat):Int):=by decide
 show (if(k:Int)<0 then none else _)=_;rw[if_neg (by omega)];show some (PV.int .i64 (((s:Nat):Int).fdiv (2^(min ((k:Nat):Int).toNat 64))))=_;rw[this s hs k hk]
theorem MD{m:Nat}(hs:m<8):IntKind.i64.wrap ((@HAnd.hAnd (BitVec 64) (BitVec 64) (BitVec 64) (@instHAndOfAndOp (BitVec IntKind.i64.bits) (@BitVec.instAndOp IntKind.i64.bits)) (BitVec.ofInt 64 ((m:Nat):Int)) (1#64)).toNat)=((m%2:Nat):Int):=by
 match m,hs with
 |0,_=>rfl
 |1,_=>rfl
 |2,_=>rfl
 |3,_=>rfl
 |4,_=>rfl
 |5,_=>rfl
 |6,_=>rfl
 |7,_=>rfl
 |n+8,h=>omega
theorem LY(b:List TrBatch)(f:Bool)(hk:BookOk b):Fc TP (pR b f) 1 (ld b):=by
 refine⟨λa ha=>?_,_,_,_,rfl,λid Inv Fin h0 hid hy hi=>?_⟩
 .obtain⟨q,_,rfl⟩:=eK.1 ha;rfl
 have hl3:=hk.lost;refine dH (am Tryz.func152 rfl) rfl ?_;have hsl:=Ls hl3;have hpow:2^(losts b).length<=8:=yL (n:=2) (by omega) hl3;obtain⟨N,hN⟩:∃N,N=2^(losts b).length:=⟨_,rfl⟩
 rw[<-hN]at hsl hpow;have hLL:(ld b).length=N:=by rw[hN];simp[ld]
 have hnd:=Ck b;obtain⟨ls,hls⟩:∃ls,ls=losts b:=⟨_,rfl⟩
 have hl8:∀k,k<ls.length->ls.getD k 0<8:=λk hkk=>by
  have hm:ls.getD k 0∈losts b:=by
   rw[<-hls,bB,aT hkk];exact nk hkk
  have:=bX.1 (List.mem_filter.1 hm).1;have:=hk.len;omega
 simp only[bI,cD,mD,hsl,go_sem,simprocAttr]
 refine lU [0,1,10] (σ:=Nat×Heap×Heap)
  (λq=>q.1<=N/\Inv q.1 q.2.1/\q.2.1.length=h0.length) (λq=>N-q.1)
  (λq=>[(11,.p (.int .i64 q.1))]) (λq=>q.2.1++q.2.2) (0,h0,[]) ⟨bE _,hi,rfl⟩ (by simp) ?_ ?_
 .simp only[go_sem,simprocAttr]
 rintro⟨s,lo,mid⟩ ⟨h1,hI,hlo⟩
 dsimp only at h1 hI hlo;rcases yO h1 with he|hlt0
 .have hlt:decide ((s:Int)<(N:Int))=false:=by simp;omega
  simp only[hlt,go_sem,simprocAttr];refine⟨lo,mid,rfl,hlo,.inl ?_⟩;rw[hLL,<-he];exact hI
 have hlt:decide ((s:Int)<(N:Int))=true:=by simp;omega
 have hwn:IntKind.i64.wrap ((s:Int)+1)=((s+1:Nat):Int):=az (by omega) (by simp[ai];omega) (by omega);have hy':=λmid'=>hy s [.agg (cB 8 (cF (losts b) s))] lo mid' (by rw[ld,bU,List.getElem?_range (by omega)];rfl) hI hlo;obtain⟨lm,hlm⟩:∃lm,lm=lo++mid:=⟨_,rfl⟩
 dsimp only;rw[<-hlm];have mg:=iM (lo:=lm) rfl;have ms:=mr (lo:=lm) rfl;simp only[hlt,mD,go_sem,simprocAttr];refine lU [0,1,3,4,10,11,15,16] (σ:=Nat) (λk=>k<=ls.length) (λk=>ls.length-k) (λk=>[(17,.p (.int .i64 k))]) (λk=>lm++[.row 8 [.p (.agg (cB 8 (mQ ls s k)))]]) 0 (bE _) ?_ ?_ ?_
 .rfl
 .simp only[go_sem,simprocAttr]
 intro k hk3;dsimp only;rcases aw k ls.length with hkl|hkl
 .have hd:decide ((k:Int)<((losts b).length:Int))=true:=decide_eq_true (by rw[<-hls];omega);have hki:(k:Int)<((losts b).length:Int):=by rw[<-hls];omega
  have hgk:(losts b)[k]?=some (ls.getD k 0):=by rw[<-hls,bB,aT hkl];rfl
  have hg8:=hl8 k hkl;have hg8i:((ls.getD k 0:Nat):Int)<8:=by omega
  have hg7:ls.getD k 0<=7:=by omega
  have hsr:=Lr (s:=s) (k:=k) (by omega) (by omega);have han:=MD (m:=s / 2^k) (by have:=Nat.div_le_self s (2^k);omega);have hbd:(((s / 2^k%2:Nat):Int)==1)=bitD s k:=by unfold bitD;rw[gC,beq_iff_eq,beq_iff_eq];omega
  have hp:=kK (mQ ls s k) (bitD s k) hg8;have hset:cB 8 (λi=>if i=ls.getD k 0 then bitD s k else mQ ls s k i)=cB 8 (mQ ls s (k+1)):=by rw[DW ls s k (by rw[hls];exact hnd) hkl];rfl
  rw[hset]at hp;have hwk:IntKind.i64.wrap ((k:Int)+1)=((k+1:Nat):Int):=az (by omega) (by simp[ai];omega) (by omega);simp only[hd,hki,hgk,hsr,han,hbd,hg8i,mg,Nat.mul_one,hg7,hp,ms,go_sem,simprocAttr];refine g9 (k+1) hkl (by omega) rfl ?_;simp only[hwk,go_sem,simprocAttr]
 .have hd:decide ((k:Int)<((losts b).length:Int))=false:=decide_eq_false (by rw[<-hls];omega);have:k=ls.length:=by omega
  subst this;rw[tM ls s (by rw[hls];exact hnd)];simp only[hd,mg,go_sem,simprocAttr];have hrow:lm++[AObj.row 8 [AV.p (PV.agg (cB 8 (cF ls s)))]]=lo++(mid++[AObj.row 8 [AV.p (PV.agg (cB 8 (cF ls s)))]]):=by rw[hlm,bJ]
  rw[hrow];rw[<-hls]at hy';refine Hg (hy' _) (λv h' hr=>?_) (λv h' hr=>?_);rotate_left
  .obtain⟨_,_,_,_,hr⟩:=hr;rcases hr with⟨hr,_⟩|⟨hr,_⟩<;>cases hr
  obtain⟨lo3,ext,rfl,hlo3,hr⟩:=hr;rcases hr with⟨hr,hI3⟩|⟨hr,hF⟩
  .cases hr;simp only[go_sem,simprocAttr];refine g9 (s+1,lo3,(mid++[AObj.row 8 [AV.p (PV.agg (cB 8 (cF ls s)))]])++ext) ⟨by omega,hI3,hlo3⟩ (by dsimp only;omega) (by simp[bJ]) ?_;simp only[hwn,go_sem,simprocAttr]
  .cases hr;simp only[go_sem,simprocAttr];exact⟨lo3,(mid++[AObj.row 8 [AV.p (PV.agg (cB 8 (cF ls s)))]])++ext,by simp[bJ],hlo3,.inr hF⟩
end Tr
end Abs
end Go.Proofs.YtmndpldajflenaaGreatDoor
