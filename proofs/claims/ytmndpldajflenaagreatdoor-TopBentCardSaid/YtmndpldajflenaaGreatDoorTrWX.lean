/- CONTRACTS of the program's functions, and laws on what they return. No conditions but those in the theorems' heads. -/
import Derived.Test.YtmndpldajflenaaGreatDoorTrUX
set_option linter.all false
set_option maxHeartbeats 16000000
namespace Go.Proofs.YtmndpldajflenaaGreatDoor
namespace Abs
namespace Tr
section
variable (b:List TrBatch) (y:Nat->Int)
def q0:Fd:=⟨supp b,0,λ_ _=>0⟩
def qC (c:Nat):Fd:=(List.range c).foldl (nX b.length y (ba b)) (q0 b)
def qI (c a:Nat):Fd:=(List.range a).foldl (fV b.length y c) (qC b y c)
def fT (f:Nat->Nat->Int) (c a:Nat):List TrTake:=(List.range a).filterMap λi=>if 0<f i c then some ⟨(i:Int),f i c⟩ else none
def lD (c a:Nat):List TrBatch:=b.mapIdx λi x=>if i=c then⟨x.name,x.grams,x.fresh,false,x.takes++fT (qI b y c a).f c a⟩ else eQ (qC b y c).f c i x
end
variable {b:List TrBatch} {y:Nat->Int}
theorem kD(c a:Nat):qI b y c (a+1)=fV b.length y c (qI b y c a) a:=by
 unfold qI;rw[List.range_succ,oY];rfl
theorem jB(c:Nat):qC b y (c+1)=if ba b c=true then qI b y c c else qC b y c:=by
 unfold qC;rw[List.range_succ,oY];show nX b.length y (ba b) _ c=_;unfold nX qI qC;rfl
def Fu (q:Fd) (b:List TrBatch) (y:Nat->Int) (c a:Nat):Int:=lY (eM b.length q.p a c).1 (eM b.length q.p a c).2 (y q.used)
theorem Hz(q:Fd)(c a i k:Nat):(fV b.length y c q a).f i k=if i=a/\k=c then q.f i k+Fu q b y c a else q.f i k:=rfl
theorem D2(c:Nat):∀(a i k:Nat),k≠c\/a<=i->(qI b y c a).f i k=(qC b y c).f i k
 |0,_,_,_=>rfl
 |a+1,i,k,h=>by
  rw[kD,Hz,if_neg (by omega),D2 c a i k (by omega)]
theorem CZ(c:Nat)(a:Nat):∀(d i:Nat),i<a->(qI b y c (a+d)).f i c=(qI b y c a).f i c
 |0,_,_=>rfl
 |d+1,i,h=>by
  rw[show a+(d+1)=(a+d)+1 by omega,kD,Hz,if_neg (by omega),CZ c a d i h]
theorem wP:∀(c i k:Nat),c<=k->(qC b y c).f i k=0
 |0,_,_,_=>rfl
 |c+1,i,k,h=>by
  rw[jB];split
  .rw[D2 c c i k (.inl (by omega)),wP c i k (by omega)]
  .exact wP c i k (by omega)
theorem wQ(c:Nat):∀(d i k:Nat),k<c->(qC b y (c+d)).f i k=(qC b y c).f i k
 |0,_,_,_=>rfl
 |d+1,i,k,h=>by
  rw[show c+(d+1)=(c+d)+1 by omega,jB];split
  .rw[D2 _ _ i k (.inl (by omega)),wQ c d i k h]
  .exact wQ c d i k h
theorem oL{α β:Type}{f g:α->Option β}:∀(l:List α),(∀x,x∈l->f x=g x)->l.filterMap f=l.filterMap g
 |[],_=>rfl
 |x::l,h=>by
  rw[List.filterMap_cons,List.filterMap_cons,h x List.mem_cons_self,oL l λy hy=>h y (eU _ hy)]
theorem A5{f g:Nat->Nat->Int}{c a:Nat}(h:∀i,i<a->f i c=g i c):fT f c a=fT g c a:=
 oL _ λi hi=>by rw[h i (bX.1 hi)]
theorem mA(f:Nat->Nat->Int)(i:Nat):sK f i=fT f i i:=rfl
theorem FV{f g:Nat->Nat->Int}{c i:Nat}{x:TrBatch}(h:∀k,k<c->∀j,f j k=g j k):eQ f c i x=eQ g c i x:=by
 unfold eQ;by_cases hl:x.lost=true/\i<c
 .rw[if_pos hl,if_pos hl,mA,mA,A5 λj _=>h i hl.2 j]
 .rw[if_neg hl,if_neg hl]
theorem FZ:dR b (qC b y 0).f 0=b:=by
 unfold dR;apply iv;intro i;rw[ua]
 cases b[i]? with
 |none=>rfl
 |some x=>show some (eQ _ 0 i x)=some x;unfold eQ;rw[if_neg (by omega)]
theorem qH{c a:Nat}:(lD b y c a).length=b.length:=by simp[lD]
theorem kn{c a i:Nat}:(lD b y c a)[i]?=(b[i]?).map λx=>if i=c then⟨x.name,x.grams,x.fresh,false,x.takes++fT (qI b y c a).f c a⟩ else eQ (qC b y c).f c i x:=by simp[lD]
theorem FW{c:Nat}{x:TrBatch}(hx:b[c]?=some x):(dR b (qC b y c).f c).set c ⟨x.name,x.grams,x.fresh,false,x.takes⟩=lD b y c 0:=by
 have hc:=(aA.1 hx).1;apply iv;intro i;rw[kn];by_cases h:c=i
 .subst h;rw[fp (by rw[nM];exact hc),hx];simp[fT]
 .rw[cq h,ko]
  cases b[i]? with
  |none=>rfl
  |some x=>rw[dy,dy,if_neg (λe:i=c=>h e.symm)]
theorem JT{c a:Nat}{x:TrBatch}(hx:b[c]?=some x):(lD b y c a)[c]?=some ⟨x.name,x.grams,x.fresh,false,x.takes++fT (qI b y c a).f c a⟩:=by
 rw[kn,hx,dy,if_pos rfl]
theorem Dk{c a:Nat}:fT (qI b y c (a+1)).f c (a+1)=fT (qI b y c a).f c a++(if 0<(qI b y c (a+1)).f a c then [⟨(a:Int),(qI b y c (a+1)).f a c⟩] else []):=by
 have h1:fT (qI b y c (a+1)).f c a=fT (qI b y c a).f c a:=A5 λi hi=>CZ c a 1 i hi;rw[<-h1];unfold fT;rw[List.range_succ,List.filterMap_append]
 congr 1
 by_cases h:0<(qI b y c (a+1)).f a c
 .rw[if_pos h];simp[h]
 .rw[if_neg h];simp[h]
theorem Jf{c a:Nat}:(qI b y c (a+1)).f a c=Fu (qI b y c a) b y c a:=by
 rw[kD,Hz,if_pos ⟨rfl,rfl⟩,D2 c a a c (.inr (aJ _)),wP c a c (aJ _)];omega
theorem FX{c a:Nat}{x:TrBatch}(hx:b[c]?=some x):(lD b y c a).set c ⟨x.name,x.grams,x.fresh,false,x.takes++fT (qI b y c (a+1)).f c (a+1)⟩=lD b y c (a+1):=by
 have hc:=(aA.1 hx).1;apply iv;intro i;rw[kn];by_cases h:c=i
 .subst h;rw[fp (by rw[qH];exact hc),hx,dy,if_pos rfl]
 .rw[cq h,kn]
  cases b[i]? with
  |none=>rfl
  |some x=>rw[dy,dy,if_neg (λe:i=c=>h e.symm),if_neg (λe:i=c=>h e.symm)]
theorem FY{c a:Nat}(h:¬0<Fu (qI b y c a) b y c a):lD b y c (a+1)=lD b y c a:=by
 apply iv;intro i;rw[kn,kn]
 cases b[i]? with
 |none=>rfl
 |some x=>
  rw[dy,dy,Dk,Jf,if_neg h,co]
theorem HL{c:Nat}{x:TrBatch}(hx:b[c]?=some x)(hl:x.lost=true):lD b y c c=dR b (qC b y (c+1)).f (c+1):=by
 have hlb:ba b c=true:=by unfold ba;rw[cS hx];exact hl
 apply iv;intro i;rw[kn,ko]
 cases hi:b[i]? with
 |none=>rfl
 |some z=>
  rw[dy,dy]
  congr 1
  by_cases h:i=c
  .subst h;rw[hx]at hi;cases hi;rw[if_pos rfl];unfold eQ;rw[if_pos ⟨hl,by omega⟩,mA,jB,if_pos hlb]
  .rw[if_neg h];have e:eQ (qC b y (c+1)).f (c+1) i z=eQ (qC b y (c+1)).f c i z:=by
    unfold eQ;by_cases h2:z.lost=true/\i<c
    .rw[if_pos h2,if_pos ⟨h2.1,by omega⟩]
    .rw[if_neg h2,if_neg (λh3=>h2 ⟨h3.1,by omega⟩)]
   rw[e];exact FV λk hk j=>(wQ c 1 j k hk).symm
theorem F0{c:Nat}{x:TrBatch}(hx:b[c]?=some x)(hl:x.lost=false):dR b (qC b y c).f c=dR b (qC b y (c+1)).f (c+1):=by
 have hlb:¬ba b c=true:=by unfold ba;rw[cS hx,hl];decide
 rw[jB,if_neg hlb];apply iv;intro i;rw[ko,ko]
 cases hi:b[i]? with
 |none=>rfl
 |some z=>
  rw[dy,dy]
  congr 1
  unfold eQ;by_cases h:i=c
  .subst h;rw[hx]at hi;cases hi;rw[if_neg (by omega),if_neg (λh=>by rw[hl]at h;cases h.1)]
  .by_cases h2:z.lost=true/\i<c
   .rw[if_pos h2,if_pos ⟨h2.1,by omega⟩]
   .rw[if_neg h2,if_neg (λh3=>h2 ⟨h3.1,by omega⟩)]
theorem Hw:pG b y=(qC b y b.length).f:=rfl
theorem I9(h:BookOk b)(hy:∀i,0<=y i):∀c,c<=b.length->FdOk b.length (kept b) (bF b) (qC b y c)
 |0,_=>⟨x9 h,λi hi=>by
   show kept b i+sm b.length (λ_=>0)=_;rw[sm_zero λ_ _=>rfl];omega,λk hk=>by
   show bF b k+sm b.length (λ_=>0)=_
   rw[sm_zero λ_ _=>rfl];omega,λ_ _=>dF _,λ_ _ e=>absurd e (by show ¬(0:Int)<0;omega)⟩
 |c+1,hc=>by
  have ih:=I9 h hy c (by omega);rw[jB];split
  .exact(oM hy (b:=c) (by omega) (List.range c) _ (λa ha=>bX.1 ha) ih).1
  .exact ih
theorem MW(h:BookOk b)(hy:∀i,0<=y i){c a:Nat}(hc:c<b.length)(ha:a<=c):FdOk b.length (kept b) (bF b) (qI b y c a):=
 (oM hy hc (List.range a) _ (λi hi=>by have:=bX.1 hi;omega) (I9 h hy c (by omega))).1
theorem O6{q:Fd}{c a i:Nat}(hc:c<b.length)(ha:a<b.length)(hi:b.length<=i):(fV b.length y c q a).p.has i=q.p.has i/\(fV b.length y c q a).p.needs i=q.p.needs i:=by
 constructor
 .show (if i=a then _ else q.p.has i)=_;rw[if_neg (by omega)]
 .show (if i=c then _ else q.p.needs i)=_;rw[if_neg (by omega)]
theorem D1{c:Nat}(hc:c<b.length){i:Nat}(hi:b.length<=i):∀a,a<=c->(qI b y c a).p.has i=(qC b y c).p.has i/\(qI b y c a).p.needs i=(qC b y c).p.needs i
 |0,_=>⟨rfl,rfl⟩
 |a+1,ha=>by
  have ih:=D1 hc hi a (by omega);rw[kD];have:=O6 (b:=b) (y:=y) (q:=qI b y c a) hc (show a<b.length by omega) hi;exact⟨this.1.trans ih.1,this.2.trans ih.2⟩
theorem LB(h:BookOk b){i:Nat}(hi:b.length<=i):∀c,c<=b.length->(qC b y c).p.has i=0/\(qC b y c).p.needs i=0
 |0,_=>⟨qU h hi,kq hi⟩
 |c+1,hc=>by
  have ih:=LB h hi c (by omega);rw[jB];split
  .have:=D1 (b:=b) (y:=y) (show c<b.length by omega) hi c (aJ _);rw[this.1,this.2];exact ih
  .exact ih
theorem A2(h:BookOk b){q:Fd}(hq:FdOk b.length (kept b) (bF b) q)(hz:∀i,b.length<=i->q.p.has i=0/\q.p.needs i=0)(i:Nat):(0<=q.p.has i/\q.p.has i<=100000)/\0<=q.p.needs i/\q.p.needs i<=100000:=by
 rcases aw i b.length with hi|hi
 .have h1:=hq.has i hi;have h2:=hq.needs i hi;have h3:0<=sm b.length (q.f i):=mi λk _=>hq.lo i k;have h4:0<=sm b.length (λk=>q.f k i):=mi λk _=>hq.lo k i;have h5:=m8 h i;have h6:=jD h i;have h7:=hq.hall.has i;have h8:=hq.hall.needs i;omega
 .have:=hz i hi;omega
theorem NN(h:BookOk b){q:Fd}(hq:FdOk b.length (kept b) (bF b) q)(hz:∀i,b.length<=i->q.p.has i=0/\q.p.needs i=0){a c:Nat}(hac:a<c)(hc:c<b.length):0<=(eM b.length q.p a c).1/\(eM b.length q.p a c).1<=(eM b.length q.p a c).2/\(eM b.length q.p a c).2<=100000:=by
 have hB:=xi (n:=b.length) (p:=q.p) (a:=a) (b:=c) hc;have hle:=bounds_le hq.hall hac hc hB;have w1:=mX hB (dF _) hle;have w2:=mX hB hle (dF _);have:=(A2 h hq hz a).1;exact⟨w1.zero,hle,by have:=w2.has;omega⟩
end Tr
end Abs
end Go.Proofs.YtmndpldajflenaaGreatDoor
namespace Go.Proofs.YtmndpldajflenaaGreatDoor
namespace Abs
namespace Tr
set_option maxRecDepth 4000
def rE (es:List (Nat×Nat)):List AV:=es.map λe=>.p (edgePV e)
theorem Ly(es:List (Nat×Nat)):(rE es).length=es.length:=by simp[rE]
theorem JM(es:List (Nat×Nat))(i k:Nat):rE (es++[(i,k)])=rE es++[.p (.agg [.int .i64 (i:Int),.int .i64 (k:Int)])]:=by simp[rE,edgePV]
theorem JN(k:Nat)(h:Heap)(es:List (Nat×Nat)):aM (bH k h) (rE es)=some (es.map edgePV):=by
 unfold rE;rw[show es.map (λe=>AV.p (edgePV e))=(es.map edgePV).map .p by rw[oX];rfl];exact gR k h _
theorem lC(es:List (Nat×Nat))(m:Nat):∀x,x∈rE es->below m x:=λx hx=>by
 obtain⟨j,_,rfl⟩:=eK.1 hx;trivial
def rT (l:List TrBatch):List AV:=l.map λx=>.p x.pv
theorem Lv(l:List TrBatch):(rT l).length=l.length:=by simp[rT]
theorem FI{l:List TrBatch}{i:Nat}{x:TrBatch}(h:l[i]?=some x):(rT l)[i]?=some (.p (.agg [.str x.name,.int .i64 x.grams,.int .i64 x.fresh,.bool x.lost,.slice 2 (x.takes.map TrTake.pv) false])):=by
 unfold rT;rw[bU,h];rfl
theorem FH(l:List TrBatch)(i:Nat)(x:TrBatch):(rT l).set i (.p (.agg [.str x.name,.int .i64 x.grams,.int .i64 x.fresh,.bool x.lost,.slice 2 (x.takes.map TrTake.pv) false]))=rT (l.set i x):=by
 unfold rT;rw[zh];rfl
theorem JL(k:Nat)(h:Heap)(l:List TrBatch):aM (bH k h) (rT l)=some (l.map TrBatch.pv):=by
 unfold rT;rw[show l.map (λx=>AV.p x.pv)=(l.map TrBatch.pv).map .p by rw[oX];rfl];exact gR k h _
theorem kl(l:List TrBatch)(m:Nat):∀x,x∈rT l->below m x:=λx hx=>by
 obtain⟨j,_,rfl⟩:=eK.1 hx;trivial
theorem Lu(l:List TrBatch):(l.map TrBatch.pv).map AV.p=rT l:=by unfold rT;rw[oX];rfl
attribute [go_sem] Ly Lv
def EW (b:List TrBatch) (p:Pb) (es:List (Nat×Nat)) (out:List TrBatch):Heap:=
 [.row 3 [kX b],.row 1 (rI b.length p.has),.row 3 [kX b],.row 1 (rI b.length p.needs),.row 3 [.agg [.slice 1 b.length 0 b.length,.slice 3 b.length 0 b.length,.slice 6 es.length 0 es.length]],.row 5 (rT out),.row 2 (rE es)]
attribute [go_sem] EW
theorem Cr{h:Heap}{x:AV}{cs:List AV}(hc:x.cells=some cs):AT h x x:=⟨cs,cs,hc,hc,rfl,λj c d h1 h2=>by rw[h1]at h2;cases h2;exact .inl rfl⟩
theorem Es{h:Heap}{m:Nat}{ts:List TrTake}(hh:oK h (.slice 7 m 0 m)=some (.slice 2 (ts.map TrTake.pv) false)){out:List TrBatch}{c:Nat}{nm:ByteArray}{gr fr:Int} :
  ∀(n:Nat) (x y:AV),((rT out).set c (.agg [.p (.str nm),.p (.int .i64 gr),.p (.int .i64 fr),.p (.bool false),.slice 7 m 0 m]))[n]?=some x->(rT (out.set c ⟨nm,gr,fr,false,ts⟩))[n]?=some y->AT h x y:=by
 intro n x y hx hy;rw[<-FH]at hy;by_cases hn:c=n
 .subst hn;rw[zt]at hx hy;rw[if_pos rfl]at hx hy;split at hx
  .rename_i hl;rw[if_pos hl]at hy;cases hx;cases hy;refine⟨_,_,rfl,rfl,rfl,λj u v h1 h2=>?_⟩
   match j,h1,h2 with
   |0,h1,h2=>cases h1;cases h2;exact .inl rfl
   |1,h1,h2=>cases h1;cases h2;exact .inl rfl
   |2,h1,h2=>cases h1;cases h2;exact .inl rfl
   |3,h1,h2=>cases h1;cases h2;exact .inl rfl
   |4,h1,h2=>cases h1;cases h2;exact .inr ⟨_,_,rfl,rfl,hh,w9⟩
   |j+5,h1,h2=>simp at h1
  .cases hx
 .rw[cq hn]at hx hy;rw[hx]at hy;cases hy;have hm:=aV hx;obtain⟨z,_,rfl⟩:=eK.1 hm;exact Cr rfl
theorem Gy(o0 o1 o2 o3 o4 o5 o6:AObj)(ts:List TrTake):oK (cO (λi=>!decide (7<=i)) [o0,o1,o2,o3,o4,o5,o6,.row 2 (List.map AV.p (List.map TrTake.pv ts))]) (.slice 7 ts.length 0 ts.length)=some (.slice 2 (ts.map TrTake.pv) false):=by
 show oK [.dead,.dead,.dead,.dead,.dead,.dead,.dead,.row 2 (List.map AV.p (List.map TrTake.pv ts))] (.slice 7 ts.length 0 ts.length)=_;have hl:((ts.map TrTake.pv).map AV.p).length=ts.length:=by simp
 have hz:aM (bH 7 [.dead,.dead,.dead,.dead,.dead,.dead,.dead,.row 2 (List.map AV.p (List.map TrTake.pv ts))]) ((ts.map TrTake.pv).map AV.p)=some (ts.map TrTake.pv):=gR _ _ _;simp only[hz,hl,go_sem,simprocAttr]
theorem Nr(o0 o1 o2 o3 o4 o5 o6 o7 z:AObj):(cO (λi=>decide (7<=i)) [o0,o1,o2,o3,o4,o5,o6,o7]).set 5 z=[o0,o1,o2,o3,o4,z,o6,.dead]:=rfl
def qf:Hints:=je [(75,.low),(1092084,.sto),(76,.low),(77,.low),(90,.low),(91,.low),(5000001,.app 5)]
theorem Pa:dv qf Tryz.f14=true:=by kernel_rfl
theorem ka(o0 o1 o2 o3 o4 o5 o6:AObj):jp 4 [o0,o1,o2,o3,o4,o5,o6]=[.dead,.dead,.dead,.dead,o4,.dead,.dead]:=rfl
theorem Mq(b:List TrBatch)(f g:Bool)(cards:List Int)(hk:BookOk b)(hc:∀v,v∈cards->0<=v/\v<=4294967295):PCall Tryz.prog 14 [.slice 5 (b.map TrBatch.pv) f,.slice 1 (cards.map uf) g] (.slice 5 ((dR b (pG b λi=>So.turnF cards i) b.length).map TrBatch.pv) false):=by
 have hb:=hk.bats;have hl8:=hk.len;have hrm:b.length<=ai:=by simp[ai];omega
 have hne:¬(b.map TrBatch.pv=[]):=by intro e;have h:=hl8.1;rw[List.map_eq_nil_iff]at e;rw[e]at h;simp at h
 have hne2:¬(rT b=[]):=by intro e;unfold rT at e;rw[List.map_eq_nil_iff]at e;exact hne (by rw[e];rfl)
 have pb:below 7 (kX b):=by simp[kX,below,de,bS,bP]
 obtain⟨y,hyd⟩:∃y:Nat->Int,y=λi=>So.turnF cards i:=⟨_,rfl⟩
 have hy:∀i,0<=y i:=λi=>by rw[hyd];exact(So.turnF_B (B:=4294967295) (by decide) hc).1
 rw[<-hyd];refine cm (ku (by kernel_rfl) rfl Pa) rfl ?_;simp only[go_sem,simprocAttr];refine fj (Gw b f hb) ?_;simp only[yV,kX,qf,af,ka,hrm,hne,hne2,Lu,go_sem,simprocAttr];refine io (7::8::[0,1,5,6]) 4 2 3 [.agg [.slice 1 b.length 0 b.length,.slice 3 b.length 0 b.length,.p .nilslice]] [.agg [.slice 1 b.length 0 b.length,.slice 3 b.length 0 b.length,.slice 6 0 0 0]] (by simp) (by simp) rfl rfl ?_ ?_ ?_ rfl ?_
 .intro n x y h1 h2
  match n,h1,h2 with
  |0,h1,h2=>
   cases h1;cases h2;refine⟨_,_,rfl,rfl,rfl,λj c d h3 h4=>?_⟩
   match j,h3,h4 with
   |0,h3,h4=>cases h3;cases h4;exact .inl rfl
   |1,h3,h4=>cases h3;cases h4;exact .inl rfl
   |2,h3,h4=>cases h3;cases h4;exact .inr ⟨rfl,rfl⟩
   |j+3,h3,h4=>simp at h3
  |n+1,h1,h2=>simp at h1
 .simp only[go_sem,simprocAttr]
 .simp only[go_sem,simprocAttr];and_intros<;>first|exact bG _ _ _|exact kl _ _
 simp only[go_sem,simprocAttr]
 refine aS [0,1,5,6] (σ:=Nat×List (Nat×Nat)) (λq=>q.1<=b.length/\q.2.length<=8*q.1/\(qC b y q.1).used<=8*q.1/\∀i k,(qC b y q.1).p.nv i k=pQ q.2 i k) (λq=>b.length-q.1)
  (λq=>[(7,.p (.int .i64 ((qC b y q.1).used:Int))),(8,.p (.int .i64 (q.1:Int)))]) (λq=>EW b (qC b y q.1).p q.2 (dR b (qC b y q.1).f q.1)) (0,[]) ⟨bE _,bE _,bE _,λ_ _=>rfl⟩ ?_ ?_
 .have o0:dR b (qC b y 0).f 0=b:=FZ;simp only[o0,kX,go_sem,simprocAttr];exact⟨⟨rfl,rfl,rfl⟩,rfl,bG _ _ _,bG _ _ _,kl _ _,lC _ _⟩
 rintro⟨c,es⟩ ⟨hcn,hel,hul,hnv⟩
 dsimp only at hcn hel hul hnv;dsimp only;rcases aw c b.length with hcl|hcl
 rotate_left
 .have hd:decide ((c:Int)<(b.length:Int))=false:=decide_eq_false (by omega);have:c=b.length:=by omega
  subst this;rw[Hw];have hol:(dR b (qC b y b.length).f b.length).length=b.length:=nM;simp only[hd,JL,hol,go_sem,simprocAttr];rw[dz (by simp[hol])]
 have hd:decide ((c:Int)<(b.length:Int))=true:=decide_eq_true (by omega);have hci:(c:Int)<(b.length:Int):=by omega
 have wc:IntKind.i64.wrap ((c:Int)+1)=((c+1:Nat):Int):=az (by omega) (by simp[ai];omega) (by omega);obtain⟨x,hx⟩:∃x,b[c]?=some x:=⟨_,aT hcl⟩
 have hbo:=hb.bat c x hx;have hlb:ba b c=x.lost:=by unfold ba;rw[cS hx]
 simp only[qf,af,ka,hd,hci,hx,go_sem,simprocAttr];cases hq:x.lost
 .have e1:=F0 (y:=y) hx hq;have e1':dR b (qC b y c).f (c+1)=dR b (qC b y c).f c:=by
   have e2:qC b y (c+1)=qC b y c:=by rw[jB,hlb,hq];rfl
   rw[e2]at e1;exact e1.symm
  have e2:qC b y (c+1)=qC b y c:=by rw[jB,hlb,hq];rfl
  simp only[go_sem,simprocAttr];refine ak (c+1,es) ⟨hcl,by dsimp only;omega,by rw[e2];omega,by rw[e2];exact hnv⟩ (by dsimp only;omega) ?_;simp only[wc,e2,e1',go_sem,simprocAttr];exact⟨pb,bG _ _ _,pb,bG _ _ _,kl _ _,lC _ _⟩
 have hol:∀f k,(dR b f k).length=b.length:=λ_ _=>nM;have hoc:(dR b (qC b y c).f c)[c]?=some x:=by
  rw[ko,hx,dy]
  congr 1
  unfold eQ;rw[if_neg (by omega)]
 have hgo:=FI hoc;have hso:=FH (dR b (qC b y c).f c) c ⟨x.name,x.grams,x.fresh,false,x.takes⟩;rw[FW hx]at hso;rw[hq]at hgo;simp only[qf,af,ka,hol,hci,hgo,hso,go_sem,simprocAttr]
 refine aS [0,1,5,6,8] (σ:=Nat×List (Nat×Nat)) (λq=>q.1<=c/\q.2.length<=8*c+q.1/\(qI b y c q.1).used<=8*c+q.1/\∀i k,(qI b y c q.1).p.nv i k=pQ q.2 i k) (λq=>c-q.1)
  (λq=>[(7,.p (.int .i64 ((qI b y c q.1).used:Int))),(9,.p (.int .i64 (q.1:Int)))]) (λq=>EW b (qI b y c q.1).p q.2 (lD b y c q.1)) (0,es) ⟨bE _,hel,hul,hnv⟩ ?_ ?_
 .simp only[go_sem,simprocAttr];exact⟨⟨rfl,rfl⟩,rfl,pb,bG _ _ _,pb,bG _ _ _,kl _ _,lC _ _⟩
 rintro⟨a,es⟩ ⟨hac,hel,hul,hnv⟩
 dsimp only at hac hel hul hnv;dsimp only;rcases aw a c with hal|hal
 rotate_left
 .have hda:decide ((a:Int)<(c:Int))=false:=decide_eq_false (by omega);have:a=c:=by omega
  subst this;have e1:=HL (y:=y) hx hq;have e2:qC b y (a+1)=qI b y a a:=by rw[jB,hlb,hq];rfl
  rw[e2]at e1;simp only[qf,af,ka,hda,go_sem,simprocAttr];refine ak (a+1,es) ⟨hcl,by dsimp only;omega,by rw[e2];omega,by rw[e2];exact hnv⟩ (by dsimp only;omega) ?_;simp only[wc,e2,e1,go_sem,simprocAttr];exact⟨pb,bG _ _ _,pb,bG _ _ _,kl _ _,lC _ _⟩
 have hda:decide ((a:Int)<(c:Int))=true:=decide_eq_true (by omega);have wa:IntKind.i64.wrap ((a:Int)+1)=((a+1:Nat):Int):=az (by omega) (by simp[ai];omega) (by omega);have hqo:=MW hk hy hcl (Nat.le_of_lt hal);have hqz:∀i,b.length<=i->(qI b y c a).p.has i=0/\(qI b y c a).p.needs i=0:=λi hi=>by
  have h1:=D1 (b:=b) (y:=y) hcl hi a (Nat.le_of_lt hal);have h2:=LB (y:=y) hk hi c (Nat.le_of_lt hcl);rw[h1.1,h1.2];exact h2
 have hPB:PbB (qI b y c a).p:=⟨λi=>by have:=A2 hk hqo hqz i;omega,λi=>by have:=A2 hk hqo hqz i;omega⟩
 have hbn:=NN hk hqo hqz hal hcl;have hcb:=KF b.length (qI b y c a).p es false a c hl8.2 hal hcl hPB hnv (by omega);simp only[qf,af,ka,hda,go_sem,simprocAttr];refine dX hcb ?_ (.tuple (Flat.cons (.int _ _) (Flat.cons (.int _ _) Flat.nil))) ?_
 .simp only[wO,JN,cj,gN,go_sem,simprocAttr];rw[dz (by rw[bm];exact aJ _),dz (by rw[bm];exact aJ _)];exact⟨rfl,rfl⟩
 obtain⟨lo,hlo⟩:∃lo,lo=(eM b.length (qI b y c a).p a c).1:=⟨_,rfl⟩
 obtain⟨hi,hhi⟩:∃hi,hi=(eM b.length (qI b y c a).p a c).2:=⟨_,rfl⟩
 rw[<-hlo,<-hhi]at hbn |-;simp only[qf,af,ka,go_sem,simprocAttr];have hdef:Fu (qI b y c a) b y c a=lY lo hi (y (qI b y c a).used):=by rw[hlo,hhi];rfl
 obtain⟨d,hdd⟩:∃d,d=Fu (qI b y c a) b y c a:=⟨_,rfl⟩
 rw[<-hdd]at hdef;have hdB:=uo hbn.2.1 (hy (qI b y c a).used);rw[<-hdef]at hdB;have hyu:y (qI b y c a).used=So.turnF cards (qI b y c a).used:=by rw[hyd]
 have hrE:es.length+1<=ai:=by simp[ai];omega
 have hsE:=JM es a c;have wu:IntKind.i64.wrap (((qI b y c a).used:Int)+1)=(((qI b y c a).used+1:Nat):Int):=az (by omega) (by simp[ai];omega) (by omega);have hus:(qI b y c (a+1)).used=(qI b y c a).used+1:=by rw[kD];rfl
 have hnv2:∀i k,(qI b y c (a+1)).p.nv i k=pQ (es++[(a,c)]) i k:=λi k=>by
  rw[kD,ye,hnv,pQ,pQ,List.any_append,eV,fC,fM]
  congr 1
  rw[gC,bY,beq_iff_eq,beq_iff_eq,beq_iff_eq];simp only[Prod.mk.injEq];omega
 have hph:(qI b y c (a+1)).p.has=λi=>if i=a then(qI b y c a).p.has i-d else(qI b y c a).p.has i:=by rw[kD,hdd];rfl
 have hpn:(qI b y c (a+1)).p.needs=λi=>if i=c then(qI b y c a).p.needs i-d else(qI b y c a).p.needs i:=by rw[kD,hdd];rfl
 cases hlh:decide (lo<hi);case' true=>
  have hlt:lo<hi:=of_decide_eq_true hlh;have hde:d=lo+(So.turnF cards (qI b y c a).used).tmod (hi-lo+1):=by rw[hdef,lY,if_pos hlt,hyu]
  have w1:IntKind.i64.wrap (hi-lo)=hi-lo:=aj (by omega) (by omega);have w2:IntKind.i64.wrap (hi-lo+1)=hi-lo+1:=aj (by omega) (by omega);have w3:IntKind.i64.wrap ((So.turnF cards (qI b y c a).used).tmod (hi-lo+1))=(So.turnF cards (qI b y c a).used).tmod (hi-lo+1):=by
   have h1:=Int.tmod_nonneg (hi-lo+1) (hyu▸hy (qI b y c a).used);have h2:=Int.tmod_lt_of_pos (So.turnF cards (qI b y c a).used) (show 0<hi-lo+1 by omega);exact aj (by omega) (by omega)
  have w4:IntKind.i64.wrap (lo+(So.turnF cards (qI b y c a).used).tmod (hi-lo+1))=d:=by rw[<-hde];exact aj (by omega) (by omega)
  have z1:¬(hi-lo+1=0):=by omega
  simp only[qf,af,ka,go_sem,simprocAttr];refine aa (Ks cards g (qI b y c a).used (by omega) hc) rfl ?_;simp only[qf,af,ka,w1,w2,w3,w4,z1,go_sem,simprocAttr]
 case' false=>
  have hde:lo=d:=by rw[hdef,lY,if_neg (of_decide_eq_false hlh)]
  simp only[qf,af,ka,go_sem,simprocAttr];rw[hde]
 all_goals
  simp only[qf,af,ka,wu,hrE,<-hsE,go_sem,simprocAttr];cases hd0:decide (0<d)
  .have hd0':¬0<d:=of_decide_eq_false hd0;have hz:d=0:=by omega
   have r1:rI b.length (qI b y c (a+1)).p.has=rI b.length (qI b y c a).p.has:=ei λi _=>by rw[hph,hz];dsimp only;split<;>omega
   have r2:rI b.length (qI b y c (a+1)).p.needs=rI b.length (qI b y c a).p.needs:=ei λi _=>by rw[hpn,hz];dsimp only;split<;>omega
   have r3:=FY (b:=b) (y:=y) (c:=c) (a:=a) (by rw[<-hdd];exact hd0');simp only[go_sem,simprocAttr];refine ak (a+1,es++[(a,c)]) ⟨hal,by simp;omega,by rw[hus];dsimp only;omega,hnv2⟩ (by dsimp only;omega) ?_;simp only[wa,hus,r1,r2,r3,ay,aC,go_sem,simprocAttr];exact⟨pb,bG _ _ _,pb,bG _ _ _,kl _ _,lC _ _⟩
  have hd1:0<d:=of_decide_eq_true hd0;have hab:a<b.length:=by omega
  have hai:(a:Int)<(b.length:Int):=by omega
  have ga:=u6 (qI b y c a).p.has hab;have gc:=u6 (qI b y c a).p.needs hcl;have b1:=A2 hk hqo hqz a;have b2:=A2 hk hqo hqz c;have w5:IntKind.i64.wrap ((qI b y c a).p.has a-d)=(qI b y c a).p.has a-d:=aj (by omega) (by omega);have w6:IntKind.i64.wrap ((qI b y c a).p.needs c-d)=(qI b y c a).p.needs c-d:=aj (by omega) (by omega);have sh:(rI b.length (qI b y c a).p.has).set a (.p (.int .i64 ((qI b y c a).p.has a-d)))=rI b.length (qI b y c (a+1)).p.has:=by
   rw[u5,hph];exact ei λi _=>by
    by_cases h:i=a
    .subst h;simp
    .rw[if_neg h,if_neg h]
  have sn:(rI b.length (qI b y c a).p.needs).set c (.p (.int .i64 ((qI b y c a).p.needs c-d)))=rI b.length (qI b y c (a+1)).p.needs:=by
   rw[u5,hpn];exact ei λi _=>by
    by_cases h:i=c
    .subst h;simp
    .rw[if_neg h,if_neg h]
  have hxt:=hbo.lost hq;have hoa:=JT (y:=y) (a:=a) hx;have hgo:=FI hoa;rw[hxt,ww]at hgo;obtain⟨ft,hft⟩:∃ft,ft=fT (qI b y c a).f c a:=⟨_,rfl⟩
  rw[<-hft]at hgo;have hfr:ft.length<=ai:=by
   have:ft.length<=a:=by
    rw[hft];unfold fT;have:=List.length_filterMap_le (λi=>if 0<(qI b y c a).f i c then some (⟨(i:Int),(qI b y c a).f i c⟩:TrTake) else none) (List.range a);simpa using this
   simp[ai];omega
  have hfr1:ft.length+1<=ai:=by
   have:ft.length<=a:=by
    rw[hft];unfold fT;have:=List.length_filterMap_le (λi=>if 0<(qI b y c a).f i c then some (⟨(i:Int),(qI b y c a).f i c⟩:TrTake) else none) (List.range a);simpa using this
   simp[ai];omega
  obtain⟨ts,hts0⟩:∃ts:List TrTake,ts=ft++[(⟨(a:Int),d⟩:TrTake)]:=⟨_,rfl⟩
  have hts:fT (qI b y c (a+1)).f c (a+1)=ts:=by rw[Dk,Jf,<-hdd,if_pos hd1,<-hft,hts0]
  have hos:=FX (y:=y) (a:=a) hx;rw[hxt,ww,hts]at hos;have htk:List.map AV.p (List.map TrTake.pv ft)++[.p (.agg [.int .i64 (a:Int),.int .i64 d])]=List.map AV.p (List.map TrTake.pv ts):=by rw[hts0];simp[TrTake.pv]
  have hfl:ts.length=ft.length+1:=by rw[hts0];simp
  have hfz:=λo0 o1 o2 o3 o4 o5 o6=>Gy o0 o1 o2 o3 o4 o5 o6 ts;by_cases hfe:ft=[]
  case' pos=>
   rw[hfe]at hgo htk hfl;simp only[gz,eN]at hfl;simp only[zi,ww]at htk;rw[hfl]at hfz;have z0:(0:Nat)<=ai:=bE _;have z1:(1:Nat)<=ai:=by simp[ai]
   simp only[qf,af,ka,hai,hci,ga,gc,w5,w6,sh,sn,qH,hgo,z0,z1,go_sem,simprocAttr];rw[htk]
  case' neg=>
   rw[hfl]at hfz;have hfe':¬(List.map AV.p (List.map TrTake.pv ft)=[]):=by simpa using hfe
   simp only[qf,af,ka,hai,hci,ga,gc,w5,w6,sh,sn,qH,hgo,hfr,hfe',hfr1,htk,go_sem,simprocAttr]
  all_goals
   refine KS (BY (λi=>decide (7<=i)) 5 5 _ (rT (lD b y c (a+1))) rfl rfl ?_ ?_ (λt=>.inl rfl)) ?_
   .simp[rT,qH]
   .rw[<-hos];exact Es (hfz _ _ _ _ _ _ _)
   refine ak (a+1,es++[(a,c)]) ⟨hal,by simp;omega,by rw[hus];dsimp only;omega,hnv2⟩ (by dsimp only;omega) ?_;simp only[wa,hus,Nr,ay,aC,go_sem,simprocAttr];exact⟨pb,bG _ _ _,pb,bG _ _ _,kl _ _,lC _ _⟩
end Tr
end Abs
end Go.Proofs.YtmndpldajflenaaGreatDoor
