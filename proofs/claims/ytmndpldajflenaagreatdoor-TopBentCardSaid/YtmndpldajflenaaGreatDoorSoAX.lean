/- CONTRACTS of the program's functions, and laws on what they return. No conditions but those in the theorems' heads. -/
import Derived.Test.YtmndpldajflenaaGreatDoorSoGoX
set_option linter.all false
set_option maxHeartbeats 2000000
open Go.Proofs.Tryz renaming prog->TP
open Go.Proofs.Tryz
namespace Go.Proofs.YtmndpldajflenaaGreatDoor
namespace Abs
namespace So
set_option maxRecDepth 4000
theorem Is(w:Span)(i:Int):PCall TP 91 [.int .i64 i,w.pv] (.int .i64 (fm w)):=by
 refine ae (am func91 rfl) rfl ?_;simp only[go_sem,simprocAttr];refine aa (iN 0 60 [_,_] true (by simp)) rfl ?_;simp only[eV,fC,fM,<-DG,go_sem,simprocAttr];unfold fm;cases h8:(an w.lo 0 60&&an w.hi 0 60)
 .rw[if_neg (by rw[<-bY,h8];decide)];simp only[go_sem,simprocAttr]
 rw[if_pos (by rw[<-bY,h8])];simp only[go_sem,simprocAttr];cases h9:decide (w.hi<w.lo)
 .rw[if_neg (by simpa using h9)];simp only[go_sem,simprocAttr]
 .rw[if_pos (by simpa using h9)];simp only[go_sem,simprocAttr]
theorem NH(n:ByteArray)(b c:PV)(x:SoStore):PCall TP 89 [x.pv,.ptr 3 [.agg [.str n,b,c]] 0 0] (.bool (x.name==n)):=by
 refine ae (am func89 rfl) rfl ?_;simp only[go_sem,simprocAttr]
theorem GO(s:SoSeason)(i:Nat)(x:SoStore)(hx:s.stores[i]?=some x)(hl:s.stores.length<100000):PCall TP 86 [.int .i64 i,x.pv,.ptr 6 [s.pv] 0 0] (.int .i64 (storeErr s i x)):=by
 have hil:i<s.stores.length:=by
  rcases aw i s.stores.length with h|h
  .exact h
  .rw[fq h]at hx;cases hx
 have hle:((i:Nat):Int)<=(s.stores.length:Int):=by omega
 have htk:(s.stores.map SoStore.pv).take i=(s.stores.take i).map SoStore.pv:=qh.symm;have hfl:(i==s.stores.length)=false:=by simp;omega
 obtain⟨y,hy⟩:∃y,s.stores[0]?=some y:=⟨_,aT (by omega)⟩
 have hd:(y.warm.length:Int)=(days s:Int):=by
  unfold days
  cases hs:s.stores with
  |nil=>rw[hs]at hy;cases hy
  |cons z r=>rw[hs]at hy;cases hy;rfl
 have h0l:(0:Int)<(s.stores.length:Int):=by omega
 refine ae (am func86 rfl) rfl ?_;have hN:fw ((s.stores.take i).map (·.name)) x.name=if nameOk x.name=true then(if((s.stores.take i).any λy=>y.name==x.name)=true then 5 else 0) else 6:=by
  unfold fw;rw[ub];rfl
 simp only[go_sem,simprocAttr];refine aa (Bh x.name) rfl ?_;simp only[go_sem,simprocAttr];cases hn:nameOk x.name
 .have hS:storeErr s i x=6:=by rw[storeErr,hN,hn];rfl
  simp only[hS,go_sem,simprocAttr]
 simp only[hle,htk,hfl,go_sem,simprocAttr];refine dX (vU (fv:=.func (.func 89) [] [.ptr 3 [x.pv] 0 0]) (s.stores.take i) (λy=>y.name==x.name) false 3 rfl (by simp;omega) λy _=>⟨_,_,_,rfl,NH x.name _ _ y⟩) ?_ (.bool _) ?_
 .simp only[go_sem,simprocAttr]
 simp only[go_sem,simprocAttr];cases h5:((s.stores.take i).any λy=>y.name==x.name)
 rotate_left
 .have hS:storeErr s i x=5:=by rw[storeErr,hN,hn,h5];rfl
  simp only[hS,go_sem,simprocAttr]
 simp only[go_sem,simprocAttr];refine aa (iN 0 100000 [_] true (by simp)) rfl ?_;simp only[eV,fC,fM,go_sem,simprocAttr];have hS:storeErr s i x=(if an x.rent 0 100000=true then(if an x.warm.length 1 8=true/\x.warm.length=days s then(bc (λ_ w=>fm w) x.warm 0).2 else 3) else 7):=by rw[storeErr,hN,hn,h5];rfl
 cases h6:an x.rent 0 100000
 .rw[h6]at hS;simp only[hS,go_sem,simprocAttr]
 rw[h6,if_pos rfl]at hS;simp only[go_sem,simprocAttr];refine ao (iN 1 8 [_] true (by simp)) rfl ?_;simp only[eV,fC,fM,hy,hd,h0l,go_sem,simprocAttr];cases h7:an (x.warm.length) 1 8
 .rw[if_neg (by rw[h7];simp)]at hS;simp only[hS,hy,hd,h0l,go_sem,simprocAttr]
 simp only[hy,hd,h0l,go_sem,simprocAttr];cases h8:((x.warm.length:Int) != (days s:Int))
 rotate_left
 .have h8':¬x.warm.length=days s:=by simp at h8;omega
  rw[if_neg (λh=>h8' h.2)]at hS;simp only[hS,go_sem,simprocAttr]
 have h8':x.warm.length=days s:=by simp at h8;omega
 rw[if_pos ⟨h7,h8'⟩]at hS;simp[an]at h7;rw[hS];simp only[go_sem,simprocAttr];refine aa (Mr (fv:=.func (.func 91) [] []) x.warm (λ_ w=>fm w) false (by omega) λi w _=>⟨_,_,_,rfl,Is w i⟩) rfl ?_;simp only[go_sem,simprocAttr]
theorem Bm(s:SoSeason):PCall TP 30 [s.pv] (cd (aD s)):=by
 refine ae (am func30 rfl) rfl ?_;simp only[go_sem,simprocAttr];refine aa (iN 0 60 [_,_] true (by simp)) rfl ?_;simp only[eV,fC,fM,<-DG,go_sem,simprocAttr];have hc:candOk s=(an s.candle.bend 0 60&&an s.candle.jump 0 60&&(an s.candle.days 1 8&&an s.candle.times 1 8)&&an s.move 0 100000):=by simp[candOk,Bool.and_assoc]
 cases h1:(an s.candle.bend 0 60&&an s.candle.jump 0 60)
 .have hS:aD s=(1,0,7):=by rw[aD,hc,h1];rfl
  simp only[cd,hS,go_sem,simprocAttr]
 simp only[go_sem,simprocAttr];refine aa (iN 1 8 [_,_] true (by simp)) rfl ?_;simp only[eV,fC,fM,<-DG,go_sem,simprocAttr];cases h2:(an s.candle.days 1 8&&an s.candle.times 1 8)
 .have hS:aD s=(1,0,7):=by rw[aD,hc,h1,h2];rfl
  simp only[cd,hS,go_sem,simprocAttr]
 simp only[go_sem,simprocAttr];refine aa (iN 0 100000 [_] true (by simp)) rfl ?_;simp only[eV,fC,fM,go_sem,simprocAttr];cases h3:an s.move 0 100000
 .have hS:aD s=(1,0,7):=by rw[aD,hc,h1,h2,h3];rfl
  simp only[cd,hS,go_sem,simprocAttr]
 have hcan:candOk s=true:=by rw[hc,h1,h2,h3];rfl
 simp only[go_sem,simprocAttr];refine aa (iN 1 3 [_] true (by simp)) rfl ?_;simp only[eV,fC,fM,go_sem,simprocAttr];cases h4:an s.stores.length 1 3
 .have hS:aD s=(2,0,3):=by rw[aD,if_pos hcan,h4];rfl
  simp only[cd,hS,go_sem,simprocAttr]
 have hS:aD s=if(bc (storeErr s) s.stores 0).2=0 then(0,0,0) else(2,(bc (storeErr s) s.stores 0).1,(bc (storeErr s) s.stores 0).2):=by rw[aD,if_pos hcan,if_pos h4]
 simp[an]at h4;simp only[go_sem,simprocAttr];refine dX (Ms (fv:=.func (.func 86) [] [.ptr 6 [s.pv] 0 0]) s.stores (storeErr s) false (by omega) λi x hx=>⟨_,_,_,rfl,GO s i x hx (by omega)⟩) ?_ (tv _ rfl) ?_
 .simp only[go_sem,simprocAttr]
 simp only[go_sem,simprocAttr];cases h5:((bc (storeErr s) s.stores 0).2 != 0)
 .have h5':(bc (storeErr s) s.stores 0).2=0:=by simpa using h5
  rw[if_pos h5']at hS;simp only[cd,hS,go_sem,simprocAttr]
 .have h5':¬(bc (storeErr s) s.stores 0).2=0:=by simpa using h5
  rw[if_neg h5']at hS;simp only[cd,hS,go_sem,simprocAttr]
theorem lJ{α:Type}{f:Nat->α->Int}{x:α}{r:List α}{i:Nat}:bc f (x::r) i=if f i x=0 then bc f r (i+1) else((i:Int),f i x):=rfl
theorem GT(s:SoSeason)(i:Nat)(x:SoStore)(hx:s.stores[i]?=some x)(hl:s.stores.length<100000) :
  PCall TP 95 [s.pv,.int .i64 i] (.int .i64 (if an x.warm.length 1 8=true/\x.warm.length=days s then(bc (λ_ w=>fm w) x.warm 0).2 else 3)):=by
 have hil:i<s.stores.length:=by
  rcases aw i s.stores.length with h|h
  .exact h
  .rw[fq h]at hx;cases hx
 have hil':((i:Nat):Int)<(s.stores.length:Int):=by omega
 obtain⟨y,hy⟩:∃y,s.stores[0]?=some y:=⟨_,aT (by omega)⟩
 have hd:(y.warm.length:Int)=(days s:Int):=by
  unfold days
  cases hs:s.stores with
  |nil=>rw[hs]at hy;cases hy
  |cons z r=>rw[hs]at hy;cases hy;rfl
 have h0l:(0:Int)<(s.stores.length:Int):=by omega
 refine ae (am func95 rfl) rfl ?_;simp only[hil',hx,go_sem,simprocAttr];refine aa (kf _ _ _) rfl ?_;simp only[hy,hd,h0l,go_sem,simprocAttr];cases h7:an (x.warm.length) 1 8
 .rw[if_neg (by simp)];simp only[go_sem,simprocAttr]
 simp only[hy,hd,h0l,go_sem,simprocAttr];cases h8:((x.warm.length:Int) != (days s:Int))
 rotate_left
 .have h8':¬x.warm.length=days s:=by simp at h8;omega
  rw[if_neg (λh=>h8' h.2)];simp only[go_sem,simprocAttr]
 have h8':x.warm.length=days s:=by simp at h8;omega
 rw[if_pos ⟨rfl,h8'⟩];simp[an]at h7;simp only[go_sem,simprocAttr];refine bt [5] x.warm (by omega) (τ:=Unit) (λdone rest _=>(bc (λ_ w=>fm w) x.warm 0).2=(bc (λ_ w=>fm w) rest done.length).2) (λdone _=>[(6,.p (.int .i64 done.length))]) (λ_ _=>[.row 6 [.p s.pv]]) () rfl ?_ ?_ ?_
 .simp only[go_sem,simprocAttr]<;>simp
 .intro _ e2;simp only[go_sem,simprocAttr];rw[e2];rfl
 .intro done w r _ e1 e2 hw hlt hnx;rw[lJ]at e2;have nx:∀e,fm w=e->e≠0->(bc (λ_ w=>fm w) x.warm 0).2=e:=λe h1 h2=>by rw[e2,h1,if_neg h2]
  have hsp:fm w=if an w.lo 0 60=true/\an w.hi 0 60=true then(if w.hi<w.lo then 2 else 0) else 7:=rfl
  simp only[hlt,hw,go_sem,simprocAttr];refine aa (kf _ _ _) rfl ?_;simp only[go_sem,simprocAttr];cases h3:an w.lo 0 60
  .simp only[nx 7 (by rw[hsp,if_neg (by rw[h3];simp)]) (by decide),go_sem,simprocAttr]
  simp only[hlt,hw,go_sem,simprocAttr];refine aa (kf _ _ _) rfl ?_;simp only[go_sem,simprocAttr];cases h4:an w.hi 0 60
  .simp only[nx 7 (by rw[hsp,if_neg (by rw[h4];simp)]) (by decide),go_sem,simprocAttr]
  rw[if_pos ⟨h3,h4⟩]at hsp;simp only[hlt,hw,go_sem,simprocAttr];cases h9:decide (w.hi<w.lo);rotate_left
  .have h9':w.hi<w.lo:=by simpa using h9
   simp only[nx 2 (by rw[hsp,if_pos h9']) (by decide),go_sem,simprocAttr]
  have h9':¬w.hi<w.lo:=by simpa using h9
  rw[hsp,if_neg h9',if_pos rfl]at e2;simp only[go_sem,simprocAttr];refine aq e1 () (by rw[e2];simp) ?_;simp only[hnx,go_sem,simprocAttr]
theorem GR(s:SoSeason)(i:Nat)(x:SoStore)(hx:s.stores[i]?=some x)(hl:s.stores.length<100000):PCall TP 36 [s.pv,.int .i64 i] (.int .i64 (storeErr s i x)):=by
 have hil:i<s.stores.length:=by
  rcases aw i s.stores.length with h|h
  .exact h
  .rw[fq h]at hx;cases hx
 have hil':((i:Nat):Int)<(s.stores.length:Int):=by omega
 have hN:fw ((s.stores.take i).map (·.name)) x.name=if nameOk x.name=true then(if((s.stores.take i).any λy=>y.name==x.name)=true then 5 else 0) else 6:=by
  unfold fw;rw[ub];rfl
 refine ae (am func36 rfl) rfl ?_;simp only[hil',hx,go_sem,simprocAttr];refine aa (Bi x.name) rfl ?_;simp only[go_sem,simprocAttr];cases hn:nameOk x.name
 .have hS:storeErr s i x=6:=by rw[storeErr,hN,hn];rfl
  simp only[hS,go_sem,simprocAttr]
 simp only[go_sem,simprocAttr]
 refine aS [1,2] (σ:=List SoStore×List SoStore) (λq=>s.stores.take i=q.1++q.2/\((s.stores.take i).any λy=>y.name==x.name)=q.2.any λy=>y.name==x.name) (λq=>q.2.length)
  (λq=>[(5,.p (.int .i64 q.1.length))]) (λ_=>[.row 6 [.p s.pv]]) ([],s.stores.take i) ⟨rfl,rfl⟩ ?_ ?_
 .simp only[go_sem,simprocAttr]<;>simp
 rintro⟨done,rest⟩ ⟨e1,e2⟩
 dsimp only at e1 e2;have hlen:=congrArg List.length e1;simp at hlen
 cases rest with
 |cons y r=>
  have hy:s.stores[done.length]?=some y:=by
   have:(s.stores.take i)[done.length]?=some y:=by rw[e1];simp
   rw[kh]at this;split at this
   .exact this
   .cases this
  have h1:((done.length:Nat):Int)<(i:Int):=by simp at hlen;omega
  have h2:((done.length:Nat):Int)<(s.stores.length:Int):=by omega
  have hnx:IntKind.i64.wrap ((done.length:Int)+1)=(((done++[y]).length:Nat):Int):=az (by omega) (by simp[ai];omega) (by simp);rw[eV]at e2;simp only[h1,h2,hy,hil',hx,go_sem,simprocAttr];cases h5:y.name==x.name
  .rw[h5,gA]at e2;simp only[go_sem,simprocAttr];refine ak (done++[y],r) ⟨by simp[e1],e2⟩ (by simp) ?_;simp only[hnx,go_sem,simprocAttr]
  .rw[h5,gY]at e2;have hS:storeErr s i x=5:=by rw[storeErr,hN,hn,e2];rfl
   simp only[hS,go_sem,simprocAttr]
 |nil=>
  have h1:¬((done.length:Nat):Int)<(i:Int):=by simp at hlen;omega
  rw[fC]at e2;have hS:storeErr s i x=(if an x.rent 0 100000=true then(if an x.warm.length 1 8=true/\x.warm.length=days s then(bc (λ_ w=>fm w) x.warm 0).2 else 3) else 7):=by rw[storeErr,hN,hn,e2];rfl
  simp only[h1,hil',hx,go_sem,simprocAttr];refine aa (kf _ _ _) rfl ?_;simp only[go_sem,simprocAttr];cases h6:an x.rent 0 100000
  .rw[h6]at hS;simp only[hS,go_sem,simprocAttr]
  rw[h6,if_pos rfl]at hS;simp only[hil',go_sem,simprocAttr];refine aa (GT s i x hx hl) rfl ?_;simp only[hS,go_sem,simprocAttr]
theorem cRefCheck(s:SoSeason):PCall TP 7 [s.pv] (cd (aD s)):=by
 have hc:candOk s=(an s.candle.bend 0 60&&an s.candle.jump 0 60&&an s.candle.days 1 8&&an s.candle.times 1 8&&an s.move 0 100000):=rfl;refine ae (am func7 rfl) rfl ?_;simp only[go_sem,simprocAttr];refine aa (kf _ _ _) rfl ?_;simp only[go_sem,simprocAttr];cases h1:an s.candle.bend 0 60
 .have hS:aD s=(1,0,7):=by rw[aD,hc,h1];rfl
  simp only[cd,hS,go_sem,simprocAttr]
 simp only[go_sem,simprocAttr];refine aa (kf _ _ _) rfl ?_;simp only[go_sem,simprocAttr];cases h2:an s.candle.jump 0 60
 .have hS:aD s=(1,0,7):=by rw[aD,hc,h1,h2];rfl
  simp only[cd,hS,go_sem,simprocAttr]
 simp only[go_sem,simprocAttr];refine aa (kf _ _ _) rfl ?_;simp only[go_sem,simprocAttr];cases h3:an s.candle.days 1 8
 .have hS:aD s=(1,0,7):=by rw[aD,hc,h1,h2,h3];rfl
  simp only[cd,hS,go_sem,simprocAttr]
 simp only[go_sem,simprocAttr];refine aa (kf _ _ _) rfl ?_;simp only[go_sem,simprocAttr];cases h4:an s.candle.times 1 8
 .have hS:aD s=(1,0,7):=by rw[aD,hc,h1,h2,h3,h4];rfl
  simp only[cd,hS,go_sem,simprocAttr]
 simp only[go_sem,simprocAttr];refine aa (kf _ _ _) rfl ?_;simp only[go_sem,simprocAttr];cases h5:an s.move 0 100000
 .have hS:aD s=(1,0,7):=by rw[aD,hc,h1,h2,h3,h4,h5];rfl
  simp only[cd,hS,go_sem,simprocAttr]
 have hcan:candOk s=true:=by rw[hc,h1,h2,h3,h4,h5];rfl
 simp only[go_sem,simprocAttr];refine aa (kf _ _ _) rfl ?_;simp only[go_sem,simprocAttr];cases h6:an s.stores.length 1 3
 .have hS:aD s=(2,0,3):=by rw[aD,if_pos hcan,h6];rfl
  simp only[cd,hS,go_sem,simprocAttr]
 have hS:aD s=if(bc (storeErr s) s.stores 0).2=0 then(0,0,0) else(2,(bc (storeErr s) s.stores 0).1,(bc (storeErr s) s.stores 0).2):=by rw[aD,if_pos hcan,if_pos h6]
 simp[an]at h6;simp only[go_sem,simprocAttr]
 refine bt [1] s.stores (by omega) (τ:=Unit) (λdone rest _=>bc (storeErr s) s.stores 0=bc (storeErr s) rest done.length) (λdone _=>[(6,.p (.int .i64 done.length))])
  (λ_ _=>[.row 6 [.p s.pv],.row 4 [.p s.candle.pv]]) () rfl ?_ ?_ ?_
 .simp only[go_sem,simprocAttr]<;>simp
 .intro _ e2;rw[e2,bc,if_pos rfl]at hS;simp only[cd,hS,go_sem,simprocAttr]
 .intro done x r _ e1 e2 hx hlt hnx;rw[lJ]at e2;simp only[hlt,hx,go_sem,simprocAttr];refine aa (GR s done.length x hx (by omega)) rfl ?_;simp only[go_sem,simprocAttr];cases h7:storeErr s done.length x != 0
  .have h7':storeErr s done.length x=0:=by simpa using h7
   rw[if_pos h7']at e2;simp only[go_sem,simprocAttr];refine aq e1 () (by rw[e2];simp) ?_;simp only[hnx,go_sem,simprocAttr]
  .have h7':¬storeErr s done.length x=0:=by simpa using h7
   rw[if_neg h7']at e2;rw[e2,if_neg h7']at hS;simp only[cd,hS,go_sem,simprocAttr]
theorem tA(c:SoCandle)(b w:Int)(hb:0<=b/\b<=1000)(hw:0<=w/\w<=1000):PCall TP 97 [c.pv,.int .i64 b,.int .i64 w] (.bool (fG c b w)):=by
 have w1:IntKind.i64.wrap (b-w)=b-w:=aj (by omega) (by omega);have w2:IntKind.i64.wrap (w-b)=w-b:=aj (by omega) (by omega);refine ae (am func97 rfl) rfl ?_;simp only[w1,w2,fG,go_sem,simprocAttr]
 congr 1
 split<;>congr 1<;>omega
theorem Mn(c:SoCandle)(b:Int)(w:Span)(hb:0<=b/\b<=1000):PCall TP 92 [c.pv,.int .i64 b,w.pv] (.int .i64 (iF c b w)):=by
 have w1:IntKind.i64.wrap (b+1)=b+1:=aj (by omega) (by omega);refine ae (am func92 rfl) rfl ?_;simp only[go_sem,simprocAttr];unfold iF;cases h:decide (w.hi<c.bend)
 .rw[if_neg (by simpa using h)];simp only[w1,go_sem,simprocAttr]
 .rw[if_pos (by simpa using h)];simp only[go_sem,simprocAttr]
theorem AY:∀(l:List Int) (x y:Int),l.foldl max (max x y)=max x (l.foldl max y)
 |[],_,_=>rfl
 |z::l,x,y=>by
  rw[np,np,show max (max x y) z=max x (max y z) by omega,AY l x (max y z)]
theorem xR:∀(l:List Int) (x:Int),jm (x::l)=l.foldl max x
 |[],x=>rfl
 |y::l,x=>by
  show max x (jm (y::l))=_;rw[xR l y,np,AY]
theorem if_max(a b:Int):(if a<b then b else a)=max a b:=by split<;>omega
theorem Pl(l:List Int)(b:Bool)(h0:l≠[])(hl:l.length<1000000000):PCall TP 140 [.slice 1 (l.map intPV) b] (.int .i64 (jm l)):=by
 obtain⟨x,r,rfl⟩:=List.exists_cons_of_ne_nil h0;rw[xR];have h1:¬(((x::r).length:Nat):Int)<1:=by rw[du];omega
 have h2:(0:Int)<(((x::r).length:Nat):Int):=by rw[du];omega
 have d1:decide ((((x::r).length:Nat):Int)<1)=false:=by simpa using h1
 generalize hL:x::r=L at h1 h2 d1 hl;have hx:L[0]?=some x:=by rw[<-hL];rfl
 refine ae (am func140 rfl) rfl ?_;simp only[h1,h2,d1,hx,go_sem,simprocAttr]
 refine aS [0] (σ:=List Int×List Int×Int) (λq=>L=q.1++q.2.1/\r.foldl max x=q.2.1.foldl max q.2.2) (λq=>q.2.1.length)
  (λq=>[(3,.p (.int .i64 q.2.2)),(4,.p (.int .i64 q.1.length))]) (λ_=>[]) ([x],r,x) ⟨hL.symm,rfl⟩ ?_ ?_
 .simp only[go_sem,simprocAttr]
 rintro⟨done,rest,m⟩ ⟨e1,e2⟩
 dsimp only at e1 e2
 cases rest with
 |nil=>
  have hlt:¬((done.length:Int)<(L.length:Int)):=by rw[e1];simp
  simp only[hlt,decide_false,go_sem,simprocAttr]
  rw[e2];rfl
 |cons y t=>
  obtain⟨hy,hlt⟩:=w8 e1;have hnx:IntKind.i64.wrap ((done.length:Int)+1)=(((done++[y]).length:Nat):Int):=az (by omega) (by simp[ai];omega) (by simp);simp only[hlt,decide_true,hy,go_sem,simprocAttr];refine ak (done++[y],t,max m y) ⟨by simp[e1],by rw[e2];rfl⟩ (by simp) ?_;simp only[hnx,if_max,go_sem,simprocAttr]
theorem D':∀(l:List Int),l≠[]->∀{B:Int},(∀n,n∈l->0<=n/\n<=B)->0<=jm l/\jm l<=B
 |[x],_,B,h=>h x List.mem_cons_self
 |x::y::l,_,B,h=>by
  have h1:=h x List.mem_cons_self;have h2:=D' (y::l) (by simp) λn hn=>h n (eU _ hn);show 0<=max x (jm (y::l))/\max x (jm (y::l))<=B;omega
theorem EK(j:List Int)(hj:j.length=61)(hB:∀n,n∈j->0<=n/\n<=1000):PCall TP 94 [.agg (j.map intPV)] (.int .i64 (jE j)):=by
 have hne:j≠[]:=by intro e;rw[e]at hj;simp at hj
 have hm:0<=jm j/\jm j<=1000:=D' j hne hB;have w1:IntKind.i64.wrap (jm j-1)=jm j-1:=aj (by omega) (by omega);refine ae (am func94 rfl) rfl ?_;simp only[go_sem,simprocAttr];refine dX (Pl j false hne (by omega)) ?_ (.int _ _) ?_
 .simp only[go_sem,simprocAttr];rw[hj,Ew _ _ _ _ (by simp[hj]),JE (by simp[hj])]
 .simp only[w1,jE,go_sem,simprocAttr]
theorem IZ:cI 61 (λ_=>0)=b9.map intPV:=rfl
theorem Jx:ax TP 108=some (.agg (cI 61 λ_=>0)):=by kernel_rfl
def AO:List CK:=List.replicate 61 .int
theorem ND:cT TP 108=some AO:=by kernel_rfl
attribute [go_sem high] Jx ND
theorem Ii(j:List Int)(hj:j.length=61):cb AO (j.map intPV) (cI 61 λ_=>0)=some (decide (j=b9)):=by
 rw[IZ,AO,<-hj];exact oN j b9 hj
def eR (c:SoCandle) (w:Span) (j:List Int) (k:Nat) (i:Nat):Int:=if w.lo<=(i:Int)/\(i:Int)<w.lo+k then cM c i j 0 (if j=b9 then 1 else 0) else 0
theorem As{c:SoCandle}{now B:Int}:∀(l:List Int) (b m:Int),(∀n,n∈l->0<=n/\n+1<=B)->0<=m->m<=B->0<=cM c now l b m/\cM c now l b m<=B
 |[],b,m,_,h1,h2=>⟨h1,h2⟩
 |n::l,b,m,h,h1,h2=>by
  unfold cM;have hn:=h n List.mem_cons_self;refine As l (b+1) _ (λx hx=>h x (eU _ hx)) ?_ ?_
  .split<;>omega
  .split<;>omega
theorem wY{c:SoCandle}{w:Span}{j:List Int}{B:Int}(hB:0<B)(h:∀n,n∈j->0<=n/\n+1<=B):∀n,n∈f' c w j->0<=n/\n<=B:=λn hn=>by
 obtain⟨i,_,rfl⟩:=eK.1 hn;split
 .exact As j 0 _ h (by split<;>omega) (by split<;>omega)
 .omega
theorem HQ(c:SoCandle)(w:Span)(j:List Int)(k:Nat)(h0:0<=w.lo)(hk:w.lo+k=w.hi+1):cI 61 (eR c w j k)=(f' c w j).map intPV:=by
 unfold f' cI;rw[oX];refine lv λi _=>?_;show PV.int .i64 (eR c w j k i)=PV.int .i64 (if w.lo<=(i:Int)/\(i:Int)<=w.hi then cM c i j 0 (if j=b9 then 1 else 0) else 0)
 congr 1
 unfold eR;by_cases h:w.lo<=(i:Int)/\(i:Int)<=w.hi
 .rw[if_pos (show w.lo<=(i:Int)/\(i:Int)<w.lo+k by omega),if_pos h]
 .rw[if_neg (show ¬(w.lo<=(i:Int)/\(i:Int)<w.lo+k) by omega),if_neg h]
theorem HP(c:SoCandle)(w:Span)(j:List Int)(k a:Nat)(ha:w.lo+k=a):cI 61 (λi=>if i=a then cM c a j 0 (if j=b9 then 1 else 0) else eR c w j k i)=cI 61 (eR c w j (k+1)):=
 kw λi _=>by
  unfold eR;by_cases h:i=a
  .subst h;rw[if_pos rfl,if_pos (show w.lo<=(i:Int)/\(i:Int)<w.lo+((k+1:Nat):Int) by omega)]
  .rw[if_neg h];by_cases h2:w.lo<=(i:Int)/\(i:Int)<w.lo+k
   .rw[if_pos h2,if_pos (show w.lo<=(i:Int)/\(i:Int)<w.lo+((k+1:Nat):Int) by omega)]
   .rw[if_neg h2,if_neg (show ¬(w.lo<=(i:Int)/\(i:Int)<w.lo+((k+1:Nat):Int)) by omega)]
theorem EJ(j:List Int)(c:SoCandle)(w:Span)(hj:j.length=61)(hB:∀n,n∈j->0<=n/\n<=900)(hw:0<=w.lo/\w.lo<=w.hi/\w.hi<=60) :
  PCall TP 93 [.agg (j.map intPV),c.pv,w.pv] (.agg ((f' c w j).map intPV)):=by
 have hz:cI 61 (eR c w j 0)=cI 61 λ_=>0:=kw λi _=>by unfold eR;rw[if_neg (show ¬(w.lo<=(i:Int)/\(i:Int)<w.lo+((0:Nat):Int)) by omega)]
 refine ae (am func93 rfl) rfl ?_;simp only[hj,go_sem,simprocAttr]
 refine aS [3,4,5,6] (σ:=Nat) (λk=>w.lo+k<=w.hi+1) (λk=>(w.hi+1-w.lo-k).toNat) (λk=>[(7,.p (.int .i64 (w.lo+k)))])
  (λk=>[.row 61 [.p (.agg (j.map intPV))],.row 4 [.p c.pv],.row 2 [.p w.pv],.row 61 [.p (.agg (cI 61 (eR c w j k)))]]) 0 (by simp;omega) ?_ ?_
 .simp only[hj,hz,mH,go_sem,simprocAttr]
 intro k hk;obtain⟨a,ha⟩:∃a:Nat,w.lo+k=a:=⟨(w.lo+k).toNat,by omega⟩
 rw[ha]at hk;dsimp only;cases hlt:decide ((a:Int)<=w.hi)
 .have hlt':¬(a:Int)<=w.hi:=by simpa using hlt
  have hall:=HQ c w j k hw.1 (by omega);simp only[ha,hlt,hall,eJ,go_sem,simprocAttr]
 have hlt':(a:Int)<=w.hi:=by simpa using hlt
 have a61:a<61:=by omega
 have a61':(a:Int)<61:=by omega
 have a60:a<=60:=by omega
 have hna:eR c w j k a=0:=by unfold eR;rw[if_neg (show ¬(w.lo<=(a:Int)/\(a:Int)<w.lo+k) by omega)]
 simp only[ha,hlt,hj,Ii j hj,go_sem,simprocAttr];obtain⟨zz,hzz⟩:∃zz:Int,zz=if j=b9 then 1 else 0:=⟨_,rfl⟩
 have hz01:0<=zz/\zz<=1:=by rw[hzz];split<;>omega
 have hone:=HP c w j k a ha;rw[<-hzz]at hone;have inner:∀f:Nat->Int,cI 61 f=cI 61 (λi=>if i=a then zz else eR c w j k i)->True:=λ_ _=>trivial;cases hz0:decide (j=b9)
 .have hz1:zz=0:=by rw[hzz,if_neg (by simpa using hz0)]
  have hini:cI 61 (eR c w j k)=cI 61 λi=>if i=a then zz else eR c w j k i:=kw λi _=>by
   by_cases h:i=a
   .subst h;rw[if_pos rfl,hna,hz1]
   .rw[if_neg h]
  simp only[hj,go_sem,simprocAttr]
  refine bt [3,4,5,6,7,23] j (by omega) (τ:=Int) (λdone rest m=>cM c a j 0 zz=cM c a rest done.length m/\0<=m/\m<=901) (λdone _=>[(24,.p (.int .i64 done.length))])
   (λ_ m=>[.row 61 [.p (.agg (j.map intPV))],.row 4 [.p c.pv],.row 2 [.p w.pv],.row 61 [.p (.agg (cI 61 λi=>if i=a then m else eR c w j k i))]]) zz ⟨rfl,by omega,by omega⟩ ?_ ?_ ?_
  .simp only[hini,go_sem,simprocAttr]
  .rintro m ⟨e2,_,_⟩
   rw[show cM c a [] j.length m=m from rfl]at e2;rw[e2]at hone;have hnx:IntKind.i64.wrap ((a:Int)+1)=w.lo+((k+1:Nat):Int):=by rw[aj (by omega) (by omega)];omega
   simp only[hj,go_sem,simprocAttr];refine ak (k+1) (by omega) (by omega) ?_;simp only[hnx,hone,go_sem,simprocAttr]
  .rintro done n r m e1 ⟨e2,h1,h2⟩ hx hlt2 hnx
   rw[hj]at hlt2;have hn:=hB n (by rw[e1];simp);have hd:(done.length:Int)<61:=by omega
   have wn:IntKind.i64.wrap (n+1)=n+1:=aj (by omega) (by omega);rw[show cM c a (n::r) done.length m=cM c a r (done.length+1) (max m (if 0<n/\fG c done.length a=true then n+1 else n)) from rfl]at e2;simp only[hd,hx,Nat.mul_one,go_sem,simprocAttr];cases hn0:decide (0<n)
   .have hn0':¬0<n:=by simpa using hn0
    rw[if_neg (λh=>hn0' h.1)]at e2;simp only[a61,a61',a60,Nat.mul_one,lM _ _ a61,dd _ a61,m6,if_max,go_sem,simprocAttr];refine aq e1 (max m n) ⟨by rw[e2];simp,by omega,by omega⟩ ?_;simp only[hnx,go_sem,simprocAttr]
   have hn0':0<n:=by simpa using hn0
   simp only[go_sem,simprocAttr]
   (first|refine aa (tA c done.length a (by omega) (by omega)) rfl ?_|refine ao (tA c done.length a (by omega) (by omega)) rfl ?_)
   simp only[go_sem,simprocAttr];cases hjp:fG c done.length a
   .rw[if_neg (λh=>by rw[hjp]at h;cases h.2)]at e2;simp only[a61,a61',a60,Nat.mul_one,lM _ _ a61,dd _ a61,m6,if_max,go_sem,simprocAttr];refine aq e1 (max m n) ⟨by rw[e2];simp,by omega,by omega⟩ ?_;simp only[hnx,go_sem,simprocAttr]
   .rw[if_pos ⟨hn0',hjp⟩]at e2;simp only[wn,a61,a61',a60,Nat.mul_one,lM _ _ a61,dd _ a61,m6,if_max,go_sem,simprocAttr];refine aq e1 (max m (n+1)) ⟨by rw[e2];simp,by omega,by omega⟩ ?_;simp only[hnx,go_sem,simprocAttr]
 .have hz1:zz=1:=by rw[hzz,if_pos (by simpa using hz0)]
  have hini:(cI 61 λi=>if i=a then(1:Int) else eR c w j k i)=cI 61 λi=>if i=a then zz else eR c w j k i:=by rw[hz1]
  simp only[ha,hlt,hj,a61,a61',a60,Nat.mul_one,lM _ _ a61,dd _ a61,hna,go_sem,simprocAttr]
  refine bt [3,4,5,6,7,23] j (by omega) (τ:=Int) (λdone rest m=>cM c a j 0 zz=cM c a rest done.length m/\0<=m/\m<=901) (λdone _=>[(24,.p (.int .i64 done.length))])
   (λ_ m=>[.row 61 [.p (.agg (j.map intPV))],.row 4 [.p c.pv],.row 2 [.p w.pv],.row 61 [.p (.agg (cI 61 λi=>if i=a then m else eR c w j k i))]]) zz ⟨rfl,by omega,by omega⟩ ?_ ?_ ?_
  .simp only[hini,go_sem,simprocAttr]
  .rintro m ⟨e2,_,_⟩
   rw[show cM c a [] j.length m=m from rfl]at e2;rw[e2]at hone;have hnx:IntKind.i64.wrap ((a:Int)+1)=w.lo+((k+1:Nat):Int):=by rw[aj (by omega) (by omega)];omega
   simp only[hj,go_sem,simprocAttr];refine ak (k+1) (by omega) (by omega) ?_;simp only[hnx,hone,go_sem,simprocAttr]
  .rintro done n r m e1 ⟨e2,h1,h2⟩ hx hlt2 hnx
   rw[hj]at hlt2;have hn:=hB n (by rw[e1];simp);have hd:(done.length:Int)<61:=by omega
   have wn:IntKind.i64.wrap (n+1)=n+1:=aj (by omega) (by omega);rw[show cM c a (n::r) done.length m=cM c a r (done.length+1) (max m (if 0<n/\fG c done.length a=true then n+1 else n)) from rfl]at e2;simp only[hd,hx,Nat.mul_one,go_sem,simprocAttr];cases hn0:decide (0<n)
   .have hn0':¬0<n:=by simpa using hn0
    rw[if_neg (λh=>hn0' h.1)]at e2;simp only[a61,a61',a60,Nat.mul_one,lM _ _ a61,dd _ a61,m6,if_max,go_sem,simprocAttr];refine aq e1 (max m n) ⟨by rw[e2];simp,by omega,by omega⟩ ?_;simp only[hnx,go_sem,simprocAttr]
   have hn0':0<n:=by simpa using hn0
   simp only[go_sem,simprocAttr]
   (first|refine aa (tA c done.length a (by omega) (by omega)) rfl ?_|refine ao (tA c done.length a (by omega) (by omega)) rfl ?_)
   simp only[go_sem,simprocAttr];cases hjp:fG c done.length a
   .rw[if_neg (λh=>by rw[hjp]at h;cases h.2)]at e2;simp only[a61,a61',a60,Nat.mul_one,lM _ _ a61,dd _ a61,m6,if_max,go_sem,simprocAttr];refine aq e1 (max m n) ⟨by rw[e2];simp,by omega,by omega⟩ ?_;simp only[hnx,go_sem,simprocAttr]
   .rw[if_pos ⟨hn0',hjp⟩]at e2;simp only[wn,a61,a61',a60,Nat.mul_one,lM _ _ a61,dd _ a61,m6,if_max,go_sem,simprocAttr];refine aq e1 (max m (n+1)) ⟨by rw[e2];simp,by omega,by omega⟩ ?_;simp only[hnx,go_sem,simprocAttr]
def State.pv (x:State):PV:=.agg (.int .i64 x.day::.int .i64 x.store::.int .i64 x.hot::x.jumps.map intPV)
attribute [go_sem] State.pv
theorem Jw:ax TP 110=some (.agg (.int .i64 0::.int .i64 0::.int .i64 0::cI 61 λ_=>0)):=by kernel_rfl
attribute [go_sem high] Jw
theorem oA{s:SoSeason}{i:Nat}{x:SoStore}(hx:s.stores[i]?=some x){d:Int}(h0:0<=d)(hd:d<x.warm.length):x.warm[d.toNat]?=some (aF s i d):=by
 unfold aF;rw[hx];have:d.toNat<x.warm.length:=by omega
 simp[bB,aT this]
theorem tB(s:SoSeason)(h0:s.stores≠[]):PCall TP 32 [s.pv] (.int .i64 (days s)):=by
 obtain⟨y,r,hy⟩:=List.exists_cons_of_ne_nil h0;have hy0:s.stores[0]?=some y:=by rw[hy];rfl
 have hd:(y.warm.length:Int)=(days s:Int):=by unfold days;rw[hy]
 have h0l:(0:Int)<(s.stores.length:Int):=by rw[hy,du];omega
 refine ae (am func32 rfl) rfl ?_;simp only[hy0,h0l,hd,go_sem,simprocAttr]
theorem vV(d:Nat)(hd:d<1000):PCall TP 34 [.int .i64 d] (State.pv ⟨d-1,-1,0,b9⟩):=by
 have w1:IntKind.i64.wrap ((d:Int)-1)=d-1:=aj (by omega) (by omega);refine ae (am func34 rfl) rfl ?_;simp only[w1,<-IZ,go_sem,simprocAttr]
structure StOk (s:SoSeason) (x:State) (k:Nat):Prop where
 day:x.day=(k:Int)-1
 le:k<=days s
 hot:0<=x.hot/\x.hot<=k
 len:x.jumps.length=61
 num:∀n,n∈x.jumps->0<=n/\n<=k+1
theorem rq{s:SoSeason}(h:SoOk s){x:State}{k i:Nat}(hx:StOk s x k)(hk:k<days s):StOk s (aO s x i) (k+1) where
 day:=by show x.day+1=_;rw[hx.day];omega
 le:=hk
 hot:=by
  have:=hx.hot;show 0<=iF s.candle x.hot (aF s i (x.day+1))/\iF s.candle x.hot (aF s i (x.day+1))<=((k+1:Nat):Int)
  unfold iF;split<;>omega
 len:=eJ
 num:=λn hn=>by
  have:=wY (B:=(k:Int)+2) (by omega) (λn hn=>by have:=hx.num n hn;omega) n hn;omega
theorem Bv{s:SoSeason}:StOk s cy 0 where
 day:=by decide
 le:=bE _
 hot:=by decide
 len:=by decide
 num:=λn hn=>by
  have:n=0:=List.eq_of_mem_replicate hn;omega
theorem Bn(s:SoSeason)(h:SoOk s)(x:State)(k i:Nat)(hi:i<s.stores.length)(hx:StOk s x k)(hk:k<days s) :
  PCall TP 33 [s.pv,x.pv,.int .i64 i] (.tuple [(aO s x i).pv,.bool (pP s (aO s x i))]):=by
 obtain⟨y,hy⟩:∃y,s.stores[i]?=some y:=⟨_,aT hi⟩
 have hil:(i:Int)<(s.stores.length:Int):=by omega
 have hdy:=h.day8;have hyl:=h.same y (aV hy);have w1:IntKind.i64.wrap (x.day+1)=x.day+1:=aj (by rw[hx.day];omega) (by rw[hx.day];omega);have d0:0<=x.day+1:=by rw[hx.day];omega
 have d1:x.day+1<(y.warm.length:Int):=by rw[hx.day];omega
 have hwm:=oA hy d0 d1;have hw:=warmAt_ok h hi d0 (by rw[hx.day];omega);have hok:=rq h (i:=i) hx hk;have hf:aO s x i=⟨x.day+1,i,iF s.candle x.hot (aF s i (x.day+1)),f' s.candle (aF s i (x.day+1)) x.jumps⟩:=rfl;have hxh:=hx.hot;refine ae (ku (by kernel_rfl) rfl Pd) rfl ?_;have t2:List.drop 61 ((x.jumps.map intPV).map AV.p)=[]:=pf (by simp[hx.len]);have t1:List.take 61 ((x.jumps.map intPV).map AV.p)=(x.jumps.map intPV).map AV.p:=dz (by simp[hx.len]);simp only[BS,af,w1,d0,d1,hil,hy,hwm,hx.len,go_sem,simprocAttr];refine ao (Mn s.candle x.hot (aF s i (x.day+1)) (by omega)) rfl ?_;simp only[BS,af,w1,d0,d1,hil,hy,hwm,hx.len,t1,eH,go_sem,simprocAttr];refine ao (EJ x.jumps s.candle (aF s i (x.day+1)) hx.len (λn hn=>by have:=hx.num n hn;omega) hw) rfl ?_;have tn:List.take 61 (((f' s.candle (aF s i (x.day+1)) x.jumps).map intPV).map AV.p)=((f' s.candle (aF s i (x.day+1)) x.jumps).map intPV).map AV.p:=dz (by simp[eJ]);have hfj:(aO s x i).jumps=f' s.candle (aF s i (x.day+1)) x.jumps:=rfl;have hfh:(aO s x i).hot=iF s.candle x.hot (aF s i (x.day+1)):=rfl;have hmB:=hok.num;rw[hfj]at hmB;simp only[BS,af,w1,d0,d1,hil,hy,hwm,hx.len,t1,t2,tn,co,eH,eJ,go_sem,simprocAttr];have hq:pP s (aO s x i)=(decide (iF s.candle x.hot (aF s i (x.day+1))<s.candle.days)&&decide (jE (f' s.candle (aF s i (x.day+1)) x.jumps)<s.candle.times)):=rfl;rw[hq];cases hb:decide (iF s.candle x.hot (aF s i (x.day+1))<s.candle.days)
 .simp only[BS,af,eJ,go_sem,simprocAttr];exact⟨rfl,rfl,rfl,rfl⟩
 .simp only[BS,af,eJ,tn,eH,go_sem,simprocAttr];refine ao (EK _ eJ λn hn=>by have:=hmB n hn;omega) rfl ?_;simp only[BS,af,eJ,tn,eH,go_sem,simprocAttr];exact⟨rfl,rfl,rfl,rfl⟩
end So
end Abs
end Go.Proofs.YtmndpldajflenaaGreatDoor
