/- CONTRACTS: the fewest batches that explain. No conditions but those in the theorems' heads -/
import Derived.Test.YtmndpldajflenaaGreatDoorTrSX
set_option linter.all false
set_option maxHeartbeats 16000000
namespace Go.Proofs.YtmndpldajflenaaGreatDoor
namespace Abs
namespace Tr
set_option maxRecDepth 4000
theorem AL{v:PV}{l:List Int}(h:ISl v l):v=.nilslice\/∃c g,v=.slice 1 c g:=by
 cases h with
 |nil=>exact .inl rfl
 |mk=>exact .inr ⟨_,_,rfl⟩
theorem zT(sp:Nat->Nat->Bool){i:Nat}(hi:i<8)(m:Nat->Bool):bV (List.take (i*8) ((hH sp).map AV.p)++(cB 8 m).map AV.p++List.drop (i*8+8) ((hH sp).map AV.p))=some (hH λj=>if j=i then m else sp j):=by
 have e:List.take (i*8) ((hH sp).map AV.p)++(cB 8 m).map AV.p++List.drop (i*8+8) ((hH sp).map AV.p)=(hH λj=>if j=i then m else sp j).map AV.p:=by
  apply iv;intro k;have hl:(List.take (i*8) ((hH sp).map AV.p)).length=i*8:=by simp[CV];omega
  rcases aw k (i*8) with h1|h1
  .rw[bJ,br (by omega),List.getElem?_take_of_lt h1,bU,bU];unfold hH;rw[cN _ (by omega),cN _ (by omega)];dsimp only;rw[if_neg (by omega)]
  .rcases aw k (i*8+8) with h2|h2
   .rw[bJ,ca (by omega),hl,br (by simp[iO];omega),bU,bU,cN _ (by omega)];unfold hH;rw[cN _ (by omega)];dsimp only;rw[if_pos (by omega),show k%8=k-i*8 by omega]
   .rw[ca (by simp[iO];omega),ay,hl,qj,iO,nn,bU,bU,show i*8+8+(k-(i*8+8))=k by omega];unfold hH;rcases aw k 64 with h3|h3
    .rw[cN _ h3,cN _ h3];dsimp only;rw[if_neg (by omega)]
    .rw[fq (by simpa[iO]using h3),fq (by simpa[iO]using h3)]
 rw[e,eH]
def ke (o:Option (List Nat)):PV:=match o with|some l=>.tuple [.slice 1 (l.map bQ) false,.int .i64 0]|none=>.tuple [.nilslice,.int .i64 9]
def cn (b:List TrBatch) (good:List Nat) (k:Nat):Nat->Nat->Bool:=λi=>if i<k then fD b good i else λ_=>false
theorem pk(b:List TrBatch)(good:List Nat)(k:Nat):(λj=>if j=k then fD b good k else cn b good k j)=cn b good (k+1):=by
 funext j;unfold cn;by_cases h:j=k
 .subst h;rw[if_pos rfl,if_pos (by omega)]
 .rw[if_neg h];by_cases h2:j<k
  .rw[if_pos h2,if_pos (by omega)]
  .rw[if_neg h2,if_neg (by omega)]
theorem lH{α β:Type}{f g:α->Option β}:∀(l:List α),(∀x,x∈l->f x=g x)->l.findSome? f=l.findSome? g
 |[],_=>rfl
 |x::l,h=>by
  rw[List.findSome?_cons,List.findSome?_cons,h x List.mem_cons_self,lH l λy hy=>h y (eU _ hy)]
theorem tJ{n:Nat}{sp sq:Nat->Nat->Bool}{compl:List Nat}(h:∀i,i<n->sp i=sq i):∀(many a:Nat) (best:List Nat),(∀i,i∈best->i<n)->ci n sp compl many a best=ci n sq compl many a best
 |0,a,best,hb=>by
  have e:∀c,(best.any λi=>sp i c)=best.any λi=>sq i c:=λc=>by
   rw[gC,fL,fL];exact⟨λ⟨i,hi,hh⟩=>⟨i,hi,by rw[<-h i (hb i hi)];exact hh⟩,λ⟨i,hi,hh⟩=>⟨i,hi,by rw[h i (hb i hi)];exact hh⟩⟩
  unfold ci ju
  simp only[e]
 |many+1,a,best,hb=>by
  unfold ci;refine lH _ λi hi=>?_;have hin:i<n:=bX.1 (List.mem_of_mem_drop hi);exact tJ h many (i+1) (best++[i]) λj hj=>by
   rcases gu.1 hj with hj|hj
   .exact hb j hj
   .have:j=i:=by simpa using hj
    omega
theorem sI(b:List TrBatch)(good compl:List Nat):fh b.length (cn b good b.length) compl=fh b.length (fD b good) compl:=by
 unfold fh;refine lH _ λmany _=>tJ (λi hi=>if_pos hi) many 0 [] (by simp)
theorem Nm(b:List TrBatch)(f:Bool)(cv cw:List PV)(gv gw:Bool)(compl good:List Nat)(h:(bM b).2.2=0)(hT:cZ b)(hv:ISl .nilslice (ck compl))(hw:ISl (.slice 1 cw gw) (ck good))(h1:1<=compl.length+good.length)(hn:compl.length+good.length<=1000)(hc:∀c,c∈compl->c<b.length)(hg:∀c,c∈good->c<b.length) :
  eS Tryz.prog 15 [.slice 5 (b.map TrBatch.pv) f,.nilslice,(.slice 1 cw gw)] (ke (fh b.length (fD b good) compl)):=by
 have hk:=gW h;have hl8:=hk.len;have hcat:=th .nilslice (.slice 1 cw gw) (ck compl) (ck good) true hv hw (by rw[cJ,cJ];exact h1) (by rw[cJ,cJ];omega);have hout:((ck compl++ck good).any λn=>!an n 0 (b.length-1))=false:=by
  rw[List.any_eq_false];intro n hnn;have:∃m:Nat,m<b.length/\n=(m:Int):=by
   rcases gu.1 hnn with h|h
   .obtain⟨m,hm,rfl⟩:=eK.1 h;exact⟨m,hc m hm,rfl⟩
   .obtain⟨m,hm,rfl⟩:=eK.1 h;exact⟨m,hg m hm,rfl⟩
  obtain⟨m,hm,rfl⟩:=this;simp[an];omega
 have hent:=n7 b f false (ck compl++ck good) h hT (by rw[ay,cJ,cJ];omega);rw[hout]at hent;have hsg:=λ(m:Nat->Bool)=>sR (fv:=.func (.func 65) [] [.ptr 8 [.agg (cB 8 m)] 0 0]) (.slice 1 cw gw) good m hw (by omega) λi n hn=>⟨_,_,_,rfl,xg i n m (by have:=hg n hn;omega)⟩
 refine di (ku (by kernel_rfl) rfl HM) rfl ?_;simp only[dK,af,go_sem,simprocAttr];refine ao hcat.pure rfl ?_;simp only[dK,af,go_sem,simprocAttr];refine ao hent rfl ?_;simp only[dK,af,bI,cD,go_sem,simprocAttr]
 refine bt [2,3,4,6,8,9,27] b (by omega) (τ:=Unit) (λ_ _ _=>True) (λdone _=>[(28,.p (.int .i64 done.length))])
  (λdone _=>[.row 1 [.p (.slice 5 (b.map TrBatch.pv) f)],.row 1 [.p .nilslice],.row 1 [.p .nilslice],.row 82 [.p (bI b f)],.row 64 [.p (.agg (hH (cn b good done.length)))]]) () trivial ?_ ?_ ?_
 .have z:hH (cn b good 0)=hH (λ_ _=>false):=by
   have:cn b good 0=λ_ _=>false:=by funext j;exact if_neg (Nat.not_lt_zero j)
   rw[this]
  simp only[z,go_sem,simprocAttr];rfl
 rotate_left
 .intro done x r _ e1 _ hx hlt hnx;have d8:done.length<8:=by omega
  have d8i:(done.length:Int)<8:=by omega
  have d56:done.length*8+8<=64:=by omega
  have hm:=vQ b f done.length hk d8 hT;have hy:=Bj b f done.length hk d8 hT;rw[bI,cD]at hm hy;obtain⟨m,hme⟩:∃m,m=pq b.length (tk b) (ba b) (losts b) (supp b) done.length:=⟨_,rfl⟩
  rw[<-hme]at hm;have hss:=pk b good done.length;have hsp:fD b good done.length=if good.any m then λ_=>false else mayGo b.length (tk b) done.length (losts b) (supp b) [] λ_=>false:=by unfold fD uh;rw[hme]
  simp only[dK,af,hlt,hx,bI,cD,go_sem,simprocAttr];refine aa hm rfl ?_;simp only[dK,af,go_sem,simprocAttr];refine dX (hsg m) ?_ (.bool _) ?_
  .simp only[go_sem,simprocAttr]
  simp only[dK,af,go_sem,simprocAttr];cases ha:good.any m
  .rw[ha,if_neg (by decide)]at hsp;simp only[dK,af,go_sem,simprocAttr];refine aa hy rfl ?_;have hset:=zT (cn b good done.length) d8 (fD b good done.length);rw[hss]at hset;rw[<-hsp];simp only[dK,af,d8i,d56,iO,hset,go_sem,simprocAttr];refine aq e1 () trivial ?_;simp only[hnx,ay,aC,bI,cD,go_sem,simprocAttr]
  .rw[ha,if_pos rfl]at hsp;have hz:cn b good done.length=cn b good (done.length+1):=by
    rw[<-hss];funext j;by_cases hj:j=done.length
    .rw[if_pos hj,hsp];unfold cn;rw[if_neg (by omega)]
    .rw[if_neg hj]
   simp only[dK,af,go_sem,simprocAttr];refine aq e1 () trivial ?_;simp only[hnx,ay,aC,bI,cD,<-hz,go_sem,simprocAttr]
 intro _ _;simp only[dK,af,bI,cD,go_sem,simprocAttr];have hfe:=sI b good compl;rw[<-hfe];obtain⟨sp,hsp⟩:∃sp,sp=cn b good b.length:=⟨_,rfl⟩
 rw[<-hsp];have wn:IntKind.i64.wrap ((b.length:Int)+1)=((b.length+1:Nat):Int):=az (by omega) (by simp[ai];omega) (by omega);simp only[wn,go_sem,simprocAttr];refine io (48::[6,12,47]) 2 1 1 [.p .nilslice] [.slice 6 0 0 0] (by simp) (by simp) rfl rfl ?_ ?_ ?_ rfl ?_
 .intro n x y h1 h2
  match n,h1,h2 with
  |0,h1,h2=>
   cases h1;cases h2;refine⟨_,_,rfl,rfl,rfl,λj c d h3 h4=>?_⟩
   match j,h3,h4 with
   |0,h3,h4=>cases h3;cases h4;exact .inr ⟨rfl,rfl⟩
   |j+1,h3,h4=>cases h3
  |n+1,h1,h2=>simp at h1
 .simp only[go_sem,simprocAttr]
 .simp only[go_sem,simprocAttr]
 simp only[go_sem,simprocAttr]
 refine aS [6,12,47] (σ:=Nat×List Nat) (λq=>q.1<=b.length+1/\q.2.length<=100/\fh b.length sp compl=((List.range (b.length+1)).drop q.1).findSome? λmany=>ci b.length sp compl many 0 []) (λq=>b.length+1-q.1)
  (λq=>[(48,.p (.int .i64 (q.1:Int)))]) (λq=>iH b f .nilslice sp q.2 0) (0,[]) ⟨bE _,bE _,rfl⟩ ?_ ?_
 .simp only[bI,cD,go_sem,simprocAttr];exact⟨rfl,bg [] 7⟩
 rintro⟨k,R⟩ ⟨hk1,hR,hF⟩
 dsimp only at hk1 hR hF;dsimp only;rcases aw k (b.length+1) with hkn|hkn
 .have hd:decide ((k:Int)<((b.length+1:Nat):Int))=true:=decide_eq_true (by omega);have wk:IntKind.i64.wrap ((k:Int)+1)=((k+1:Nat):Int):=az (by omega) (by simp[ai];omega) (by omega);have oJ:(List.range (b.length+1)).drop k=k::(List.range (b.length+1)).drop (k+1):=by
   rw[rN (by simpa using hkn),List.getElem_range]
  rw[oJ,List.findSome?_cons]at hF;have ht:=H' b f .nilslice sp compl hl8.2 hv (by omega) (λc hcc=>by have:=hc c hcc;omega) k 0 [] R (by omega) (by simp;omega) hR (by simp) rfl;simp only[dK,af,hd,go_sem,simprocAttr];refine nh ht (λr h' hr=>?_) (λr h' hr=>?_);rotate_left
  .unfold ra at hr;cases hT2:ci b.length sp compl k 0 []<;>rw[hT2]at hr<;>cases hr.1
  cases hT2:ci b.length sp compl k 0 [] with
  |some l=>
   rw[hT2]at hr hF;obtain⟨hr1,R2,rfl,hR2,hR2l⟩:=hr;cases hr1;have hRm:List.take l.length (R2.map bQ)=l.map bQ:=by rw[<-qh,hR2]
   rw[hF]
   simp only[dK,af,lB,u4,hRm,ke,go_sem,simprocAttr]
  |none=>
   rw[hT2]at hr hF;obtain⟨hr1,R2,rfl,hR2,hR2l⟩:=hr;cases hr1;simp only[dK,af,go_sem,simprocAttr];refine ak (k+1,R2) ⟨by dsimp only;omega,hR2l,hF⟩ (by dsimp only;omega) ?_;simp only[wk,go_sem,simprocAttr];exact bg R2 7
 .have hd:decide ((k:Int)<((b.length+1:Nat):Int))=false:=decide_eq_false (by omega);rw[pf (by simpa using hkn)]at hF;rw[hF];simp only[dK,af,hd,ke,go_sem,simprocAttr];rfl
theorem Nl(b:List TrBatch)(f:Bool)(cv cw:List PV)(gv gw:Bool)(compl good:List Nat)(h:(bM b).2.2=0)(hT:cZ b)(hv:ISl (.slice 1 cv gv) (ck compl))(hw:ISl .nilslice (ck good))(h1:1<=compl.length+good.length)(hn:compl.length+good.length<=1000)(hc:∀c,c∈compl->c<b.length)(hg:∀c,c∈good->c<b.length) :
  eS Tryz.prog 15 [.slice 5 (b.map TrBatch.pv) f,(.slice 1 cv gv),.nilslice] (ke (fh b.length (fD b good) compl)):=by
 have hk:=gW h;have hl8:=hk.len;have hcat:=th (.slice 1 cv gv) .nilslice (ck compl) (ck good) true hv hw (by rw[cJ,cJ];exact h1) (by rw[cJ,cJ];omega);have hout:((ck compl++ck good).any λn=>!an n 0 (b.length-1))=false:=by
  rw[List.any_eq_false];intro n hnn;have:∃m:Nat,m<b.length/\n=(m:Int):=by
   rcases gu.1 hnn with h|h
   .obtain⟨m,hm,rfl⟩:=eK.1 h;exact⟨m,hc m hm,rfl⟩
   .obtain⟨m,hm,rfl⟩:=eK.1 h;exact⟨m,hg m hm,rfl⟩
  obtain⟨m,hm,rfl⟩:=this;simp[an];omega
 have hent:=n7 b f false (ck compl++ck good) h hT (by rw[ay,cJ,cJ];omega);rw[hout]at hent;have hsg:=λ(m:Nat->Bool)=>sR (fv:=.func (.func 65) [] [.ptr 8 [.agg (cB 8 m)] 0 0]) .nilslice good m hw (by omega) λi n hn=>⟨_,_,_,rfl,xg i n m (by have:=hg n hn;omega)⟩
 refine di (ku (by kernel_rfl) rfl HM) rfl ?_;simp only[dK,af,go_sem,simprocAttr];refine ao hcat.pure rfl ?_;simp only[dK,af,go_sem,simprocAttr];refine ao hent rfl ?_;simp only[dK,af,bI,cD,go_sem,simprocAttr]
 refine bt [2,3,4,6,8,9,27] b (by omega) (τ:=Unit) (λ_ _ _=>True) (λdone _=>[(28,.p (.int .i64 done.length))])
  (λdone _=>[.row 1 [.p (.slice 5 (b.map TrBatch.pv) f)],.row 1 [.p (.slice 1 cv gv)],.row 1 [.p .nilslice],.row 82 [.p (bI b f)],.row 64 [.p (.agg (hH (cn b good done.length)))]]) () trivial ?_ ?_ ?_
 .have z:hH (cn b good 0)=hH (λ_ _=>false):=by
   have:cn b good 0=λ_ _=>false:=by funext j;exact if_neg (Nat.not_lt_zero j)
   rw[this]
  simp only[z,go_sem,simprocAttr];rfl
 rotate_left
 .intro done x r _ e1 _ hx hlt hnx;have d8:done.length<8:=by omega
  have d8i:(done.length:Int)<8:=by omega
  have d56:done.length*8+8<=64:=by omega
  have hm:=vQ b f done.length hk d8 hT;have hy:=Bj b f done.length hk d8 hT;rw[bI,cD]at hm hy;obtain⟨m,hme⟩:∃m,m=pq b.length (tk b) (ba b) (losts b) (supp b) done.length:=⟨_,rfl⟩
  rw[<-hme]at hm;have hss:=pk b good done.length;have hsp:fD b good done.length=if good.any m then λ_=>false else mayGo b.length (tk b) done.length (losts b) (supp b) [] λ_=>false:=by unfold fD uh;rw[hme]
  simp only[dK,af,hlt,hx,bI,cD,go_sem,simprocAttr];refine aa hm rfl ?_;simp only[dK,af,go_sem,simprocAttr];refine dX (hsg m) ?_ (.bool _) ?_
  .simp only[go_sem,simprocAttr]
  simp only[dK,af,go_sem,simprocAttr];cases ha:good.any m
  .rw[ha,if_neg (by decide)]at hsp;simp only[dK,af,go_sem,simprocAttr];refine aa hy rfl ?_;have hset:=zT (cn b good done.length) d8 (fD b good done.length);rw[hss]at hset;rw[<-hsp];simp only[dK,af,d8i,d56,iO,hset,go_sem,simprocAttr];refine aq e1 () trivial ?_;simp only[hnx,ay,aC,bI,cD,go_sem,simprocAttr]
  .rw[ha,if_pos rfl]at hsp;have hz:cn b good done.length=cn b good (done.length+1):=by
    rw[<-hss];funext j;by_cases hj:j=done.length
    .rw[if_pos hj,hsp];unfold cn;rw[if_neg (by omega)]
    .rw[if_neg hj]
   simp only[dK,af,go_sem,simprocAttr];refine aq e1 () trivial ?_;simp only[hnx,ay,aC,bI,cD,<-hz,go_sem,simprocAttr]
 intro _ _;simp only[dK,af,bI,cD,go_sem,simprocAttr];have hfe:=sI b good compl;rw[<-hfe];obtain⟨sp,hsp⟩:∃sp,sp=cn b good b.length:=⟨_,rfl⟩
 rw[<-hsp];have wn:IntKind.i64.wrap ((b.length:Int)+1)=((b.length+1:Nat):Int):=az (by omega) (by simp[ai];omega) (by omega);simp only[wn,go_sem,simprocAttr];refine io (48::[6,12,47]) 2 1 1 [.p .nilslice] [.slice 6 0 0 0] (by simp) (by simp) rfl rfl ?_ ?_ ?_ rfl ?_
 .intro n x y h1 h2
  match n,h1,h2 with
  |0,h1,h2=>
   cases h1;cases h2;refine⟨_,_,rfl,rfl,rfl,λj c d h3 h4=>?_⟩
   match j,h3,h4 with
   |0,h3,h4=>cases h3;cases h4;exact .inr ⟨rfl,rfl⟩
   |j+1,h3,h4=>cases h3
  |n+1,h1,h2=>simp at h1
 .simp only[go_sem,simprocAttr]
 .simp only[go_sem,simprocAttr]
 simp only[go_sem,simprocAttr]
 refine aS [6,12,47] (σ:=Nat×List Nat) (λq=>q.1<=b.length+1/\q.2.length<=100/\fh b.length sp compl=((List.range (b.length+1)).drop q.1).findSome? λmany=>ci b.length sp compl many 0 []) (λq=>b.length+1-q.1)
  (λq=>[(48,.p (.int .i64 (q.1:Int)))]) (λq=>iH b f (.slice 1 cv gv) sp q.2 0) (0,[]) ⟨bE _,bE _,rfl⟩ ?_ ?_
 .simp only[bI,cD,go_sem,simprocAttr];exact⟨rfl,bg [] 7⟩
 rintro⟨k,R⟩ ⟨hk1,hR,hF⟩
 dsimp only at hk1 hR hF;dsimp only;rcases aw k (b.length+1) with hkn|hkn
 .have hd:decide ((k:Int)<((b.length+1:Nat):Int))=true:=decide_eq_true (by omega);have wk:IntKind.i64.wrap ((k:Int)+1)=((k+1:Nat):Int):=az (by omega) (by simp[ai];omega) (by omega);have oJ:(List.range (b.length+1)).drop k=k::(List.range (b.length+1)).drop (k+1):=by
   rw[rN (by simpa using hkn),List.getElem_range]
  rw[oJ,List.findSome?_cons]at hF;have ht:=H' b f (.slice 1 cv gv) sp compl hl8.2 hv (by omega) (λc hcc=>by have:=hc c hcc;omega) k 0 [] R (by omega) (by simp;omega) hR (by simp) rfl;simp only[dK,af,hd,go_sem,simprocAttr];refine nh ht (λr h' hr=>?_) (λr h' hr=>?_);rotate_left
  .unfold ra at hr;cases hT2:ci b.length sp compl k 0 []<;>rw[hT2]at hr<;>cases hr.1
  cases hT2:ci b.length sp compl k 0 [] with
  |some l=>
   rw[hT2]at hr hF;obtain⟨hr1,R2,rfl,hR2,hR2l⟩:=hr;cases hr1;have hRm:List.take l.length (R2.map bQ)=l.map bQ:=by rw[<-qh,hR2]
   rw[hF]
   simp only[dK,af,lB,u4,hRm,ke,go_sem,simprocAttr]
  |none=>
   rw[hT2]at hr hF;obtain⟨hr1,R2,rfl,hR2,hR2l⟩:=hr;cases hr1;simp only[dK,af,go_sem,simprocAttr];refine ak (k+1,R2) ⟨by dsimp only;omega,hR2l,hF⟩ (by dsimp only;omega) ?_;simp only[wk,go_sem,simprocAttr];exact bg R2 7
 .have hd:decide ((k:Int)<((b.length+1:Nat):Int))=false:=decide_eq_false (by omega);rw[pf (by simpa using hkn)]at hF;rw[hF];simp only[dK,af,hd,ke,go_sem,simprocAttr];rfl
theorem Nk(b:List TrBatch)(f:Bool)(cv cw:List PV)(gv gw:Bool)(compl good:List Nat)(h:(bM b).2.2=0)(hT:cZ b)(hv:ISl (.slice 1 cv gv) (ck compl))(hw:ISl (.slice 1 cw gw) (ck good))(h1:1<=compl.length+good.length)(hn:compl.length+good.length<=1000)(hc:∀c,c∈compl->c<b.length)(hg:∀c,c∈good->c<b.length) :
  eS Tryz.prog 15 [.slice 5 (b.map TrBatch.pv) f,(.slice 1 cv gv),(.slice 1 cw gw)] (ke (fh b.length (fD b good) compl)):=by
 have hk:=gW h;have hl8:=hk.len;have hcat:=th (.slice 1 cv gv) (.slice 1 cw gw) (ck compl) (ck good) true hv hw (by rw[cJ,cJ];exact h1) (by rw[cJ,cJ];omega);have hout:((ck compl++ck good).any λn=>!an n 0 (b.length-1))=false:=by
  rw[List.any_eq_false];intro n hnn;have:∃m:Nat,m<b.length/\n=(m:Int):=by
   rcases gu.1 hnn with h|h
   .obtain⟨m,hm,rfl⟩:=eK.1 h;exact⟨m,hc m hm,rfl⟩
   .obtain⟨m,hm,rfl⟩:=eK.1 h;exact⟨m,hg m hm,rfl⟩
  obtain⟨m,hm,rfl⟩:=this;simp[an];omega
 have hent:=n7 b f false (ck compl++ck good) h hT (by rw[ay,cJ,cJ];omega);rw[hout]at hent;have hsg:=λ(m:Nat->Bool)=>sR (fv:=.func (.func 65) [] [.ptr 8 [.agg (cB 8 m)] 0 0]) (.slice 1 cw gw) good m hw (by omega) λi n hn=>⟨_,_,_,rfl,xg i n m (by have:=hg n hn;omega)⟩
 refine di (ku (by kernel_rfl) rfl HM) rfl ?_;simp only[dK,af,go_sem,simprocAttr];refine ao hcat.pure rfl ?_;simp only[dK,af,go_sem,simprocAttr];refine ao hent rfl ?_;simp only[dK,af,bI,cD,go_sem,simprocAttr]
 refine bt [2,3,4,6,8,9,27] b (by omega) (τ:=Unit) (λ_ _ _=>True) (λdone _=>[(28,.p (.int .i64 done.length))])
  (λdone _=>[.row 1 [.p (.slice 5 (b.map TrBatch.pv) f)],.row 1 [.p (.slice 1 cv gv)],.row 1 [.p .nilslice],.row 82 [.p (bI b f)],.row 64 [.p (.agg (hH (cn b good done.length)))]]) () trivial ?_ ?_ ?_
 .have z:hH (cn b good 0)=hH (λ_ _=>false):=by
   have:cn b good 0=λ_ _=>false:=by funext j;exact if_neg (Nat.not_lt_zero j)
   rw[this]
  simp only[z,go_sem,simprocAttr];rfl
 rotate_left
 .intro done x r _ e1 _ hx hlt hnx;have d8:done.length<8:=by omega
  have d8i:(done.length:Int)<8:=by omega
  have d56:done.length*8+8<=64:=by omega
  have hm:=vQ b f done.length hk d8 hT;have hy:=Bj b f done.length hk d8 hT;rw[bI,cD]at hm hy;obtain⟨m,hme⟩:∃m,m=pq b.length (tk b) (ba b) (losts b) (supp b) done.length:=⟨_,rfl⟩
  rw[<-hme]at hm;have hss:=pk b good done.length;have hsp:fD b good done.length=if good.any m then λ_=>false else mayGo b.length (tk b) done.length (losts b) (supp b) [] λ_=>false:=by unfold fD uh;rw[hme]
  simp only[dK,af,hlt,hx,bI,cD,go_sem,simprocAttr];refine aa hm rfl ?_;simp only[dK,af,go_sem,simprocAttr];refine dX (hsg m) ?_ (.bool _) ?_
  .simp only[go_sem,simprocAttr]
  simp only[dK,af,go_sem,simprocAttr];cases ha:good.any m
  .rw[ha,if_neg (by decide)]at hsp;simp only[dK,af,go_sem,simprocAttr];refine aa hy rfl ?_;have hset:=zT (cn b good done.length) d8 (fD b good done.length);rw[hss]at hset;rw[<-hsp];simp only[dK,af,d8i,d56,iO,hset,go_sem,simprocAttr];refine aq e1 () trivial ?_;simp only[hnx,ay,aC,bI,cD,go_sem,simprocAttr]
  .rw[ha,if_pos rfl]at hsp;have hz:cn b good done.length=cn b good (done.length+1):=by
    rw[<-hss];funext j;by_cases hj:j=done.length
    .rw[if_pos hj,hsp];unfold cn;rw[if_neg (by omega)]
    .rw[if_neg hj]
   simp only[dK,af,go_sem,simprocAttr];refine aq e1 () trivial ?_;simp only[hnx,ay,aC,bI,cD,<-hz,go_sem,simprocAttr]
 intro _ _;simp only[dK,af,bI,cD,go_sem,simprocAttr];have hfe:=sI b good compl;rw[<-hfe];obtain⟨sp,hsp⟩:∃sp,sp=cn b good b.length:=⟨_,rfl⟩
 rw[<-hsp];have wn:IntKind.i64.wrap ((b.length:Int)+1)=((b.length+1:Nat):Int):=az (by omega) (by simp[ai];omega) (by omega);simp only[wn,go_sem,simprocAttr];refine io (48::[6,12,47]) 2 1 1 [.p .nilslice] [.slice 6 0 0 0] (by simp) (by simp) rfl rfl ?_ ?_ ?_ rfl ?_
 .intro n x y h1 h2
  match n,h1,h2 with
  |0,h1,h2=>
   cases h1;cases h2;refine⟨_,_,rfl,rfl,rfl,λj c d h3 h4=>?_⟩
   match j,h3,h4 with
   |0,h3,h4=>cases h3;cases h4;exact .inr ⟨rfl,rfl⟩
   |j+1,h3,h4=>cases h3
  |n+1,h1,h2=>simp at h1
 .simp only[go_sem,simprocAttr]
 .simp only[go_sem,simprocAttr]
 simp only[go_sem,simprocAttr]
 refine aS [6,12,47] (σ:=Nat×List Nat) (λq=>q.1<=b.length+1/\q.2.length<=100/\fh b.length sp compl=((List.range (b.length+1)).drop q.1).findSome? λmany=>ci b.length sp compl many 0 []) (λq=>b.length+1-q.1)
  (λq=>[(48,.p (.int .i64 (q.1:Int)))]) (λq=>iH b f (.slice 1 cv gv) sp q.2 0) (0,[]) ⟨bE _,bE _,rfl⟩ ?_ ?_
 .simp only[bI,cD,go_sem,simprocAttr];exact⟨rfl,bg [] 7⟩
 rintro⟨k,R⟩ ⟨hk1,hR,hF⟩
 dsimp only at hk1 hR hF;dsimp only;rcases aw k (b.length+1) with hkn|hkn
 .have hd:decide ((k:Int)<((b.length+1:Nat):Int))=true:=decide_eq_true (by omega);have wk:IntKind.i64.wrap ((k:Int)+1)=((k+1:Nat):Int):=az (by omega) (by simp[ai];omega) (by omega);have oJ:(List.range (b.length+1)).drop k=k::(List.range (b.length+1)).drop (k+1):=by
   rw[rN (by simpa using hkn),List.getElem_range]
  rw[oJ,List.findSome?_cons]at hF;have ht:=H' b f (.slice 1 cv gv) sp compl hl8.2 hv (by omega) (λc hcc=>by have:=hc c hcc;omega) k 0 [] R (by omega) (by simp;omega) hR (by simp) rfl;simp only[dK,af,hd,go_sem,simprocAttr];refine nh ht (λr h' hr=>?_) (λr h' hr=>?_);rotate_left
  .unfold ra at hr;cases hT2:ci b.length sp compl k 0 []<;>rw[hT2]at hr<;>cases hr.1
  cases hT2:ci b.length sp compl k 0 [] with
  |some l=>
   rw[hT2]at hr hF;obtain⟨hr1,R2,rfl,hR2,hR2l⟩:=hr;cases hr1;have hRm:List.take l.length (R2.map bQ)=l.map bQ:=by rw[<-qh,hR2]
   rw[hF]
   simp only[dK,af,lB,u4,hRm,ke,go_sem,simprocAttr]
  |none=>
   rw[hT2]at hr hF;obtain⟨hr1,R2,rfl,hR2,hR2l⟩:=hr;cases hr1;simp only[dK,af,go_sem,simprocAttr];refine ak (k+1,R2) ⟨by dsimp only;omega,hR2l,hF⟩ (by dsimp only;omega) ?_;simp only[wk,go_sem,simprocAttr];exact bg R2 7
 .have hd:decide ((k:Int)<((b.length+1:Nat):Int))=false:=decide_eq_false (by omega);rw[pf (by simpa using hkn)]at hF;rw[hF];simp only[dK,af,hd,ke,go_sem,simprocAttr];rfl
theorem Dc{l:List Nat}(h:ISl .nilslice (ck l)):l=[]:=by
 generalize hL:ck l=L at h;cases h
 cases l with
 |nil=>rfl
 |cons x l=>cases hL
theorem C7(b:List TrBatch)(f:Bool)(v w:PV)(compl good:List Nat)(h:(bM b).2.2=0)(hT:cZ b)(hv:ISl v (ck compl))(hw:ISl w (ck good))(h1:1<=compl.length+good.length)(hn:compl.length+good.length<=1000)(hc:∀c,c∈compl->c<b.length)(hg:∀c,c∈good->c<b.length) :
  eS Tryz.prog 15 [.slice 5 (b.map TrBatch.pv) f,v,w] (ke (fh b.length (fD b good) compl)):=by
 rcases AL hv with rfl|⟨cv,gv,rfl⟩
 .rcases AL hw with rfl|⟨cw,gw,rfl⟩
  .rw[Dc hv,Dc hw]at h1;simp at h1
  .exact Nm b f [] cw false gw compl good h hT hv hw h1 hn hc hg
 .rcases AL hw with rfl|⟨cw,gw,rfl⟩
  .exact Nl b f cv [] gv false compl good h hT hv hw h1 hn hc hg
  .exact Nk b f cv cw gv gw compl good h hT hv hw h1 hn hc hg
theorem KD(b:List TrBatch)(f:Bool)(v w:PV)(compl good:List Nat)(h:(bM b).2.2=0)(hT:cZ b)(hv:ISl v (ck compl))(hw:ISl w (ck good))(h1:1<=compl.length+good.length)(hn:compl.length+good.length<=1000)(hc:∀c,c∈compl->c<b.length)(hg:∀c,c∈good->c<b.length) :
  PCall Tryz.prog 15 [.slice 5 (b.map TrBatch.pv) f,v,w] (ke (fh b.length (fD b good) compl)):=(C7 b f v w compl good h hT hv hw h1 hn hc hg).pure
end Tr
end Abs
end Go.Proofs.YtmndpldajflenaaGreatDoor
