/- CONTRACTS of the program's functions, and laws on what they return. No conditions but those in the theorems' heads. -/
import Derived.Test.YtoapoaoelpcniaaGreatDoorChDoneX
import Derived.Lib.MakeNoZero
import Derived.Laws.IdiomCopy
set_option linter.all false
open Go.Proofs.Tryz renaming prog->TP
namespace Go.Proofs.YtoapoaoelpcniaaGreatDoor
namespace Abs
namespace Ch
set_option maxRecDepth 4000
theorem QM(s)(ls):af TP 8 [s.pv,bp ls] (if aY s ls=0 then .tuple [bp (bM s ls).2.1,.int .i64 0] else .tuple [.nilslice,.int .i64 (aY s ls)]):=by
 refine aa (ah Tryz.func8 rfl (by kernel_rfl)) rfl ?_;simp only[go_sem,simprocAttr];refine ae (LV s ls) rfl ?_;by_cases he:aY s ls=0
 .simp only[lI,he,bp,go_sem,simprocAttr]
 .simp only[lI,if_neg he,bp,go_sem,simprocAttr]
theorem Wh(s)(ls):af TP 7 [s.pv,bp ls] (if aY s ls=0 then .tuple [(bM s ls).1.pv,.int .i64 0] else .tuple [.agg [.nilslice,.nilslice,.nilslice,.nilslice,.int .i64 0,.int .i64 0],.int .i64 (aY s ls)]):=by
 refine aa (ah Tryz.func7 rfl (by kernel_rfl)) rfl ?_;simp only[go_sem,simprocAttr];refine ae (LV s ls) rfl ?_;by_cases he:aY s ls=0
 .simp only[lI,he,bp,go_sem,simprocAttr]
 .have hn:(aY s ls != 0)=true:=by simpa using he
  simp only[lI,if_neg he,hn,bp,go_sem,simprocAttr]
end Ch
open Go.RowKit
set_option maxRecDepth 100000
theorem ER{w:World}{b i}{v}{o}(h:b<w.heap.size):((w.setCell ⟨b,i,none⟩ v).alloc o).heap=((w.alloc o).setCell ⟨b,i,none⟩ v).heap:=by
 apply KH;intro k;simp only[World.alloc,World.setCell,uT,Pb,Array.size_modify];by_cases hk:k=w.heap.size
 .subst hk;rw[if_pos rfl,if_neg (by omega),if_pos rfl]
 .rw[if_neg hk,if_neg hk]
def O5 (b n:Nat) (w w':World):Prop:=∃cs:Array Value,n<=cs.size/\w'.os=w.os/\w'.tape=w.tape/\w'.output=w.output /\
 w'.heap=((w.alloc (.cells cs 5)).setCell ⟨b,1,none⟩ (.slice (some ⟨w.heap.size,0,none⟩) 0 cs.size)).heap
set_option maxHeartbeats 2000000 in
theorem Q7(b n:Nat)(w)(hbk:w.heap[b]?=some (.cells #[.pointer (some ⟨b,0,none⟩),.slice none 0 0] 170 (0,0)))(hn:n<=281474976710656) :
  Calls TP 226 #[.pointer (some ⟨b,0,none⟩),.int .i64 n] w λe w'=>e=.returned (.tuple #[])/\O5 b n w w':=by
 obtain⟨cs,hrun,hle,hmax⟩:=Lib.run_makeNoZero (P:=TP) w.drew #[3] 141 5 Tryz.underlying141 n hn;have hw:IntKind.i64.wrap (n:Int)=n:=by
  rw[IntKind.wrap_i64];omega
 have hcall:(callFunc 292 #[.int .i64 (IntKind.i64.wrap (n:Int))]).run TP w.drew=.ok (.value (.slice (some ⟨w.drew.heap.size,0,none⟩) n cs.size)) (w.drew.drew.drew.alloc (.cells cs 5)):=by
  rw[hw,run_callFunc_extern Tryz.func292 (by kernel_rfl) (by kernel_rfl) (by kernel_rfl) (e:=Extern.BytealgMakeNoZero.makeNoZero #[3] #[141]) (by kernel_rfl),hrun];rfl
 have hlt:b<w.heap.size:=by
  rcases dF b w.heap.size with h'|h'
  .exact h'
  .simp[rh h']at hbk
 have c1:w.drew.cell? ⟨b,1,none⟩=some (.slice none 0 0):=by
  have:w.drew.heap[b]?=_:=hbk;rw[gG this];rfl
 have c2:(w.alloc (.cells cs 5)).cell? ⟨b,1,none⟩=some (.slice none 0 0):=by
  have:(w.alloc (.cells cs 5)).heap[b]?=_:=(gc w _ b hlt).trans hbk;rw[gG this];rfl
 have f2:(w.alloc (.cells cs 5)).frozen? ⟨b,1,none⟩=false:=by
  have:(w.alloc (.cells cs 5)).heap[b]?=_:=(gc w _ b hlt).trans hbk;simp[World.frozen?,this]
 have hcopy:∀W:World,(Builtin.copy_ #[141,141] 3 #[.slice (some ⟨w.heap.size,0,none⟩) 0 cs.size,.slice none 0 0]).run TP W=.ok (goInt 0) W:=
  λW=>run_copy_none W 141 141 3 5 _ _ 0 cs.size 0 0 Tryz.underlying141 (by kernel_rfl) rfl
 have hcomm:=ER (w:=w) (b:=b) (i:=1) (v:=.slice (some ⟨w.heap.size,0,none⟩) 0 cs.size) (o:=.cells cs 5) hlt;clear hw
 go_enter Tryz.func226,Tryz.ntmps226
 go_wp2
 go_region
 all_goals (go_wp2;go_end0;exact⟨rfl,cs,hle,rfl,rfl,rfl,hcomm⟩)
theorem FX{w:World}{b}{cs}{T}{fr}{v}{i}(hb:w.heap[b]?=some (.cells cs T fr))(hc:cs[i]?=some v):w.setCell ⟨b,i,none⟩ v=w:=by
 have h:(w.setCell ⟨b,i,none⟩ v).heap=w.heap:=by
  apply KH;intro k;simp only[World.setCell,uT];split
  .rename_i hk;subst hk;have hcs:cs.setIfInBounds i v=cs:=by
    apply KH;intro k;rw[UM];split
    .rename_i hk;subst hk;rw[hc];split
     .rfl
     .rename_i hn;exact absurd (r6.1 hc).1 hn
    .rfl
   rw[hb];simp[hcs]
  .rfl
 cases w;simp only[World.setCell]at h |-;rw[h]
set_option maxHeartbeats 2000000 in
theorem T9(b n:Nat)(w)(p)(hbk:w.heap[b]?=some (.cells #[p,.slice none 0 0] 170 (0,0)))(hp:p=.pointer none\/p=.pointer (some ⟨b,0,none⟩))(h0:1<=n)(hn:n<=281474976710656) :
  Calls TP 161 #[.pointer (some ⟨b,0,none⟩),.int .i64 n] w λe w'=>e=.returned (.tuple #[])/\O5 b n (w.setCell ⟨b,0,none⟩ (.pointer (some ⟨b,0,none⟩))) w':=by
 have hbk1:(w.setCell ⟨b,0,none⟩ (.pointer (some ⟨b,0,none⟩))).heap[b]?=some (.cells #[.pointer (some ⟨b,0,none⟩),.slice none 0 0] 170 (0,0)):=by
  simp[World.setCell,uT,hbk]
 have c1:(w.setCell ⟨b,0,none⟩ (.pointer (some ⟨b,0,none⟩))).cell? ⟨b,1,none⟩=some (.slice none 0 0):=by rw[gG hbk1];rfl
 have hck:Calls TP 111 #[.pointer (some ⟨b,0,none⟩)] w λe w'=>e=.returned (.tuple #[])/\w'=w.setCell ⟨b,0,none⟩ (.pointer (some ⟨b,0,none⟩)):=by
  rcases hp with rfl|rfl
  .exact uE b w (by rw[gG hbk];rfl) (by simp[World.shape?,hbk]) (by simp[World.frozen?,hbk])
  .refine(wA b w (by rw[gG hbk];rfl)).mono ?_
   rintro e w' ⟨rfl,rfl⟩
   refine⟨rfl,?_⟩;exact(FX hbk rfl).symm
 have c1':(w.setCell ⟨b,0,none⟩ (.pointer (some ⟨b,0,none⟩))).drew.cell? ⟨b,1,none⟩=some (.slice none 0 0):=c1
 go_enter Tryz.func161,Tryz.ntmps161
 go_wp2_with (go_at_call 111;refine hck.mono ?_;rintro e w' ⟨rfl,rfl⟩)
 go_region
 all_goals go_wp2_with (go_at_call 226;refine(Q7 b n (w.setCell ⟨b,0,none⟩ (.pointer (some ⟨b,0,none⟩))).drew hbk1 hn).mono ?_;rintro e w' ⟨rfl,h1⟩)
 all_goals (go_end0;exact⟨rfl,h1⟩)
theorem Qm{h}{i n:Nat}(hi:h[i]?=some (.bld 170 5 (.p .nilslice)))(h0:1<=n)(hn:n<=281474976710656) :
  aD TP 161 [.ref .bl i,.p (.int .i64 n)] h (λr h'=>r=.ret (.p (.tuple []))/\h'=(h++[AObj.row 1 []]).set i (.bld 170 5 (.slice h.length 0 0 0))):=by
 intro M0 m w cargs hS ha;have hnn:=ha.1;have ha0:=ha.2 0 _ rfl;have ha1:=ha.2 1 _ rfl
 obtain⟨c0,c1,rfl⟩:∃c0 c1,cargs=#[c0,c1]:=⟨cargs.getD 0 undef,cargs.getD 1 undef,by
  apply nw
  .simpa using hnn
  .intro i h1 h2;have:i=0\/i=1:=by simp at h2;omega
   rcases this with rfl|rfl<;>simp[h1]⟩
 have ha1':RepP (Avoid M0 m) w c1 (.int .i64 n):=ha1;cases ha1';obtain⟨b,p,v,hm,hb,hp,hxf,hr,hsh⟩:=hS.obj i _ hi;have hm':m.getD i none=some b:=hm;obtain rfl:c0=.pointer (some ⟨b,0,none⟩):=by
  rcases ha0.2 with hd|⟨_,b',hb',hv⟩
  .have hd':h[i]?=some .dead:=hd;rw[hi]at hd';cases hd'
  .have hb2:m.getD i none=some b':=hb';rw[hm']at hb2;cases hb2;exact hv
 have hv:RepP (Avoid M0 m) w v .nilslice:=hr;cases hv;have hb0:w.heap[b]?=some (.cells #[p,.slice none 0 0] 170 (0,0)):=hb;refine⟨λw'=>Go.Proofs.enters_of Tryz.func161 (by kernel_rfl) rfl _ w',?_⟩;refine(T9 b n w p hb0 hp h0 hn).mono ?_
 rintro e w' ⟨rfl,cs,hle,hos,htp,hout,hheap⟩
 have hb1:(w.setCell ⟨b,0,none⟩ (.pointer (some ⟨b,0,none⟩))).heap[b]?=some (.cells #[.pointer (some ⟨b,0,none⟩),.slice none 0 0] 170 (0,0)):=by
  simp[World.setCell,uT,hb0]
 obtain⟨k1,e1⟩:=BQ (S:=⟨m,h,w⟩) hS hi hm' hb0 (np _ _ _ _) hb1 (.inr rfl) (.inl rfl) (show cS M0 ⟨m,h,w⟩ (.slice none 0 0) (.p .nilslice) from .nilslice) (λa n c hv=>by cases hv);rw[show (Mem.mk m h w).h.set i (.bld 170 5 (.p .nilslice))=h from pu hi]at k1 e1;have hln:m.length=h.length:=hS.len;have k2:=HOk.new k1 (o:=.row 1 []) (ob:=.cells cs 5) (.inr ⟨_,5,cs,rfl,bK _ _,by simp,λi x hx=>by simp at hx⟩);have e2:=Ev.new h.length M0 k1 (bB _) (.row 1 []) (.cells cs 5);have hil:=(aF.1 hi).1;have hi2:(h++[AObj.row 1 []])[i]?=some (.bld 170 5 (.p .nilslice)):=by rw[aX hil];exact hi
 have hm2:(m++[some (w.setCell ⟨b,0,none⟩ (.pointer (some ⟨b,0,none⟩))).heap.size]).getD i none=some b:=by
  rw[cd,aX (by omega),<-cd];exact hm'
 have hbl:b<(w.setCell ⟨b,0,none⟩ (.pointer (some ⟨b,0,none⟩))).heap.size:=(r6.1 hb1).1;have hb2:((w.setCell ⟨b,0,none⟩ (.pointer (some ⟨b,0,none⟩))).alloc (.cells cs 5)).heap[b]?=some (.cells #[.pointer (some ⟨b,0,none⟩),.slice none 0 0] 170 (0,0)):=(gc _ _ _ hbl).trans hb1;have hor:OnlyB b ((w.setCell ⟨b,0,none⟩ (.pointer (some ⟨b,0,none⟩))).alloc (.cells cs 5)) w':=by
  have ho:=np ((w.setCell ⟨b,0,none⟩ (.pointer (some ⟨b,0,none⟩))).alloc (.cells cs 5)) b 1 (.slice (some ⟨(w.setCell ⟨b,0,none⟩ (.pointer (some ⟨b,0,none⟩))).heap.size,0,none⟩) 0 cs.size);refine⟨hos.trans rfl,htp.trans rfl,hout.trans rfl,?_,?_⟩
  .rw[hheap];exact ho.size
  .intro k hk;rw[hheap];exact ho.block k hk
 have hshape:((w.setCell ⟨b,0,none⟩ (.pointer (some ⟨b,0,none⟩))).alloc (.cells cs 5)).shape? (w.setCell ⟨b,0,none⟩ (.pointer (some ⟨b,0,none⟩))).heap.size=some (5,cs.size):=by
  unfold World.shape?;rw[bK]
 obtain⟨k3,e3⟩:=BQ (S:=⟨m++[some (w.setCell ⟨b,0,none⟩ (.pointer (some ⟨b,0,none⟩))).heap.size],h++[.row 1 []],(w.setCell ⟨b,0,none⟩ (.pointer (some ⟨b,0,none⟩))).alloc (.cells cs 5)⟩)
  (w':=w') (p':=.pointer (some ⟨b,0,none⟩)) (v':=.slice (some ⟨(w.setCell ⟨b,0,none⟩ (.pointer (some ⟨b,0,none⟩))).heap.size,0,none⟩) 0 cs.size) (x':=.slice h.length 0 0 0) k2 hi2 hm2 hb2 hor
  (by rw[hheap];simp[World.setCell,uT]at hb2 |-;simp[hb2]) (.inr rfl) (.inr ⟨_,_,rfl⟩)
  ⟨⟨_,_,_,rfl⟩,.inr ⟨1,[],by simp,bB _,λ_=>.inr (.inl ⟨(w.setCell ⟨b,0,none⟩ (.pointer (some ⟨b,0,none⟩))).heap.size,cs.size,5,cs.size,by simp[hln.symm],by simp,⟨dY _,bB _⟩,hshape,by simp,dY _⟩)⟩⟩
  (λa n c hv=>by cases hv;exact⟨_,hshape⟩)
 exact⟨.ret (.p (.tuple [])),_,_,⟨rfl,rfl⟩,(e1.trans e2).trans (e3.mono (by simp)),k3,.tuple rfl λi c hi=>by simp at hi⟩
set_option maxRecDepth 4000
def repL (a b:UInt8) (l:List UInt8):List UInt8:=l.map λx=>if x=a then b else x
theorem kG(a b)(l):(repL a b l).length=l.length:=by simp[repL]
theorem zJ(a b)(x y):repL a b (x++y)=repL a b x++repL a b y:=by simp[repL]
theorem yq(a b):∀l,l.count a=0->repL a b l=l
 |[],_=>rfl
 |x::r,h=>by
  rw[List.count_cons]at h;have hx:x≠a:=λe=>by subst e;simp at h
  have:=yq a b r (by omega);unfold repL at this |-;rw[bL,this,if_neg hx]
theorem wd(a):∀l,(aK a l).1.count a=0
 |[]=>rfl
 |x::r=>by
  unfold aK;by_cases hx:x=a
  .rw[if_pos hx];rfl
  .rw[if_neg hx];show (x::(aK a r).1).count a=0;rw[List.count_cons_of_ne hx];exact wd a r
theorem QI(a){l}(h:l.count a≠0):∃p r,l=p++a::r/\p.count a=0/\Lib.indexByte l a=(p.length:Int):=by
 rcases kl a l with⟨h1,h2,h3⟩|⟨r,h1,h2,h3⟩
 .exact absurd (h2▸wd a l) h
 .exact⟨_,r,h3,wd a l,h2⟩
set_option maxHeartbeats 2000000 in
theorem QT(l)(a b)(hab:a≠b)(hl:l.length<=900000):af TP 114 [.str (bs l),.str (bs [a]),.str (bs [b]),.int .i64 (-1)] (.str (bs (repL a b l))):=by
 have e0:(bs [a]==bs [b])=false:=by rw[cc];simpa using hab
 refine aa (ah Tryz.func114 rfl (by kernel_rfl)) rfl ?_;simp only[e0,go_sem,simprocAttr];refine ae (Ow (bs l) a) rfl ?_;rw[gF];by_cases h0:l.count a=0
 .have e1:((Lib.countByte l a:Nat):Int)=0:=by simpa[Lib.countByte]using h0
  simp only[e1,go_sem,simprocAttr];rw[yq a b l h0]
 .have hcl:=List.count_le_length (a:=a) (l:=l);obtain⟨k,hk⟩:∃k,l.count a=k+1:=⟨l.count a-1,by omega⟩
  have e1:((Lib.countByte l a:Nat):Int)=((k+1:Nat):Int):=by rw[Lib.countByte,hk]
  have e2:(((k+1:Nat):Int)==0)=false:=by simp;omega
  simp only[e1,e2,ao,bn,go_sem,simprocAttr];have hl0:1<=l.length:=by omega
  have e3:IntKind.i64.wrap ((l.length:Int)+IntKind.i64.wrap (((k+1:Nat):Int)*0))=((l.length:Nat):Int):=by
   rw[zy,show IntKind.i64.wrap 0=0 from rfl,mb];exact aj (by omega) (by omega)
  rw[e3];refine cJ (Qm (n:=l.length) rfl hl0 (by omega)) ?_;have z1:decide (0<(((bs [a]).size:Nat):Int))=true:=rfl;simp only[z1,go_sem,simprocAttr]
  refine eC [0,1,2,10,52] (σ:=List UInt8×List UInt8) (λq=>l=q.1++q.2) (λq=>q.2.length)
   (λq=>[(11,.p (.int .i64 q.1.length)),(53,.p (.int .i64 ((q.1.count a:Nat):Int)))])
   (λq=>[.bld 170 5 (.slice 1 q.1.length 0 q.1.length),.row 1 (gV (bs (repL a b q.1)))]) ([],l) rfl rfl ?_ ?_
  .simp only[List.count_nil,go_sem,simprocAttr]
  rintro⟨done,rest⟩ e4
  dsimp only at e4;have hcnt:l.count a=done.count a+rest.count a:=by rw[e4,List.count_append]
  have hlen:=congrArg List.length e4;rw[aB]at hlen;have hle:((done.length:Nat):Int)<=((bs l).size:Int):=by rw[ao];omega
  have hex:(bs l).extract done.length (bs l).size=bs rest:=by
   rw[cY,ao,qN]
   congr 1
   rw[e4];simp
  rcases tN (rest.count a) with hz|hp
  .have hlt:¬(((done.count a:Nat):Int)<((k+1:Nat):Int)):=by omega
   simp only[hlt,decide_false,hle,hex,go_sem,simprocAttr];refine cJ (oM (s:=bs rest) (j:=1) rfl rfl (by rw[kM,ao,kG]) (by decide) (by rw[ao];omega)) ?_;have hr:repL a b done++rest=repL a b l:=by rw[e4,zJ,yq a b rest hz]
   have hq:done.length+(bs rest).size=(bs (repL a b l)).size:=by rw[ao,ao,kG];omega
   simp only[lb,dQ,hr,hq,go_sem,simprocAttr];refine cJ (vT (j:=1) (s:=bs (repL a b l)) rfl rfl (by rw[ao,kG];omega) (by rw[ao,kG];omega)) ?_;simp only[go_sem,simprocAttr]
  .obtain⟨p,r,e5,e6,e7⟩:=QI a (l:=rest) (by omega);have hlt:(((done.count a:Nat):Int)<((k+1:Nat):Int)):=by omega
   have hrl:=congrArg List.length e5;simp only[aB,cu]at hrl;simp only[hlt,decide_true,hle,hex,go_sem,simprocAttr];refine ae (Hk (bs rest) a) rfl ?_;rw[gF,e7];have q1:IntKind.i64.wrap ((done.length:Int)+(p.length:Int))=((done.length+p.length:Nat):Int):=bj (by omega) (by simp[aw];omega) (by simp);have q2:((done.length+p.length:Nat):Int)<=((bs l).size:Int):=by rw[ao];omega
   have q3:(((done.length:Nat):Int)<=((done.length+p.length:Nat):Int)):=by omega
   have q4:(bs l).extract done.length (done.length+p.length)=bs p:=by
    rw[cY]
    congr 1
    rw[e4,e5];simp[List.take_append]
   have q5:IntKind.i64.wrap (((done.length+p.length:Nat):Int)+1)=(((done++(p++[a])).length:Nat):Int):=bj (by omega) (by simp[aw];omega) (by simp;omega);have q6:IntKind.i64.wrap (((done.count a:Nat):Int)+1)=(((done++(p++[a])).count a:Nat):Int):=bj (by omega) (by simp[aw];omega) (by simp[e6]);simp only[q1,q2,q3,q4,go_sem,simprocAttr];refine cJ (oM (s:=bs p) (j:=1) rfl rfl (by rw[kM,ao,kG]) (by decide) (by rw[ao];omega)) ?_;simp only[lb,dQ,go_sem,simprocAttr];refine cJ (oM (s:=bs [b]) (j:=1) rfl rfl (by rw[kM,ao,ao,aB,kG]) (by decide) (by rw[ao,ao];simp;omega)) ?_;simp only[lb,dQ,ao,bn,q5,go_sem,simprocAttr];refine bh (done++(p++[a]),r) (by rw[e4,e5];simp) (by show r.length<rest.length;omega) ?_ ?_
   .have h1:repL a b (done++(p++[a]))=repL a b done++p++[b]:=by
     rw[zJ,zJ,yq a b p e6,cF];simp[repL]
    have h2:(done++(p++[a])).length=done.length+p.length+1:=by simp;omega
    show _=[AObj.bld 170 5 (.slice 1 (done++(p++[a])).length 0 (done++(p++[a])).length),AObj.row 1 (gV (bs (repL a b (done++(p++[a])))))]
    rw[h1,h2]
   simp only[q6,go_sem,simprocAttr]
theorem zq(l)(a b)(hab:a≠b)(hl:l.length<=900000):af TP 69 [.str (bs l),.str (bs [a]),.str (bs [b])] (.str (bs (repL a b l))):=by
 refine aa (ah Tryz.func69 rfl (by kernel_rfl)) rfl ?_;simp only[go_sem,simprocAttr];refine ae (QT l a b hab hl) rfl ?_;simp only[go_sem,simprocAttr]
namespace Ch
def rJ (i:Nat) (x:List UInt8):List UInt8:=be ((i+1:Nat):Int)++[32]++repL 10 47 x++[10]
theorem D5{i}{x}(hi:i<=50):(rJ i x).length<=x.length+10:=by
 have:=nU (n:=((i+1:Nat):Int)) (by omega) (by omega);simp only[rJ,aB,kG,bn];omega
def CL (l:List (List UInt8)):PV:=.func (.func 110) [] [.ptr 1 [bp l] 0 0]
theorem T0(l):af TP 64 [bp l] (CL l):=by
 refine dg (ah Tryz.func64 rfl (by kernel_rfl)) rfl ?_;simp only[CL,bp,go_sem,simprocAttr]
set_option maxHeartbeats 1000000 in
theorem Ql(l)(hl:l.length<=40)(hw:∀x,x∈l->x.length<=1000)(id)(h0)(Inv:List (List UInt8)->Heap->Prop)
  (hy:∀done x rest h,l=done++x::rest->Inv done h->ue TP id [.p (.str (bs (rJ done.length x)))] h (λr h'=>r=.ret (.p (.bool true))/\Inv (done++[x]) h')) (hi:Inv [] h0) :
  aD TP 110 [.ref .yl id,.p (.ptr 1 [bp l] 0 0)] h0 (λr h'=>r=.ret (.p (.tuple []))/\Inv l h'):=by
 refine aC (ah Tryz.func110 rfl (by kernel_rfl)) rfl ?_;simp only[bp,go_sem,simprocAttr]
 refine eC [0,5,6] (σ:=List (List UInt8)×List (List UInt8)×Heap) (λq=>l=q.1++q.2.1/\Inv q.1 q.2.2) (λq=>q.2.1.length)
  (λq=>[(7,.p (.int .i64 q.1.length))]) (λq=>q.2.2) ([],l,h0) ⟨rfl,hi⟩ rfl ?_ ?_
 .simp only[go_sem,simprocAttr]
 rintro⟨done,rest,h⟩ ⟨e1,e2⟩
 dsimp only at e1 e2
 cases rest with
 |nil=>
  have hlt:¬((done.length:Int)<(l.length:Int)):=by rw[e1];simp
  simp only[hlt,decide_false,go_sem,simprocAttr];rw[bC]at e1;rw[e1]
  exact e2
 |cons x rest=>
  obtain⟨hx,hlt⟩:=d8 e1;have hlen:=congrArg List.length e1;simp only[aB,cu]at hlen;have hnx:IntKind.i64.wrap ((done.length:Int)+1)=(((done++[x]).length:Nat):Int):=bj (by omega) (by simp[aw];omega) (by simp);have hn1:IntKind.i64.wrap ((done.length:Int)+1)=((done.length+1:Nat):Int):=bj (by omega) (by simp[aw];omega) (by simp);have hxl:=hw x (by rw[e1];simp);have hd:=nU (n:=((done.length+1:Nat):Int)) (by omega) (by omega);have hit:=nG (n:=((done.length+1:Nat):Int)) (by omega);have c1:(⟨#[32]⟩:ByteArray)=bs [32]:=rfl;have c2:(⟨#[10]⟩:ByteArray)=bs [10]:=rfl;have c3:(⟨#[47]⟩:ByteArray)=bs [47]:=rfl;have hyy:=hy done x rest h e1 e2;rw[show rJ done.length x=be ((done.length+1:Nat):Int)++[32]++repL 10 47 x++[10] from rfl]at hyy;generalize be ((done.length+1:Nat):Int)=D at hd hit hyy;have q1:(bs (D)).size+(bs [32]).size<=bG:=by simp[ao,bG];omega
  have q2:(bs (D++[32])).size+(bs (repL 10 47 x)).size<=bG:=by simp[ao,bG,kG];omega
  have q3:(bs (D++[32]++repL 10 47 x)).size+(bs [10]).size<=bG:=by simp[ao,bG,kG];omega
  simp only[hlt,decide_true,hx,hn1,go_sem,simprocAttr];refine ae (yL ((done.length+1:Nat):Int) (by omega) (by omega)) rfl ?_;simp only[hit,c1,q1,dQ,go_sem,simprocAttr];refine ae (zq x 10 47 (by decide) (by omega)) rfl ?_;simp only[c2,q2,q3,dQ,go_sem,simprocAttr];refine qL hyy (λv h' hr=>?_) (λv h' hr=>?_)
  .obtain⟨hr,hI⟩:=hr;cases hr;simp only[go_sem,simprocAttr];refine bh (done++[x],rest,h') ⟨by rw[e1];simp,hI⟩ (j4 _) rfl ?_;simp only[hnx,go_sem,simprocAttr]
  .cases hr.1
def jF (l:List (List UInt8)):List UInt8:=(l.mapIdx rJ).flatten
theorem zn(l)(x):jF (l++[x])=jF l++rJ l.length x:=by
 unfold jF;rw[List.mapIdx_concat];simp
theorem zo:∀(n) (l r),l.length=n->(l++r).length<=40->(∀x,x∈l++r->x.length<=400)->(jF l).length<=410*n
 |0,l,r,h0,_,_=>by
  rw[tK h0]
  exact bB _
 |n+1,l,r,h0,h1,h2=>by
  rcases yg l with rfl|⟨l,x,rfl⟩
  .cases h0
  rw[yj]at h0 h1 h2 |-;have h0':l.length=n:=by simpa using h0
  have h3:=zo n l ([x]++r) h0' (by simpa using h1) (by simpa using h2);have h4:=h2 x (by simp);have h5:=D5 (i:=l.length) (x:=x) (by simp at h1;omega);rw[zn,aB];omega
theorem BG(l r)(h1:(l++r).length<=40)(h2:∀x,x∈l++r->x.length<=400):(jF l).length<=410*l.length:=zo _ l r rfl h1 h2
theorem QK(i)(x):(rJ i x).length≠0:=by simp[rJ]
theorem MV{l}{c}(h:du l=.ok c):l.length<=400:=by
 unfold du at h;split at h
 .cases h
 .omega
theorem KY{s}{q}{l}(hq:∀x,x∈q.2.2->x.length<=400):∀x,x∈(eR s q l).2.2->x.length<=400:=by
 unfold eR;split
 .exact hq
 .rename_i b a w hd;dsimp only;split
  .intro x hx;rcases dr.1 hx with hx|hx
   .exact hq x hx
   .simp only[gh]at hx;subst hx;unfold eX at hd;split at hd
    .cases hd
    .rename_i c hc;exact MV hc
  .exact hq
theorem Bz{s}:∀(d:List (List UInt8)) (q),(∀x,x∈q.2.2->x.length<=400)->∀x,x∈(d.foldl (eR s) q).2.2->x.length<=400
 |[],q,h=>h
 |l::d,q,h=>Bz d (eR s q l) (KY h)
theorem MX(s)(d):∀x,x∈(bM s d).2.2->x.length<=400:=Bz d _ (λx hx=>(by cases hx))
def we (n:Nat):AV:=if n=0 then .p .nilslice else .slice 4 n 0 n
def qI (t:List UInt8):Heap:=if t.length=0 then [] else [.row 1 (gV (bs t))]
def t8 (s:ChShop) (o:AObj) (t:List UInt8):Heap:=[.row 17 [.p s.pv],.bld 170 5 (we t.length),.dblock,o]++qI t
def sJ (s:ChShop) (ls:List (List UInt8)):PV:=if aY s ls=0 then .tuple [.str (bs (jF (bM s ls).2.2)),.int .i64 0] else .tuple [.str (bs []),.int .i64 (aY s ls)]
set_option maxHeartbeats 2000000 in
theorem Wg(s)(ls):af TP 30 [s.pv,bp ls] (sJ s ls):=by
 refine aa (ah Tryz.func30 rfl (by kernel_rfl)) rfl ?_;simp only[go_sem,simprocAttr];refine ae (LV s ls) rfl ?_;by_cases he:aY s ls=0;rotate_left
 .have hn:(aY s ls != 0)=true:=by simpa using he
  simp only[lI,if_neg he,hn,sJ,go_sem,simprocAttr];rfl
 have hlen:(bM s ls).2.2.length<=40:=by
  have h1:=(Jy s ls).2;unfold aY at he;split at he
  .split at he
   .cases he
   .omega
  .exact absurd he (by assumption)
 have hsh:=MX s ls;simp only[lI,he,go_sem,simprocAttr];generalize hw0:(bM s ls).2.2=w at hlen hsh;refine ae (T0 w) rfl ?_;simp only[go_sem,simprocAttr]
 refine HP (f:=110) (args:=[.ref .yl 3,.p (.ptr 1 [bp w] 0 0)])
  (R:=λr h=>r=.ret (.p (.tuple []))/\∃o,h=t8 s o (jF w))
  rfl (by simp only[CL,go_sem,simprocAttr]) bI (by kernel_rfl) (by kernel_rfl) (by kernel_rfl) (λoR oB oD hround=>?_) (λv h hr=>by cases hr.1)
 have hT1:∀t o,(t8 s o t)[3]?=some o:=λt o=>rfl;refine(Ql w hlen (λx hx=>lH (hsh x hx) (by decide)) 3 _ (λdone h=>h=t8 s oR (jF done)) ?_ rfl).mono ?_
 .rintro done x rest h hd rfl
  have hcl:=BG done (x::rest) (by rw[<-hd];exact hlen) (by rw[<-hd];exact hsh);have hdl:done.length<=40:=by rw[hd]at hlen;simp at hlen;omega
  have hx1:=D5 (i:=done.length) (x:=x) (by omega);have hx2:=hsh x (by rw[hd];simp);have hx3:=QK done.length x;refine hround _ _ _ rfl (hT1 _ _) ?_;clear hround;rw[zn];generalize jF done=t at hcl;generalize rJ done.length x=y at hx1 hx3;have hty:(t++y).length≠0:=by rw[aB];omega
  by_cases ht:t.length=0
  .have ht':t=[]:=tK ht;subst ht';simp only[t8,we,qI,cw,go_sem,simprocAttr];refine cJ (ze (s:=bs y) rfl (by rw[ao];omega) (by rw[ao];exact hx3)) ?_;simp only[ao,go_sem,simprocAttr];refine⟨rfl,?_⟩;rw[t8,we,qI,if_neg hx3,if_neg hx3];rfl
  .simp only[t8,we,qI,if_neg ht,go_sem,simprocAttr];refine cJ (oM (s:=bs y) (j:=4) rfl rfl (by rw[kM,ao]) (by decide) (by rw[ao];omega)) ?_;simp only[ao,lb,dQ,go_sem,simprocAttr];refine⟨by rw[t8,qI,if_neg ht];rfl,?_⟩;rw[t8,we,qI,if_neg hty,if_neg hty,aB];rfl
 .rintro r h ⟨rfl,rfl⟩
  refine⟨⟨rfl,oR,rfl⟩,λv hv=>.inl ⟨hT1 _ _,?_⟩⟩;clear hround;have hcl:=BG w [] (by simpa using hlen) (by simpa using hsh);by_cases ht:(jF w).length=0
  .have ht':jF w=[]:=tK ht;rw[ht'];simp only[t8,we,qI,cw,go_sem,simprocAttr];refine cJ (N0 rfl) ?_;simp only[cb,go_sem,simprocAttr];rw[sJ,if_pos he,hw0,ht'];rfl
  .simp only[t8,we,qI,if_neg ht,go_sem,simprocAttr];refine cJ (vT (j:=4) (s:=bs (jF w)) (by rw[ao];rfl) rfl (by rw[ao];exact ht) (by rw[ao];omega)) ?_;simp only[cb,go_sem,simprocAttr];rw[sJ,if_pos he,hw0]
end Ch
end Abs
end Go.Proofs.YtoapoaoelpcniaaGreatDoor
