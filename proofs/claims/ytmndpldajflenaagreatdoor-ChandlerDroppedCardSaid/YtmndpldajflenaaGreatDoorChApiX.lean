/- CONTRACTS of the program's functions, and laws on what they return. No conditions but those in the theorems' heads. -/
import Derived.Test.YtmndpldajflenaaGreatDoorChDoneX
import Derived.Lib.MakeNoZero
import Derived.Laws.IdiomCopy
set_option linter.all false
set_option maxHeartbeats 2000000
open Go.Proofs.Tryz renaming prog->TP
open Go.Proofs.Tryz
namespace Go.Proofs.YtmndpldajflenaaGreatDoor
namespace Abs
namespace Ch
set_option maxRecDepth 4000
theorem NI(s)(a):af TP 22 [s.pv,bv a] (if bi s a=0 then .tuple [bv (bx s a).2.1,.int .i64 0] else .tuple [.nilslice,.int .i64 (bi s a)]):=by
 refine aa (ag func22 rfl) rfl ?_;simp only[go_sem,simprocAttr];refine ae (Jb s a) rfl ?_;by_cases e:bi s a=0
 .simp only[kE,e,bv,go_sem,simprocAttr]
 .simp only[kE,if_neg e,bv,go_sem,simprocAttr]
theorem S5(s)(a):af TP 16 [s.pv,bv a] (if bi s a=0 then .tuple [(bx s a).1.pv,.int .i64 0] else .tuple [.agg [.nilslice,.nilslice,.nilslice,.nilslice,.int .i64 0,.int .i64 0],.int .i64 (bi s a)]):=by
 refine aa (ag func16 rfl) rfl ?_;simp only[go_sem,simprocAttr];refine ae (Jb s a) rfl ?_;by_cases e:bi s a=0
 .simp only[kE,e,bv,go_sem,simprocAttr]
 .have i:(bi s a != 0)=true:=by simpa using e
  simp only[kE,if_neg e,i,bv,go_sem,simprocAttr]
end Ch
open Go.RowKit
set_option maxRecDepth 100000
theorem Cw{w:World}{b i}{v}{o}(h:b<w.heap.size):((w.setCell ⟨b,i,none⟩ v).alloc o).heap=((w.alloc o).setCell ⟨b,i,none⟩ v).heap:=by
 apply Rz;intro k;simp only[World.alloc,World.setCell,xL,Rt,Array.size_modify];by_cases a:k=w.heap.size
 .subst a;rw[if_pos rfl,if_neg (by omega),if_pos rfl]
 .rw[if_neg a,if_neg a]
def Mg (b n:Nat) (w w':World):Prop:=∃cs:Array Value,n<=cs.size/\w'.os=w.os/\w'.tape=w.tape/\w'.output=w.output /\
 w'.heap=((w.alloc (.cells cs 5)).setCell ⟨b,1,none⟩ (.slice (some ⟨w.heap.size,0,none⟩) 0 cs.size)).heap
theorem N2(b n:Nat)(w)(a:w.heap[b]?=some (.cells #[.pointer (some ⟨b,0,none⟩),.slice none 0 0] 221 (0,0)))(C:n<=281474976710656) :
  Calls TP 186 #[.pointer (some ⟨b,0,none⟩),.int .i64 n] w λe w'=>e=.returned (.tuple #[])/\Mg b n w w':=by
 obtain⟨cs,q,u,A⟩:=Lib.run_makeNoZero (P:=TP) w.drew #[3] 205 5 underlying205 n C;have hw:IntKind.i64.wrap (n:Int)=n:=by
  rw[IntKind.wrap_i64];omega
 have z:(callFunc 231 #[.int .i64 (IntKind.i64.wrap (n:Int))]).run TP w.drew=.ok (.value (.slice (some ⟨w.drew.heap.size,0,none⟩) n cs.size)) (w.drew.drew.drew.alloc (.cells cs 5)):=by
  rw[hw,run_callFunc_extern func231 (by kernel_rfl) (by kernel_rfl) (by kernel_rfl) (e:=Extern.BytealgMakeNoZero.makeNoZero #[3] #[205]) (by kernel_rfl),q];rfl
 have j:b<w.heap.size:=by
  rcases cx b w.heap.size with h'|h'
  .exact h'
  .simp[xM h']at a
 have c1:w.drew.cell? ⟨b,1,none⟩=some (.slice none 0 0):=by
  have:w.drew.heap[b]?=_:=a;rw[gi this];rfl
 have E:(w.alloc (.cells cs 5)).cell? ⟨b,1,none⟩=some (.slice none 0 0):=by
  have:(w.alloc (.cells cs 5)).heap[b]?=_:=(fQ w _ b j).trans a;rw[gi this];rfl
 have D:(w.alloc (.cells cs 5)).frozen? ⟨b,1,none⟩=false:=by
  have:(w.alloc (.cells cs 5)).heap[b]?=_:=(fQ w _ b j).trans a;simp[World.frozen?,this]
 have y:∀W:World,(Builtin.copy_ #[205,205] 3 #[.slice (some ⟨w.heap.size,0,none⟩) 0 cs.size,.slice none 0 0]).run TP W=.ok (goInt 0) W:=
  λW=>run_copy_none W 205 205 3 5 _ _ 0 cs.size 0 0 underlying205 (by kernel_rfl) rfl
 have l:=Cw (w:=w) (b:=b) (i:=1) (v:=.slice (some ⟨w.heap.size,0,none⟩) 0 cs.size) (o:=.cells cs 5) j;clear hw
 go_enter func186,ntmps186
 go_wp2
 go_region
 all_goals (go_wp2;go_end0;exact⟨rfl,cs,u,rfl,rfl,rfl,l⟩)
theorem Do{w:World}{b}{cs}{T}{fr}{v}{i}(o:w.heap[b]?=some (.cells cs T fr))(j:cs[i]?=some v):w.setCell ⟨b,i,none⟩ v=w:=by
 have h:(w.setCell ⟨b,i,none⟩ v).heap=w.heap:=by
  apply Rz;intro k;simp only[World.setCell,xL];split
  .rename_i a;subst a;have e:cs.setIfInBounds i v=cs:=by
    apply Rz;intro k;rw[Ry];split
    .rename_i a;subst a;rw[j];split
     .rfl
     .rename_i l;exact absurd (tQ.1 j).1 l
    .rfl
   rw[o];simp[e]
  .rfl
 cases w;simp only[World.setCell]at h |-;rw[h]
theorem QR(b n:Nat)(w)(p)(a:w.heap[b]?=some (.cells #[p,.slice none 0 0] 221 (0,0)))(l:p=.pointer none\/p=.pointer (some ⟨b,0,none⟩))(v:1<=n)(o:n<=281474976710656) :
  Calls TP 147 #[.pointer (some ⟨b,0,none⟩),.int .i64 n] w λe w'=>e=.returned (.tuple #[])/\Mg b n (w.setCell ⟨b,0,none⟩ (.pointer (some ⟨b,0,none⟩))) w':=by
 have i:(w.setCell ⟨b,0,none⟩ (.pointer (some ⟨b,0,none⟩))).heap[b]?=some (.cells #[.pointer (some ⟨b,0,none⟩),.slice none 0 0] 221 (0,0)):=by
  simp[World.setCell,xL,a]
 have c1:(w.setCell ⟨b,0,none⟩ (.pointer (some ⟨b,0,none⟩))).cell? ⟨b,1,none⟩=some (.slice none 0 0):=by rw[gi i];rfl
 have j:Calls TP 146 #[.pointer (some ⟨b,0,none⟩)] w λe w'=>e=.returned (.tuple #[])/\w'=w.setCell ⟨b,0,none⟩ (.pointer (some ⟨b,0,none⟩)):=by
  rcases l with rfl|rfl
  .exact sm b w (by rw[gi a];rfl) (by simp[World.shape?,a]) (by simp[World.frozen?,a])
  .refine(t6 b w (by rw[gi a];rfl)).mono ?_
   rintro e w' ⟨rfl,rfl⟩
   refine⟨rfl,?_⟩;exact(Do a rfl).symm
 have u:(w.setCell ⟨b,0,none⟩ (.pointer (some ⟨b,0,none⟩))).drew.cell? ⟨b,1,none⟩=some (.slice none 0 0):=c1
 go_enter func147,ntmps147
 go_wp2_with (go_at_call 146;refine j.mono ?_;rintro e w' ⟨rfl,rfl⟩)
 go_region
 all_goals go_wp2_with (go_at_call 186;refine(N2 b n (w.setCell ⟨b,0,none⟩ (.pointer (some ⟨b,0,none⟩))).drew i o).mono ?_;rintro e w' ⟨rfl,q⟩)
 all_goals (go_end0;exact⟨rfl,q⟩)
theorem Nm{h}{i n:Nat}(hi:h[i]?=some (.bld 221 5 (.p .nilslice)))(h0:1<=n)(hn:n<=281474976710656) :
  ar TP 147 [.ref .bl i,.p (.int .i64 n)] h (λr h'=>r=.ret (.p (.tuple []))/\h'=(h++[AObj.row 1 []]).set i (.bld 221 5 (.slice h.length 0 0 0))):=by
 intro M0 m w l I G;have M:=G.1;have Y:=G.2 0 _ rfl;have X:=G.2 1 _ rfl
 obtain⟨c0,c1,rfl⟩:∃c0 c1,l=#[c0,c1]:=⟨l.getD 0 undef,l.getD 1 undef,by
  apply qg
  .simpa using M
  .intro i h1 h2;have:i=0\/i=1:=by simp at h2;omega
   rcases this with rfl|rfl<;>simp[h1]⟩
 have F:RepP (Avoid M0 m) w c1 (.int .i64 n):=X;cases F;obtain⟨b,p,v,hm,hb,hp,a0,hr,a1⟩:=I.obj i _ hi;have z:m.getD i none=some b:=hm;obtain rfl:c0=.pointer (some ⟨b,0,none⟩):=by
  rcases Y.2 with hd|⟨_,b',V,y⟩
  .have D:h[i]?=some .dead:=hd;rw[hi]at D;cases D
  .have u:m.getD i none=some b':=V;rw[z]at u;cases u;exact y
 have y:RepP (Avoid M0 m) w v .nilslice:=hr;cases y;have C:w.heap[b]?=some (.cells #[p,.slice none 0 0] 221 (0,0)):=hb;refine⟨λw'=>Go.Proofs.enters_of func147 (by kernel_rfl) rfl _ w',?_⟩;refine(QR b n w p C hp h0 hn).mono ?_
 rintro e w' ⟨rfl,cs,a2,K,J,E,j⟩
 have A:(w.setCell ⟨b,0,none⟩ (.pointer (some ⟨b,0,none⟩))).heap[b]?=some (.cells #[.pointer (some ⟨b,0,none⟩),.slice none 0 0] 221 (0,0)):=by
  simp[World.setCell,xL,C]
 obtain⟨k1,e1⟩:=zx (S:=⟨m,h,w⟩) I hi z C (lW _ _ _ _) A (.inr rfl) (.inl rfl) (show bB M0 ⟨m,h,w⟩ (.slice none 0 0) (.p .nilslice) from .nilslice) (λa n c y=>by cases y);rw[show (Mem.mk m h w).h.set i (.bld 221 5 (.p .nilslice))=h from nH hi]at k1 e1;have O:m.length=h.length:=I.len;have k2:=HOk.new k1 (o:=.row 1 []) (ob:=.cells cs 5) (.inr ⟨_,5,cs,rfl,bw _ _,by simp,λi x hx=>by simp at hx⟩);have e2:=Ev.new h.length M0 k1 (ba _) (.row 1 []) (.cells cs 5);have R:=(aB.1 hi).1;have T:(h++[AObj.row 1 []])[i]?=some (.bld 221 5 (.p .nilslice)):=by rw[bp R];exact hi
 have N:(m++[some (w.setCell ⟨b,0,none⟩ (.pointer (some ⟨b,0,none⟩))).heap.size]).getD i none=some b:=by
  rw[cr,bp (by omega),<-cr];exact z
 have U:b<(w.setCell ⟨b,0,none⟩ (.pointer (some ⟨b,0,none⟩))).heap.size:=(tQ.1 A).1;have u:((w.setCell ⟨b,0,none⟩ (.pointer (some ⟨b,0,none⟩))).alloc (.cells cs 5)).heap[b]?=some (.cells #[.pointer (some ⟨b,0,none⟩),.slice none 0 0] 221 (0,0)):=(fQ _ _ _ U).trans A;have L:OnlyB b ((w.setCell ⟨b,0,none⟩ (.pointer (some ⟨b,0,none⟩))).alloc (.cells cs 5)) w':=by
  have Z:=lW ((w.setCell ⟨b,0,none⟩ (.pointer (some ⟨b,0,none⟩))).alloc (.cells cs 5)) b 1 (.slice (some ⟨(w.setCell ⟨b,0,none⟩ (.pointer (some ⟨b,0,none⟩))).heap.size,0,none⟩) 0 cs.size);refine⟨K.trans rfl,J.trans rfl,E.trans rfl,?_,?_⟩
  .rw[j];exact Z.size
  .intro k hk;rw[j];exact Z.block k hk
 have q:((w.setCell ⟨b,0,none⟩ (.pointer (some ⟨b,0,none⟩))).alloc (.cells cs 5)).shape? (w.setCell ⟨b,0,none⟩ (.pointer (some ⟨b,0,none⟩))).heap.size=some (5,cs.size):=by
  unfold World.shape?;rw[bw]
 obtain⟨k3,e3⟩:=zx (S:=⟨m++[some (w.setCell ⟨b,0,none⟩ (.pointer (some ⟨b,0,none⟩))).heap.size],h++[.row 1 []],(w.setCell ⟨b,0,none⟩ (.pointer (some ⟨b,0,none⟩))).alloc (.cells cs 5)⟩)
  (w':=w') (p':=.pointer (some ⟨b,0,none⟩)) (v':=.slice (some ⟨(w.setCell ⟨b,0,none⟩ (.pointer (some ⟨b,0,none⟩))).heap.size,0,none⟩) 0 cs.size) (x':=.slice h.length 0 0 0) k2 T N u L
  (by rw[j];simp[World.setCell,xL]at u |-;simp[u]) (.inr rfl) (.inr ⟨_,_,rfl⟩)
  ⟨⟨_,_,_,rfl⟩,.inr ⟨1,[],by simp,ba _,λ_=>.inr (.inl ⟨(w.setCell ⟨b,0,none⟩ (.pointer (some ⟨b,0,none⟩))).heap.size,cs.size,5,cs.size,by simp[O.symm],by simp,⟨de _,ba _⟩,q,by simp,de _⟩)⟩⟩
  (λa n c y=>by cases y;exact⟨_,q⟩)
 exact⟨.ret (.p (.tuple [])),_,_,⟨rfl,rfl⟩,(e1.trans e2).trans (e3.mono (by simp)),k3,.tuple rfl λi c hi=>by simp at hi⟩
set_option maxRecDepth 4000
def repL (a b:UInt8) (l:List UInt8):List UInt8:=l.map λx=>if x=a then b else x
theorem jO(a b)(l):(repL a b l).length=l.length:=by simp[repL]
theorem wY(a b)(x y):repL a b (x++y)=repL a b x++repL a b y:=by simp[repL]
theorem vC(a b):∀l,l.count a=0->repL a b l=l
 |[],_=>rfl
 |x::r,h=>by
  rw[List.count_cons]at h;have hx:x≠a:=λe=>by subst e;simp at h
  have:=vC a b r (by omega);unfold repL at this |-;rw[bK,this,if_neg hx]
theorem tG(a):∀l,(aH a l).1.count a=0
 |[]=>rfl
 |x::r=>by
  unfold aH;by_cases hx:x=a
  .rw[if_pos hx];rfl
  .rw[if_neg hx];show (x::(aH a r).1).count a=0;rw[List.count_cons_of_ne hx];exact tG a r
theorem NE(a){l}(h:l.count a≠0):∃p r,l=p++a::r/\p.count a=0/\Lib.indexByte l a=(p.length:Int):=by
 rcases ll a l with⟨j,e,i⟩|⟨r,j,e,i⟩
 .exact absurd (e▸tG a l) h
 .exact⟨_,r,i,tG a l,e⟩
theorem NN(l)(a b)(E:a≠b)(hl:l.length<=900000):af TP 178 [.str (bs l),.str (bs [a]),.str (bs [b]),.int .i64 (-1)] (.str (bs (repL a b l))):=by
 have e0:(bs [a]==bs [b])=false:=by rw[dy];simpa using E
 refine aa (ag func178 rfl) rfl ?_;simp only[e0,go_sem,simprocAttr];refine ae (LL (bs l) a) rfl ?_;rw[gh];by_cases F:l.count a=0
 .have A:((Lib.countByte l a:Nat):Int)=0:=by simpa[Lib.countByte]using F
  simp only[A,go_sem,simprocAttr];rw[vC a b l F]
 .have a0:=List.count_le_length (a:=a) (l:=l);obtain⟨k,V⟩:∃k,l.count a=k+1:=⟨l.count a-1,by omega⟩
  have A:((Lib.countByte l a:Nat):Int)=((k+1:Nat):Int):=by rw[Lib.countByte,V]
  have e2:(((k+1:Nat):Int)==0)=false:=by simp;omega
  simp only[A,e2,aj,aV,go_sem,simprocAttr];have D:1<=l.length:=by omega
  have e3:IntKind.i64.wrap ((l.length:Int)+IntKind.i64.wrap (((k+1:Nat):Int)*0))=((l.length:Nat):Int):=by
   rw[wO,show IntKind.i64.wrap 0=0 from rfl,ud];exact am (by omega) (by omega)
  rw[e3];refine cq (Nm (n:=l.length) rfl D (by omega)) ?_;have J:decide (0<(((bs [a]).size:Nat):Int))=true:=rfl;simp only[J,go_sem,simprocAttr]
  refine fo [0,1,2,10,52] (σ:=List UInt8×List UInt8) (λq=>l=q.1++q.2) (λq=>q.2.length)
   (λq=>[(11,.p (.int .i64 q.1.length)),(53,.p (.int .i64 ((q.1.count a:Nat):Int)))])
   (λq=>[.bld 221 5 (.slice 1 q.1.length 0 q.1.length),.row 1 (gA (bs (repL a b q.1)))]) ([],l) rfl rfl ?_ ?_
  .simp only[List.count_nil,go_sem,simprocAttr]
  rintro⟨e,rest⟩ i
  dsimp only at i;have I:l.count a=e.count a+rest.count a:=by rw[i,List.count_append]
  have y:=congrArg List.length i;rw[aL]at y;have u:((e.length:Nat):Int)<=((bs l).size:Int):=by rw[aj];omega
  have v:(bs l).extract e.length (bs l).size=bs rest:=by
   rw[eD,aj,pw]
   congr 1
   rw[i];simp
  rcases pu (rest.count a) with S|hp
  .have o:¬(((e.count a:Nat):Int)<((k+1:Nat):Int)):=by omega
   simp only[o,decide_false,u,v,go_sem,simprocAttr];refine cq (m6 (s:=bs rest) (j:=1) rfl rfl (by rw[jY,aj,jO]) (by decide) (by rw[aj];omega)) ?_;have T:repL a b e++rest=repL a b l:=by rw[i,wY,vC a b rest S]
   have U:e.length+(bs rest).size=(bs (repL a b l)).size:=by rw[aj,aj,jO];omega
   simp only[ka,dF,T,U,go_sem,simprocAttr];refine cq (tr (j:=1) (s:=bs (repL a b l)) rfl rfl (by rw[aj,jO];omega) (by rw[aj,jO];omega)) ?_;simp only[go_sem,simprocAttr]
  .obtain⟨p,r,z,G,Z⟩:=NE a (l:=rest) (by omega);have o:(((e.count a:Nat):Int)<((k+1:Nat):Int)):=by omega
   have C:=congrArg List.length z;simp only[aL,dB]at C;simp only[o,decide_true,u,v,go_sem,simprocAttr];refine ae (EO (bs rest) a) rfl ?_;rw[gh,Z];have R:IntKind.i64.wrap ((e.length:Int)+(p.length:Int))=((e.length+p.length:Nat):Int):=bk (by omega) (by simp[ao];omega) (by simp);have O:((e.length+p.length:Nat):Int)<=((bs l).size:Int):=by rw[aj];omega
   have N:(((e.length:Nat):Int)<=((e.length+p.length:Nat):Int)):=by omega
   have M:(bs l).extract e.length (e.length+p.length)=bs p:=by
    rw[eD]
    congr 1
    rw[i,z];simp[List.take_append]
   have L:IntKind.i64.wrap (((e.length+p.length:Nat):Int)+1)=(((e++(p++[a])).length:Nat):Int):=bk (by omega) (by simp[ao];omega) (by simp;omega);have K:IntKind.i64.wrap (((e.count a:Nat):Int)+1)=(((e++(p++[a])).count a:Nat):Int):=bk (by omega) (by simp[ao];omega) (by simp[G]);simp only[R,O,N,M,go_sem,simprocAttr];refine cq (m6 (s:=bs p) (j:=1) rfl rfl (by rw[jY,aj,jO]) (by decide) (by rw[aj];omega)) ?_;simp only[ka,dF,go_sem,simprocAttr];refine cq (m6 (s:=bs [b]) (j:=1) rfl rfl (by rw[jY,aj,aj,aL,jO]) (by decide) (by rw[aj,aj];simp;omega)) ?_;simp only[ka,dF,aj,aV,L,go_sem,simprocAttr];refine br (e++(p++[a]),r) (by rw[i,z];simp) (by show r.length<rest.length;omega) ?_ ?_
   .have Y:repL a b (e++(p++[a]))=repL a b e++p++[b]:=by
     rw[wY,wY,vC a b p G,dJ];simp[repL]
    have X:(e++(p++[a])).length=e.length+p.length+1:=by simp;omega
    show _=[AObj.bld 221 5 (.slice 1 (e++(p++[a])).length 0 (e++(p++[a])).length),AObj.row 1 (gA (bs (repL a b (e++(p++[a])))))]
    rw[Y,X]
   simp only[K,go_sem,simprocAttr]
theorem wG(l)(a b)(e:a≠b)(i:l.length<=900000):af TP 138 [.str (bs l),.str (bs [a]),.str (bs [b])] (.str (bs (repL a b l))):=by
 refine aa (ag func138 rfl) rfl ?_;simp only[go_sem,simprocAttr];refine ae (NN l a b e i) rfl ?_;simp only[go_sem,simprocAttr]
namespace Ch
def pR (i:Nat) (x:List UInt8):List UInt8:=bH ((i+1:Nat):Int)++[32]++repL 10 47 x++[10]
theorem BR{i}{x}(hi:i<=50):(pR i x).length<=x.length+10:=by
 have:=nS (n:=((i+1:Nat):Int)) (by omega) (by omega);simp only[pR,aL,jO,aV];omega
def Ax (l:List (List UInt8)):PV:=.func (.func 177) [] [.ptr 1 [bv l] 0 0]
theorem QK(l):af TP 137 [bv l] (Ax l):=by
 refine dd (ag func137 rfl) rfl ?_;simp only[Ax,bv,go_sem,simprocAttr]
theorem Nl(l)(R:l.length<=40)(hw:∀x,x∈l->x.length<=1000)(id)(A)(e:List (List UInt8)->Heap->Prop)
  (K:∀a x rest h,l=a++x::rest->e a h->rT TP id [.p (.str (bs (pR a.length x)))] h (λr h'=>r=.ret (.p (.bool true))/\e (a++[x]) h')) (hi:e [] A) :
  ar TP 177 [.ref .yl id,.p (.ptr 1 [bv l] 0 0)] A (λr h'=>r=.ret (.p (.tuple []))/\e l h'):=by
 refine au (ag func177 rfl) rfl ?_;simp only[bv,go_sem,simprocAttr]
 refine fo [0,5,6] (σ:=List (List UInt8)×List (List UInt8)×Heap) (λq=>l=q.1++q.2.1/\e q.1 q.2.2) (λq=>q.2.1.length)
  (λq=>[(7,.p (.int .i64 q.1.length))]) (λq=>q.2.2) ([],l,A) ⟨rfl,hi⟩ rfl ?_ ?_
 .simp only[go_sem,simprocAttr]
 rintro⟨a,rest,h⟩ ⟨i,C⟩
 dsimp only at i C
 cases rest with
 |nil=>
  have o:¬((a.length:Int)<(l.length:Int)):=by rw[i];simp
  simp only[o,decide_false,go_sem,simprocAttr];rw[bt]at i;rw[i]
  exact C
 |cons x rest=>
  obtain⟨hx,o⟩:=eT i;have z:=congrArg List.length i;simp only[aL,dB]at z;have E:IntKind.i64.wrap ((a.length:Int)+1)=(((a++[x]).length:Nat):Int):=bk (by omega) (by simp[ao];omega) (by simp);have F:IntKind.i64.wrap ((a.length:Int)+1)=((a.length+1:Nat):Int):=bk (by omega) (by simp[ao];omega) (by simp);have O:=hw x (by rw[i];simp);have L:=nS (n:=((a.length+1:Nat):Int)) (by omega) (by omega);have y:=md (n:=((a.length+1:Nat):Int)) (by omega);have c1:(⟨#[32]⟩:ByteArray)=bs [32]:=rfl;have N:(⟨#[10]⟩:ByteArray)=bs [10]:=rfl;have S:(⟨#[47]⟩:ByteArray)=bs [47]:=rfl;have j:=K a x rest h i C;rw[show pR a.length x=bH ((a.length+1:Nat):Int)++[32]++repL 10 47 x++[10] from rfl]at j;generalize bH ((a.length+1:Nat):Int)=D at L y j;have J:(bs (D)).size+(bs [32]).size<=bj:=by simp[aj,bj];omega
  have I:(bs (D++[32])).size+(bs (repL 10 47 x)).size<=bj:=by simp[aj,bj,jO];omega
  have G:(bs (D++[32]++repL 10 47 x)).size+(bs [10]).size<=bj:=by simp[aj,bj,jO];omega
  simp only[o,decide_true,hx,F,go_sem,simprocAttr];refine ae (vW ((a.length+1:Nat):Int) (by omega) (by omega)) rfl ?_;simp only[y,c1,J,dF,go_sem,simprocAttr];refine ae (wG x 10 47 (by decide) (by omega)) rfl ?_;simp only[N,I,G,dF,go_sem,simprocAttr];refine o6 j (λv h' u=>?_) (λv h' u=>?_)
  .obtain⟨u,M⟩:=u;cases u;simp only[go_sem,simprocAttr];refine br (a++[x],rest,h') ⟨by rw[i];simp,M⟩ (jJ _) rfl ?_;simp only[E,go_sem,simprocAttr]
  .cases u.1
def i7 (l:List (List UInt8)):List UInt8:=(l.mapIdx pR).flatten
theorem wD(l)(x):i7 (l++[x])=i7 l++pR l.length x:=by
 unfold i7;rw[List.mapIdx_concat];simp
theorem wE:∀(n) (l r),l.length=n->(l++r).length<=40->(∀x,x∈l++r->x.length<=400)->(i7 l).length<=410*n
 |0,l,r,a,_,_=>by
  rw[sy a]
  exact ba _
 |n+1,l,r,a,j,e=>by
  rcases C0 l with rfl|⟨l,x,rfl⟩
  .cases a
  rw[C1]at a j e |-;have o:l.length=n:=by simpa using a
  have v:=wE n l ([x]++r) o (by simpa using j) (by simpa using e);have u:=e x (by simp);have q:=BR (i:=l.length) (x:=x) (by simp at j;omega);rw[wD,aL];omega
theorem zi(l r)(e:(l++r).length<=40)(a:∀x,x∈l++r->x.length<=400):(i7 l).length<=410*l.length:=wE _ l r rfl e a
theorem NG(i)(x):(pR i x).length≠0:=by simp[pR]
theorem Ka{l}{c}(h:gr l=.ok c):l.length<=400:=by
 unfold gr at h;split at h
 .cases h
 .omega
theorem Ih{s}{q}{l}(e:∀x,x∈q.2.2->x.length<=400):∀x,x∈(er s q l).2.2->x.length<=400:=by
 unfold er;split
 .exact e
 .rename_i b a w i;dsimp only;split
  .intro x hx;rcases ck.1 hx with hx|hx
   .exact e x hx
   .simp only[dT]at hx;subst hx;unfold eB at i;split at i
    .cases i
    .rename_i c j;exact Ka j
  .exact e
theorem za{s}:∀(d:List (List UInt8)) (q),(∀x,x∈q.2.2->x.length<=400)->∀x,x∈(d.foldl (er s) q).2.2->x.length<=400
 |[],q,h=>h
 |l::d,q,h=>za d (er s q l) (Ih h)
theorem Kd(s)(d):∀x,x∈(bx s d).2.2->x.length<=400:=za d _ (λx hx=>(by cases hx))
def tH (n:Nat):AV:=if n=0 then .p .nilslice else .slice 4 n 0 n
def o1 (t:List UInt8):Heap:=if t.length=0 then [] else [.row 1 (gA (bs t))]
def rN (s:ChShop) (o:AObj) (t:List UInt8):Heap:=[.row 17 [.p s.pv],.bld 221 5 (tH t.length),.dblock,o]++o1 t
def qJ (s:ChShop) (ls:List (List UInt8)):PV:=if bi s ls=0 then .tuple [.str (bs (i7 (bx s ls).2.2)),.int .i64 0] else .tuple [.str (bs []),.int .i64 (bi s ls)]
theorem S4(s)(z):af TP 77 [s.pv,bv z] (qJ s z):=by
 refine aa (ag func77 rfl) rfl ?_;simp only[go_sem,simprocAttr];refine ae (Jb s z) rfl ?_;by_cases u:bi s z=0;rotate_left
 .have N:(bi s z != 0)=true:=by simpa using u
  simp only[kE,if_neg u,N,qJ,go_sem,simprocAttr];rfl
 have e:(bx s z).2.2.length<=40:=by
  have X:=(GT s z).2;unfold bi at u;split at u
  .split at u
   .cases u
   .omega
  .exact absurd u (by assumption)
 have q:=Kd s z;simp only[kE,u,go_sem,simprocAttr];generalize E:(bx s z).2.2=w at e q;refine ae (QK w) rfl ?_;simp only[go_sem,simprocAttr]
 refine Fi (f:=177) (args:=[.ref .yl 3,.p (.ptr 1 [bv w] 0 0)])
  (R:=λr h=>r=.ret (.p (.tuple []))/\∃o,h=rN s o (i7 w))
  rfl (by simp only[Ax,go_sem,simprocAttr]) dh (by kernel_rfl) (by kernel_rfl) (by kernel_rfl) (λL U T l=>?_) (λv h M=>by cases M.1)
 have I:∀t o,(rN s o t)[3]?=some o:=λt o=>rfl;refine(Nl w e (λx hx=>iI (q x hx) (by decide)) 3 _ (λa h=>h=rN s L (i7 a)) ?_ rfl).mono ?_
 .rintro a x rest h J rfl
  have G:=zi a (x::rest) (by rw[<-J];exact e) (by rw[<-J];exact q);have S:a.length<=40:=by rw[J]at e;simp at e;omega
  have K:=BR (i:=a.length) (x:=x) (by omega);have O:=q x (by rw[J];simp);have A:=NG a.length x;refine l _ _ _ rfl (I _ _) ?_;clear l;rw[wD];generalize i7 a=t at G;generalize pR a.length x=y at K A;have F:(t++y).length≠0:=by rw[aL];omega
  by_cases D:t.length=0
  .have C:t=[]:=sy D;subst C;simp only[rN,tH,o1,dL,go_sem,simprocAttr];refine cq (wt (s:=bs y) rfl (by rw[aj];omega) (by rw[aj];exact A)) ?_;simp only[aj,go_sem,simprocAttr];refine⟨rfl,?_⟩;rw[rN,tH,o1,if_neg A,if_neg A];rfl
  .simp only[rN,tH,o1,if_neg D,go_sem,simprocAttr];refine cq (m6 (s:=bs y) (j:=4) rfl rfl (by rw[jY,aj]) (by decide) (by rw[aj];omega)) ?_;simp only[aj,ka,dF,go_sem,simprocAttr];refine⟨by rw[rN,o1,if_neg D];rfl,?_⟩;rw[rN,tH,o1,if_neg F,if_neg F,aL];rfl
 .rintro r h ⟨rfl,rfl⟩
  refine⟨⟨rfl,L,rfl⟩,λv V=>.inl ⟨I _ _,?_⟩⟩;clear l;have G:=zi w [] (by simpa using e) (by simpa using q);by_cases D:(i7 w).length=0
  .have C:i7 w=[]:=sy D;rw[C];simp only[rN,tH,o1,dL,go_sem,simprocAttr];refine cq (Lc rfl) ?_;simp only[bN,go_sem,simprocAttr];rw[qJ,if_pos u,E,C];rfl
  .simp only[rN,tH,o1,if_neg D,go_sem,simprocAttr];refine cq (tr (j:=4) (s:=bs (i7 w)) (by rw[aj];rfl) rfl (by rw[aj];exact D) (by rw[aj];omega)) ?_;simp only[bN,go_sem,simprocAttr];rw[qJ,if_pos u,E]
end Ch
end Abs
end Go.Proofs.YtmndpldajflenaaGreatDoor
