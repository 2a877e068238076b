/-
  CONTRACTS: chandler: Work, Books. No conditions but those in the theorems' heads.
  CONTRACT: room made in a strings.Builder of one's own that holds nothing yet. No condition
  CONTRACTS: strings.ReplaceAll, one byte for another one. No conditions but those in the th
  CONTRACTS: chandler: cards, Cards. No conditions but those in the theorems' heads.
-/
import Derived.Test.YtfafnkpfamgbbaaGreatDoorAbsCutX
import Derived.Test.YtfafnkpfamgbbaaGreatDoorChDoneX
import Derived.Test.YtfafnkpfamgbbaaGreatDoorStrBldX
import Derived.Lib.MakeNoZero
import Derived.Laws.IdiomCopy
import Derived.Test.YtfafnkpfamgbbaaGreatDoorHrUseX
set_option linter.unusedSimpArgs false
set_option linter.unusedVariables false
open Go.Proofs.Tryz renaming prog->TP
namespace Go.Proofs.YtfafnkpfamgbbaaGreatDoor
namespace Abs
namespace Ch
set_option maxRecDepth 4000
theorem OY (s) (ls):ah TP 8 [s.pv,bt ls] (if bz s ls=0 then .tuple [bt (bN s ls).2.1,.int .i64 0] else .tuple [.nilslice,.int .i64 (bz s ls)]):=by
 refine aa (ai (by kernel_rfl) rfl ok8) rfl ?_;simp only [go_sem,simprocAttr];refine ae (Ks s ls) rfl ?_;by_cases he:bz s ls=0
 .simp only [k8,he,bt,go_sem,simprocAttr]
 .simp only [k8,if_neg he,bt,go_sem,simprocAttr]
theorem UV (s) (ls):ah TP 11 [s.pv,bt ls] (if bz s ls=0 then .tuple [(bN s ls).1.pv,.int .i64 0] else .tuple [.agg [.nilslice,.nilslice,.nilslice,.nilslice,.int .i64 0,.int .i64 0],.int .i64 (bz s ls)]):=by
 refine aa (ai (by kernel_rfl) rfl zct) rfl ?_;simp only [go_sem,simprocAttr];refine ae (Ks s ls) rfl ?_;by_cases he:bz s ls=0
 .simp only [k8,he,bt,go_sem,simprocAttr]
 .have hn:(bz s ls != 0)=true:=by simpa using he
  simp only [k8,if_neg he,hn,bt,go_sem,simprocAttr]
end Ch
open Go.RowKit
set_option maxRecDepth 100000
theorem DP {w:World} {b i} {v} {o} (h:b<w.heap.size):((w.setCell ⟨b,i,none⟩ v).alloc o).heap=((w.alloc o).setCell ⟨b,i,none⟩ v).heap:=by
 apply Jq;intro k;simp only [World.alloc,World.setCell,tG,Nt,Array.size_modify];by_cases hk:k=w.heap.size
 .subst hk;rw [if_pos rfl,if_neg (by omega),if_pos rfl]
 .rw [if_neg hk,if_neg hk]
def Nq (b n:Nat) (w w':World):Prop:=∃ cs:Array Value,n<=cs.size/\w'.os=w.os/\w'.tape=w.tape/\w'.output=w.output /\
 w'.heap=((w.alloc (.cells cs 5)).setCell ⟨b,1,none⟩ (.slice (some ⟨w.heap.size,0,none⟩) 0 cs.size)).heap
set_option maxHeartbeats 2000000 in
theorem Pf (b n:Nat) (w) (hbk:w.heap[b]?=some (.cells #[.pointer (some ⟨b,0,none⟩),.slice none 0 0] 84 (0,0))) (hn:n<=281474976710656) :
  Calls TP 135 #[.pointer (some ⟨b,0,none⟩),.int .i64 n] w λe w'=>e=.returned (.tuple #[])/\Nq b n w w':=by
 obtain ⟨cs,hrun,hle,hmax⟩:=Lib.run_makeNoZero (P:=TP) w.drew #[3] 82 5 Tryz.underlying82 n hn;have hw:IntKind.i64.wrap (n:Int)=n:=by
  rw [IntKind.wrap_i64];omega
 have hcall:(callFunc 203 #[.int .i64 (IntKind.i64.wrap (n:Int))]).run TP w.drew=.ok (.value (.slice (some ⟨w.drew.heap.size,0,none⟩) n cs.size)) (w.drew.drew.drew.alloc (.cells cs 5)):=by
  rw [hw,run_callFunc_extern Tryz.func203 (by kernel_rfl) (by kernel_rfl) (by kernel_rfl) (e:=Extern.BytealgMakeNoZero.makeNoZero #[3] #[82]) (by kernel_rfl),hrun];rfl
 have hlt:b<w.heap.size:=by
  rcases dr b w.heap.size with h' | h'
  .exact h'
  .simp [ql h'] at hbk
 have c1:w.drew.cell? ⟨b,1,none⟩=some (.slice none 0 0):=by
  have:w.drew.heap[b]?=_:=hbk;rw [gr this];rfl
 have c2:(w.alloc (.cells cs 5)).cell? ⟨b,1,none⟩=some (.slice none 0 0):=by
  have:(w.alloc (.cells cs 5)).heap[b]?=_:=(fS w _ b hlt).trans hbk;rw [gr this];rfl
 have f2:(w.alloc (.cells cs 5)).frozen? ⟨b,1,none⟩=false:=by
  have:(w.alloc (.cells cs 5)).heap[b]?=_:=(fS w _ b hlt).trans hbk;simp [World.frozen?,this]
 have hcopy:∀ W:World,(Builtin.copy_ #[82,82] 3 #[.slice (some ⟨w.heap.size,0,none⟩) 0 cs.size,.slice none 0 0]).run TP W=.ok (goInt 0) W :=
  λW=>run_copy_none W 82 82 3 5 _ _ 0 cs.size 0 0 Tryz.underlying82 (by kernel_rfl) rfl
 have hcomm:=DP (w:=w) (b:=b) (i:=1) (v:=.slice (some ⟨w.heap.size,0,none⟩) 0 cs.size) (o:=.cells cs 5) hlt;clear hw
 go_enter Tryz.func135,Tryz.ntmps135
 go_wp2
 go_region
 all_goals (go_wp2;go_end0;exact ⟨rfl,cs,hle,rfl,rfl,rfl,hcomm⟩)
theorem EJ {w:World} {b} {cs} {T} {fr} {v} {i} (hb:w.heap[b]?=some (.cells cs T fr)) (hc:cs[i]?=some v):w.setCell ⟨b,i,none⟩ v=w:=by
 have h:(w.setCell ⟨b,i,none⟩ v).heap=w.heap:=by
  apply Jq;intro k;simp only [World.setCell,tG];split
  .rename_i hk;subst hk;have hcs:cs.setIfInBounds i v=cs:=by
    apply Jq;intro k;rw [PO];split
    .rename_i hk;subst hk;rw [hc];split
     .rfl
     .rename_i hn;exact absurd (nt.1 hc).1 hn
    .rfl
   rw [hb];simp [hcs]
  .rfl
 cases w;simp only [World.setCell] at h |-;rw [h]
set_option maxHeartbeats 2000000 in
theorem Sy (b n:Nat) (w) (p) (hbk:w.heap[b]?=some (.cells #[p,.slice none 0 0] 84 (0,0))) (hp:p=.pointer none\/p=.pointer (some ⟨b,0,none⟩)) (h0:1<=n) (hn:n<=281474976710656) :
  Calls TP 86 #[.pointer (some ⟨b,0,none⟩),.int .i64 n] w λe w'=>e=.returned (.tuple #[])/\Nq b n (w.setCell ⟨b,0,none⟩ (.pointer (some ⟨b,0,none⟩))) w':=by
 have hbk1:(w.setCell ⟨b,0,none⟩ (.pointer (some ⟨b,0,none⟩))).heap[b]?=some (.cells #[.pointer (some ⟨b,0,none⟩),.slice none 0 0] 84 (0,0)):=by
  simp [World.setCell,tG,hbk]
 have c1:(w.setCell ⟨b,0,none⟩ (.pointer (some ⟨b,0,none⟩))).cell? ⟨b,1,none⟩=some (.slice none 0 0):=by rw [gr hbk1];rfl
 have hck:Calls TP 42 #[.pointer (some ⟨b,0,none⟩)] w λe w'=>e=.returned (.tuple #[])/\w'=w.setCell ⟨b,0,none⟩ (.pointer (some ⟨b,0,none⟩)):=by
  rcases hp with rfl | rfl
  .exact tt b w (by rw [gr hbk];rfl) (by simp [World.shape?,hbk]) (by simp [World.frozen?,hbk])
  .refine (u6 b w (by rw [gr hbk];rfl)).mono ?_
   rintro e w' ⟨rfl,rfl⟩
   refine ⟨rfl,?_⟩;exact (EJ hbk rfl).symm
 have c1':(w.setCell ⟨b,0,none⟩ (.pointer (some ⟨b,0,none⟩))).drew.cell? ⟨b,1,none⟩=some (.slice none 0 0):=c1
 go_enter Tryz.func86,Tryz.ntmps86
 go_wp2_with (go_at_call 42;refine hck.mono ?_;rintro e w' ⟨rfl,rfl⟩)
 go_region
 all_goals go_wp2_with (go_at_call 135;refine (Pf b n (w.setCell ⟨b,0,none⟩ (.pointer (some ⟨b,0,none⟩))).drew hbk1 hn).mono ?_;rintro e w' ⟨rfl,h1⟩)
 all_goals (go_end0;exact ⟨rfl,h1⟩)
theorem OB {h} {i n:Nat} (hi:h[i]?=some (.bld 84 5 (.p .nilslice))) (h0:1<=n) (hn:n<=281474976710656) :
  aC TP 86 [.ref .bl i,.p (.int .i64 n)] h (λr h'=>r=.ret (.p (.tuple []))/\h'=(h++[AObj.row 1 []]).set i (.bld 84 5 (.slice h.length 0 0 0))):=by
 intro M0 m w cargs hS ha;have hnn:=ha.1;have ha0:=ha.2 0 _ rfl;have ha1:=ha.2 1 _ rfl
 obtain ⟨c0,c1,rfl⟩:∃ c0 c1,cargs=#[c0,c1]:=⟨cargs.getD 0 undef,cargs.getD 1 undef,by
  apply j6
  .simpa using hnn
  .intro i h1 h2;have:i=0\/i=1:=by simp at h2;omega
   rcases this with rfl | rfl<;>simp [h1]⟩
 have ha1':RepP (Avoid M0 m) w c1 (.int .i64 n):=ha1;cases ha1';obtain ⟨b,p,v,hm,hb,hp,hxf,hr,hsh⟩:=hS.obj i _ hi;have hm':m.getD i none=some b:=hm;obtain rfl:c0=.pointer (some ⟨b,0,none⟩):=by
  rcases ha0.2 with hd | ⟨_,b',hb',hv⟩
  .have hd':h[i]?=some .dead:=hd;rw [hi] at hd';cases hd'
  .have hb2:m.getD i none=some b':=hb';rw [hm'] at hb2;cases hb2;exact hv
 have hv:RepP (Avoid M0 m) w v .nilslice:=hr;cases hv;have hb0:w.heap[b]?=some (.cells #[p,.slice none 0 0] 84 (0,0)):=hb;refine ⟨λw'=>Go.Proofs.enters_of Tryz.func86 (by kernel_rfl) rfl _ w',?_⟩;refine (Sy b n w p hb0 hp h0 hn).mono ?_
 rintro e w' ⟨rfl,cs,hle,hos,htp,hout,hheap⟩
 have hb1:(w.setCell ⟨b,0,none⟩ (.pointer (some ⟨b,0,none⟩))).heap[b]?=some (.cells #[.pointer (some ⟨b,0,none⟩),.slice none 0 0] 84 (0,0)):=by
  simp [World.setCell,tG,hb0]
 obtain ⟨k1,e1⟩:=AS (S:=⟨m,h,w⟩) hS hi hm' hb0 (mE _ _ _ _) hb1 (.inr rfl) (.inl rfl) (show cH M0 ⟨m,h,w⟩ (.slice none 0 0) (.p .nilslice) from .nilslice) (λa n c hv=>by cases hv);rw [show (Mem.mk m h w).h.set i (.bld 84 5 (.p .nilslice))=h from ov hi] at k1 e1;have hln:m.length=h.length:=hS.len;have k2:=HOk.new k1 (o:=.row 1 []) (ob:=.cells cs 5) (.inr ⟨_,5,cs,rfl,bL _ _,by simp,λi x hx=>by simp at hx⟩);have e2:=Ev.new h.length M0 k1 (bM _) (.row 1 []) (.cells cs 5);have hil:=(aE.1 hi).1;have hi2:(h++[AObj.row 1 []])[i]?=some (.bld 84 5 (.p .nilslice)):=by rw [be hil];exact hi
 have hm2:(m++[some (w.setCell ⟨b,0,none⟩ (.pointer (some ⟨b,0,none⟩))).heap.size]).getD i none=some b:=by
  rw [cJ,be (by omega),<-cJ];exact hm'
 have hbl:b<(w.setCell ⟨b,0,none⟩ (.pointer (some ⟨b,0,none⟩))).heap.size:=(nt.1 hb1).1;have hb2:((w.setCell ⟨b,0,none⟩ (.pointer (some ⟨b,0,none⟩))).alloc (.cells cs 5)).heap[b]?=some (.cells #[.pointer (some ⟨b,0,none⟩),.slice none 0 0] 84 (0,0)):=(fS _ _ _ hbl).trans hb1;have hor:OnlyB b ((w.setCell ⟨b,0,none⟩ (.pointer (some ⟨b,0,none⟩))).alloc (.cells cs 5)) w':=by
  have ho:=mE ((w.setCell ⟨b,0,none⟩ (.pointer (some ⟨b,0,none⟩))).alloc (.cells cs 5)) b 1 (.slice (some ⟨(w.setCell ⟨b,0,none⟩ (.pointer (some ⟨b,0,none⟩))).heap.size,0,none⟩) 0 cs.size);refine ⟨hos.trans rfl,htp.trans rfl,hout.trans rfl,?_,?_⟩
  .rw [hheap];exact ho.size
  .intro k hk;rw [hheap];exact ho.block k hk
 have hshape:((w.setCell ⟨b,0,none⟩ (.pointer (some ⟨b,0,none⟩))).alloc (.cells cs 5)).shape? (w.setCell ⟨b,0,none⟩ (.pointer (some ⟨b,0,none⟩))).heap.size=some (5,cs.size):=by
  unfold World.shape?;rw [bL]
 obtain ⟨k3,e3⟩:=AS (S:=⟨m++[some (w.setCell ⟨b,0,none⟩ (.pointer (some ⟨b,0,none⟩))).heap.size],h++[.row 1 []],(w.setCell ⟨b,0,none⟩ (.pointer (some ⟨b,0,none⟩))).alloc (.cells cs 5)⟩)
  (w':=w') (p':=.pointer (some ⟨b,0,none⟩)) (v':=.slice (some ⟨(w.setCell ⟨b,0,none⟩ (.pointer (some ⟨b,0,none⟩))).heap.size,0,none⟩) 0 cs.size) (x':=.slice h.length 0 0 0) k2 hi2 hm2 hb2 hor
  (by rw [hheap];simp [World.setCell,tG] at hb2 |-;simp [hb2]) (.inr rfl) (.inr ⟨_,_,rfl⟩)
  ⟨⟨_,_,_,rfl⟩,.inr ⟨1,[],by simp,bM _,λ_=>.inr (.inl ⟨(w.setCell ⟨b,0,none⟩ (.pointer (some ⟨b,0,none⟩))).heap.size,cs.size,5,cs.size,by simp [hln.symm],by simp,⟨dD _,bM _⟩,hshape,by simp,dD _⟩)⟩⟩
  (λa n c hv=>by cases hv;exact ⟨_,hshape⟩)
 exact ⟨.ret (.p (.tuple [])),_,_,⟨rfl,rfl⟩,(e1.trans e2).trans (e3.mono (by simp)),k3,.tuple rfl λi c hi=>by simp at hi⟩
set_option maxRecDepth 4000
def repL (a b:UInt8) (l:List UInt8):List UInt8:=l.map λx=>if x=a then b else x
theorem iu (a b) (l):(repL a b l).length=l.length:=by simp [repL]
theorem yy (a b) (x y):repL a b (x++y)=repL a b x++repL a b y:=by simp [repL]
theorem xg (a b):∀ l,l.count a=0->repL a b l=l
 |[],_=>rfl
 |x::r,h=>by
  rw [List.count_cons] at h;have hx:x≠a:=λe=>by subst e;simp at h
  have:=xg a b r (by omega);unfold repL at this |-;rw [bB,this,if_neg hx]
theorem uJ (a):∀ l,(aH a l).1.count a=0
 |[]=>rfl
 |x::r=>by
  unfold aH;by_cases hx:x=a
  .rw [if_pos hx];rfl
  .rw [if_neg hx];show (x::(aH a r).1).count a=0;rw [List.count_cons_of_ne hx];exact uJ a r
theorem OT (a) {l} (h:l.count a≠0):∃ p r,l=p++a::r/\p.count a=0/\Lib.indexByte l a=(p.length:Int):=by
 rcases jV a l with ⟨h1,h2,h3⟩ | ⟨r,h1,h2,h3⟩
 .exact absurd (h2▸uJ a l) h
 .exact ⟨_,r,h3,uJ a l,h2⟩
set_option maxHeartbeats 2000000 in
theorem O2 (l) (a b) (hab:a≠b) (hl:l.length<=900000):ah TP 55 [.str (bs l),.str (bs [a]),.str (bs [b]),.int .i64 (-1)] (.str (bs (repL a b l))):=by
 have e0:(bs [a]==bs [b])=false:=by rw [cf];simpa using hab
 refine aa (ai (by kernel_rfl) rfl zbT) rfl ?_;simp only [e0,go_sem,simprocAttr];refine ae (MW (bs l) a) rfl ?_;rw [gq];by_cases h0:l.count a=0
 .have e1:((Lib.countByte l a:Nat):Int)=0:=by simpa [Lib.countByte] using h0
  simp only [e1,go_sem,simprocAttr];rw [xg a b l h0]
 .have hcl:=List.count_le_length (a:=a) (l:=l);obtain ⟨k,hk⟩:∃ k,l.count a=k+1:=⟨l.count a-1,by omega⟩
  have e1:((Lib.countByte l a:Nat):Int)=((k+1:Nat):Int):=by rw [Lib.countByte,hk]
  have e2:(((k+1:Nat):Int)==0)=false:=by simp;omega
  simp only [e1,e2,aq,bh,go_sem,simprocAttr];have hl0:1<=l.length:=by omega
  have e3:IntKind.i64.wrap ((l.length:Int)+IntKind.i64.wrap (((k+1:Nat):Int)*0))=((l.length:Nat):Int):=by
   rw [tM,show IntKind.i64.wrap 0=0 from rfl,vb];exact ax (by omega) (by omega)
  rw [e3];refine cy (OB (n:=l.length) rfl hl0 (by omega)) ?_;have z1:decide (0<(((bs [a]).size:Nat):Int))=true:=rfl;simp only [z1,go_sem,simprocAttr]
  refine dZ [0,1,2,10,52] (σ:=List UInt8×List UInt8) (λq=>l=q.1++q.2) (λq=>q.2.length)
   (λq=>[(11,.p (.int .i64 q.1.length)),(53,.p (.int .i64 ((q.1.count a:Nat):Int)))])
   (λq=>[.bld 84 5 (.slice 1 q.1.length 0 q.1.length),.row 1 (gH (bs (repL a b q.1)))]) ([],l) rfl rfl ?_ ?_
  .simp only [List.count_nil,go_sem,simprocAttr]
  rintro ⟨done,rest⟩ e4
  dsimp only at e4;have hcnt:l.count a=done.count a+rest.count a:=by rw [e4,List.count_append]
  have hlen:=congrArg List.length e4;rw [aI] at hlen;have hle:((done.length:Nat):Int)<=((bs l).size:Int):=by rw [aq];omega
  have hex:(bs l).extract done.length (bs l).size=bs rest:=by
   rw [cZ,aq,qW]
   congr 1
   rw [e4];simp
  rcases oU (rest.count a) with hz | hp
  .have hlt:¬ (((done.count a:Nat):Int)<((k+1:Nat):Int)):=by omega
   simp only [hlt,decide_false,hle,hex,go_sem,simprocAttr];refine cy (nW (s:=bs rest) (j:=1) rfl rfl (by rw [kn,aq,iu]) (by decide) (by rw [aq];omega)) ?_;have hr:repL a b done++rest=repL a b l:=by rw [e4,yy,xg a b rest hz]
   have hq:done.length+(bs rest).size=(bs (repL a b l)).size:=by rw [aq,aq,iu];omega
   simp only [kD,gI,hr,hq,go_sem,simprocAttr];refine cy (uz (j:=1) (s:=bs (repL a b l)) rfl rfl (by rw [aq,iu];omega) (by rw [aq,iu];omega)) ?_;simp only [go_sem,simprocAttr]
  .obtain ⟨p,r,e5,e6,e7⟩:=OT a (l:=rest) (by omega);have hlt:(((done.count a:Nat):Int)<((k+1:Nat):Int)):=by omega
   have hrl:=congrArg List.length e5;simp only [aI,ct] at hrl;simp only [hlt,decide_true,hle,hex,go_sem,simprocAttr];refine ae (F8 (bs rest) a) rfl ?_;rw [gq,e7];have q1:IntKind.i64.wrap ((done.length:Int)+(p.length:Int))=((done.length+p.length:Nat):Int):=ba (by omega) (by simp [aw];omega) (by simp);have q2:((done.length+p.length:Nat):Int)<=((bs l).size:Int):=by rw [aq];omega
   have q3:(((done.length:Nat):Int)<=((done.length+p.length:Nat):Int)):=by omega
   have q4:(bs l).extract done.length (done.length+p.length)=bs p:=by
    rw [cZ]
    congr 1
    rw [e4,e5];simp [List.take_append]
   have q5:IntKind.i64.wrap (((done.length+p.length:Nat):Int)+1)=(((done++(p++[a])).length:Nat):Int):=ba (by omega) (by simp [aw];omega) (by simp;omega);have q6:IntKind.i64.wrap (((done.count a:Nat):Int)+1)=(((done++(p++[a])).count a:Nat):Int):=ba (by omega) (by simp [aw];omega) (by simp [e6]);simp only [q1,q2,q3,q4,go_sem,simprocAttr];refine cy (nW (s:=bs p) (j:=1) rfl rfl (by rw [kn,aq,iu]) (by decide) (by rw [aq];omega)) ?_;simp only [kD,gI,go_sem,simprocAttr];refine cy (nW (s:=bs [b]) (j:=1) rfl rfl (by rw [kn,aq,aq,aI,iu]) (by decide) (by rw [aq,aq];simp;omega)) ?_;simp only [kD,gI,aq,bh,q5,go_sem,simprocAttr];refine aZ (done++(p++[a]),r) (by rw [e4,e5];simp) (by show r.length<rest.length;omega) ?_ ?_
   .have h1:repL a b (done++(p++[a]))=repL a b done++p++[b]:=by
     rw [yy,yy,xg a b p e6,cE];simp [repL]
    have h2:(done++(p++[a])).length=done.length+p.length+1:=by simp;omega
    show _=[AObj.bld 84 5 (.slice 1 (done++(p++[a])).length 0 (done++(p++[a])).length),AObj.row 1 (gH (bs (repL a b (done++(p++[a])))))]
    rw [h1,h2]
   simp only [q6,go_sem,simprocAttr]
theorem yc (l) (a b) (hab:a≠b) (hl:l.length<=900000):ah TP 33 [.str (bs l),.str (bs [a]),.str (bs [b])] (.str (bs (repL a b l))):=by
 refine aa (ai (by kernel_rfl) rfl zca) rfl ?_;simp only [go_sem,simprocAttr];refine ae (O2 l a b hab hl) rfl ?_;simp only [go_sem,simprocAttr]
namespace Ch
def mL (i:Nat) (x:List UInt8):List UInt8:=bH ((i+1:Nat):Int)++[32]++repL 10 47 x++[10]
theorem C6 {i} {x} (hi:i<=50):(mL i x).length<=x.length+10:=by
 have:=nn (n:=((i+1:Nat):Int)) (by omega) (by omega);simp only [mL,aI,iu,bh];omega
def BO (l:List (List UInt8)):PV:=.func (.func 41) [] [.ptr 1 [bt l] 0 0]
theorem Sq (l):ah TP 23 [bt l] (BO l):=by
 refine cW (ai (by kernel_rfl) rfl zci) rfl ?_;simp only [BO,bt,go_sem,simprocAttr]
set_option maxHeartbeats 1000000 in
theorem OA (l) (hl:l.length<=40) (hw:∀ x,x∈l->x.length<=1000) (id) (h0) (Inv:List (List UInt8)->Heap->Prop)
  (hy:∀ done x rest h,l=done++x::rest->Inv done h->sT TP id [.p (.str (bs (mL done.length x)))] h (λr h'=>r=.ret (.p (.bool true))/\Inv (done++[x]) h')) (hi:Inv [] h0) :
  aC TP 41 [.ref .yl id,.p (.ptr 1 [bt l] 0 0)] h0 (λr h'=>r=.ret (.p (.tuple []))/\Inv l h'):=by
 refine aB (ai (by kernel_rfl) rfl zb5) rfl ?_;simp only [bt,go_sem,simprocAttr]
 refine dZ [0,5,6] (σ:=List (List UInt8)×List (List UInt8)×Heap) (λq=>l=q.1++q.2.1/\Inv q.1 q.2.2) (λq=>q.2.1.length)
  (λq=>[(7,.p (.int .i64 q.1.length))]) (λq=>q.2.2) ([],l,h0) ⟨rfl,hi⟩ rfl ?_ ?_
 .simp only [go_sem,simprocAttr]
 rintro ⟨done,rest,h⟩ ⟨e1,e2⟩
 dsimp only at e1 e2
 cases rest with
 |nil =>
  have hlt:¬ ((done.length:Int)<(l.length:Int)):=by rw [e1];simp
  simp only [hlt,decide_false,go_sem,simprocAttr];rw [aW] at e1;rw [e1]
  exact e2
 |cons x rest =>
  obtain ⟨hx,hlt⟩:=de e1;have hlen:=congrArg List.length e1;simp only [aI,ct] at hlen;have hnx:IntKind.i64.wrap ((done.length:Int)+1)=(((done++[x]).length:Nat):Int):=ba (by omega) (by simp [aw];omega) (by simp);have hn1:IntKind.i64.wrap ((done.length:Int)+1)=((done.length+1:Nat):Int):=ba (by omega) (by simp [aw];omega) (by simp);have hxl:=hw x (by rw [e1];simp);have hd:=nn (n:=((done.length+1:Nat):Int)) (by omega) (by omega);have hit:=mW (n:=((done.length+1:Nat):Int)) (by omega);have c1:(⟨#[32]⟩:ByteArray)=bs [32]:=rfl;have c2:(⟨#[10]⟩:ByteArray)=bs [10]:=rfl;have c3:(⟨#[47]⟩:ByteArray)=bs [47]:=rfl;have hyy:=hy done x rest h e1 e2;rw [show mL done.length x=bH ((done.length+1:Nat):Int)++[32]++repL 10 47 x++[10] from rfl] at hyy;generalize bH ((done.length+1:Nat):Int)=D at hd hit hyy;have q1:(bs (D)).size+(bs [32]).size<=dP:=by simp [aq,dP];omega
  have q2:(bs (D++[32])).size+(bs (repL 10 47 x)).size<=dP:=by simp [aq,dP,iu];omega
  have q3:(bs (D++[32]++repL 10 47 x)).size+(bs [10]).size<=dP:=by simp [aq,dP,iu];omega
  simp only [hlt,decide_true,hx,hn1,go_sem,simprocAttr];refine ae (xy ((done.length+1:Nat):Int) (by omega) (by omega)) rfl ?_;simp only [hit,c1,q1,gI,go_sem,simprocAttr];refine ae (yc x 10 47 (by decide) (by omega)) rfl ?_;simp only [c2,q2,q3,gI,go_sem,simprocAttr];refine pX hyy (λv h' hr=>?_) (λv h' hr=>?_)
  .obtain ⟨hr,hI⟩:=hr;cases hr;simp only [go_sem,simprocAttr];refine aZ (done++[x],rest,h') ⟨by rw [e1];simp,hI⟩ (j3 _) rfl ?_;simp only [hnx,go_sem,simprocAttr]
  .cases hr.1
def eZ (l:List (List UInt8)):List UInt8:=(l.mapIdx mL).flatten
theorem x9 (l) (x):eZ (l++[x])=eZ l++mL l.length x:=by
 unfold eZ;rw [List.mapIdx_concat];simp
theorem ya:∀ (n) (l r),l.length=n->(l++r).length<=40->(∀ x,x∈l++r->x.length<=400)->(eZ l).length<=410*n
 |0,l,r,h0,_,_=>by
  rw [uW h0]
  exact bM _
 |n+1,l,r,h0,h1,h2=>by
  rcases wU l with rfl | ⟨l,x,rfl⟩
  .cases h0
  rw [wZ] at h0 h1 h2 |-;have h0':l.length=n:=by simpa using h0
  have h3:=ya n l ([x]++r) h0' (by simpa using h1) (by simpa using h2);have h4:=h2 x (by simp);have h5:=C6 (i:=l.length) (x:=x) (by simp at h1;omega);rw [x9,aI];omega
theorem uL (l r) (h1:(l++r).length<=40) (h2:∀ x,x∈l++r->x.length<=400):(eZ l).length<=410*l.length:=ya _ l r rfl h1 h2
theorem OV (i) (x):(mL i x).length≠0:=by simp [mL]
theorem Co {l} {c} (h:fD l=.ok c):l.length<=400:=by
 unfold fD at h;split at h
 .cases h
 .omega
theorem JA {s} {q} {l} (hq:∀ x,x∈q.2.2->x.length<=400):∀ x,x∈(eE s q l).2.2->x.length<=400:=by
 unfold eE;split
 .exact hq
 .rename_i b a w hd;dsimp only;split
  .intro x hx;rcases ea.1 hx with hx | hx
   .exact hq x hx
   .simp only [fT] at hx;subst hx;unfold eh at hd;split at hd
    .cases hd
    .rename_i c hc;exact Co hc
  .exact hq
theorem AC {s}:∀ (d:List (List UInt8)) (q),(∀ x,x∈q.2.2->x.length<=400)->∀ x,x∈(d.foldl (eE s) q).2.2->x.length<=400
 |[],q,h=>h
 |l::d,q,h=>AC d (eE s q l) (JA h)
theorem Lv (s) (d):∀ x,x∈(bN s d).2.2->x.length<=400:=AC d _ (λx hx=>(by cases hx))
def uK (n:Nat):AV:=if n=0 then .p .nilslice else .slice 4 n 0 n
def pS (t:List UInt8):Heap:=if t.length=0 then [] else [.row 1 (gH (bs t))]
def sO (s:ChShop) (o:AObj) (t:List UInt8):Heap:=[.row 17 [.p s.pv],.bld 84 5 (uK t.length),.dblock,o]++pS t
def rI (s:ChShop) (ls:List (List UInt8)):PV:=if bz s ls=0 then .tuple [.str (bs (eZ (bN s ls).2.2)),.int .i64 0] else .tuple [.str (bs []),.int .i64 (bz s ls)]
set_option maxHeartbeats 2000000 in
theorem UU (s) (ls):ah TP 7 [s.pv,bt ls] (rI s ls):=by
 refine aa (ai (by kernel_rfl) rfl ok7) rfl ?_;simp only [go_sem,simprocAttr];refine ae (Ks s ls) rfl ?_;by_cases he:bz s ls=0;rotate_left
 .have hn:(bz s ls != 0)=true:=by simpa using he
  simp only [k8,if_neg he,hn,rI,go_sem,simprocAttr];rfl
 have hlen:(bN s ls).2.2.length<=40:=by
  have h1:=(Id s ls).2;unfold bz at he;split at he
  .split at he
   .cases he
   .omega
  .exact absurd he (by assumption)
 have hsh:=Lv s ls;simp only [k8,he,go_sem,simprocAttr];generalize hw0:(bN s ls).2.2=w at hlen hsh;refine ae (Sq w) rfl ?_;simp only [go_sem,simprocAttr]
 refine GA (f:=41) (args:=[.ref .yl 3,.p (.ptr 1 [bt w] 0 0)])
  (R:=λr h=>r=.ret (.p (.tuple []))/\∃ o,h=sO s o (eZ w))
  rfl (by simp only [BO,go_sem,simprocAttr]) dU (by kernel_rfl) (by kernel_rfl) (by kernel_rfl) (λoR oB oD hround=>?_) (λv h hr=>by cases hr.1)
 have hT1:∀ t o,(sO s o t)[3]?=some o:=λt o=>rfl;refine (OA w hlen (λx hx=>pn (hsh x hx) (by decide)) 3 _ (λdone h=>h=sO s oR (eZ done)) ?_ rfl).mono ?_
 .rintro done x rest h hd rfl
  have hcl:=uL done (x::rest) (by rw [<-hd];exact hlen) (by rw [<-hd];exact hsh);have hdl:done.length<=40:=by rw [hd] at hlen;simp at hlen;omega
  have hx1:=C6 (i:=done.length) (x:=x) (by omega);have hx2:=hsh x (by rw [hd];simp);have hx3:=OV done.length x;refine hround _ _ _ rfl (hT1 _ _) ?_;clear hround;rw [x9];generalize eZ done=t at hcl;generalize mL done.length x=y at hx1 hx3;have hty:(t++y).length≠0:=by rw [aI];omega
  by_cases ht:t.length=0
  .have ht':t=[]:=uW ht;subst ht';simp only [sO,uK,pS,ei,go_sem,simprocAttr];refine cy (xT (s:=bs y) rfl (by rw [aq];omega) (by rw [aq];exact hx3)) ?_;simp only [aq,go_sem,simprocAttr];refine ⟨rfl,?_⟩;rw [sO,uK,pS,if_neg hx3,if_neg hx3];rfl
  .simp only [sO,uK,pS,if_neg ht,go_sem,simprocAttr];refine cy (nW (s:=bs y) (j:=4) rfl rfl (by rw [kn,aq]) (by decide) (by rw [aq];omega)) ?_;simp only [aq,kD,gI,go_sem,simprocAttr];refine ⟨by rw [sO,pS,if_neg ht];rfl,?_⟩;rw [sO,uK,pS,if_neg hty,if_neg hty,aI];rfl
 .rintro r h ⟨rfl,rfl⟩
  refine ⟨⟨rfl,oR,rfl⟩,λv hv=>.inl ⟨hT1 _ _,?_⟩⟩;clear hround;have hcl:=uL w [] (by simpa using hlen) (by simpa using hsh);by_cases ht:(eZ w).length=0
  .have ht':eZ w=[]:=uW ht;rw [ht'];simp only [sO,uK,pS,ei,go_sem,simprocAttr];refine cy (Mp rfl) ?_;simp only [b7,go_sem,simprocAttr];rw [rI,if_pos he,hw0,ht'];rfl
  .simp only [sO,uK,pS,if_neg ht,go_sem,simprocAttr];refine cy (uz (j:=4) (s:=bs (eZ w)) (by rw [aq];rfl) rfl (by rw [aq];exact ht) (by rw [aq];omega)) ?_;simp only [b7,go_sem,simprocAttr];rw [rI,if_pos he,hw0]
end Ch
end Abs
end Go.Proofs.YtfafnkpfamgbbaaGreatDoor
