/-
  CONTRACTS: strings.Builder: a text written into one of one's own, and what it holds. No co
  CONTRACTS: look: a kind with its rates. No conditions but those in the theorems' heads.
-/
import Derived.Test.YtfafnkpfamgbbaaGreatDoorStrLibX
import Derived.Test.YtfafnkpfamgbbaaGreatDoorWxChkX
import Derived.Lib.Walk
import Derived.Lib.Builder
import Derived.Lib.UnsafeStr
import Derived.WalkKit
import Derived.Laws.Externs
import Derived.Test.YtfafnkpfamgbbaaGreatDoorAbsCutX
import Derived.Test.YtfafnkpfamgbbaaGreatDoorHrRatX
set_option linter.unusedSimpArgs false
set_option linter.unusedVariables false
open Go.Proofs.Tryz renaming prog->TP
namespace Go.Proofs.YtfafnkpfamgbbaaGreatDoor
namespace Abs
open Go.RowKit
set_option maxRecDepth 100000
theorem IX:(TP.info? 84).map (·.size)=some 2:=by kernel_rfl
theorem Sx:liesAt TP TP.depth 84 (2 / TP.cellsOf 84) 0 84 1=true:=by kernel_rfl
set_option maxHeartbeats 1000000 in
theorem u6 (b) (w) (h0:w.cell? ⟨b,0,none⟩=some (.pointer (some ⟨b,0,none⟩))) :
  Calls TP 42 #[.pointer (some ⟨b,0,none⟩)] w λe w'=>e=.returned (.tuple #[])/\w'=w:=by
 obtain ⟨j,hj,_⟩:=bT.1 IX
 go_enter Tryz.func42,Tryz.ntmps42
 go_wp2
 rw [Lib.run_neq_ptr_same w _ Tryz.underlying81 hj]
 go_wp2
 go_end0
 exact ⟨rfl,rfl⟩
set_option maxHeartbeats 1000000 in
theorem tt (b) (w) (h0:w.cell? ⟨b,0,none⟩=some (.pointer none)) (hsh:w.shape? b=some (84,2)) (hfz:w.frozen? ⟨b,0,none⟩=false) :
  Calls TP 42 #[.pointer (some ⟨b,0,none⟩)] w λe w'=>e=.returned (.tuple #[])/\w'=w.setCell ⟨b,0,none⟩ (.pointer (some ⟨b,0,none⟩)):=by
 obtain ⟨j,hj,hjs⟩:=bT.1 IX
 go_enter Tryz.func42,Tryz.ntmps42
 go_wp2
 rw [Lib.run_to_unsafe w ⟨b,0,none⟩ Tryz.underlying81 Tryz.underlying147 hj (by rw [hjs];decide) hsh (Nat.zero_lt_succ 1)];simp only [Result.andThen];rw [Oper.upon_value]
 go_wp2
 rw [run_callFunc_extern Tryz.func64 (by kernel_rfl) (by kernel_rfl) (by kernel_rfl) (e:=Extern.AbiNoEscape.same) (by kernel_rfl)];rw [Lib.run_noEscape];simp only [Result.andThen];rw [Oper.upon_value]
 go_wp2
 rw [Lib.run_from_unsafe w ⟨b,0,none⟩ Tryz.underlying147 Tryz.underlying81 hj hsh Sx];simp only [Result.andThen];rw [Oper.upon_value]
 go_wp2
 go_end0
 exact ⟨rfl,rfl⟩
theorem gr {w:World} {b} {cs} {T} {fr} (hb:w.heap[b]?=some (.cells cs T fr)) (j):w.cell? ⟨b,j,none⟩=cs[j]?:=by
 simp [World.cell?,hb]
theorem Pg (b) (w) (p v) (hb:w.heap[b]?=some (.cells #[p,v] 84 (0,0))) (hp:p=.pointer none\/p=.pointer (some ⟨b,0,none⟩)) :
  Calls TP 42 #[.pointer (some ⟨b,0,none⟩)] w λe w'=>e=.returned (.tuple #[])/\OnlyB b w w'/\w'.heap[b]?=some (.cells #[.pointer (some ⟨b,0,none⟩),v] 84 (0,0)):=by
 rcases hp with rfl | rfl
 .refine (tt b w (by rw [gr hb];rfl) (by simp [World.shape?,hb]) (by simp [World.frozen?,hb])).mono ?_
  rintro e w' ⟨rfl,rfl⟩
  refine ⟨rfl,mE _ _ _ _,?_⟩;simp [World.setCell,tG,hb]
 .refine (u6 b w (by rw [gr hb];rfl)).mono ?_
  rintro e w' ⟨rfl,rfl⟩
  exact ⟨rfl,OnlyB.refl _ _,hb⟩
theorem xD {P} {ops} {rest} {o} {a} {w} {Q} (hgd:o.guard=none) (sl x) (t u)
  (ho:o.op=.call { callee:=.builtin .append,args:=#[sl,x],argTypes:=#[t,u] }) (v y v') (w') (hs:a.eval sl=v) (hx:a.eval x=y)
  (hr:∀ ty,(Builtin.append_ #[t,u] ty #[v,y]).run P w=.ok v' w') (h:wpList P ops Q rest (a.put o.dst v') w'):wpList P ops Q (o::rest) a w:=by
 refine wpList_plain hgd λK hK=>?_;unfold Oper.wp execOp;simp only [ho,resolve,invoke,builtin,Sem.run_bind,Sem.run_pure,cc,List.map_toArray,bB,cm,hs,hx,hr o.type];exact hK _ _ h
set_option maxHeartbeats 2000000 in
theorem Pe (b) (w) (p v) (s) (R:World->Prop) (hb:w.heap[b]?=some (.cells #[p,v] 84 (0,0))) (hp:p=.pointer none\/p=.pointer (some ⟨b,0,none⟩))
  (hv:∀ w1,OnlyB b w w1->w1.heap[b]?=some (.cells #[.pointer (some ⟨b,0,none⟩),v] 84 (0,0))->∃ w2 v2 p2 v0,(∀ ty,(Builtin.append_ #[82,9] ty #[v,.string s]).run TP w1=.ok v2 w2)/\w2.heap[b]?=some (.cells #[p2,v0] 84 (0,0)) /\
   (∃ a n c,v2=.slice a n c)/\R (w2.setCell ⟨b,1,none⟩ v2)) :
  Calls TP 24 #[.pointer (some ⟨b,0,none⟩),.string s] w λe w'=>e=.returned (.tuple #[.int .i64 s.size,.nilIface])/\R w':=by
 go_enter Tryz.func24,Tryz.ntmps24
 go_wp2_with (go_at_call 42;refine (Pg b _ p v hb hp).mono ?_)
 rintro e w1 ⟨rfl,ho,hb1⟩
 obtain ⟨w2,v2,p2,v0,hap,hb2,⟨a,n,c,rfl⟩,hR⟩:=hv w1 ho hb1;have c0:w1.cell? ⟨b,0,none⟩=some (.pointer (some ⟨b,0,none⟩)):=by rw [gr hb1];rfl
 have c1:w1.cell? ⟨b,1,none⟩=some v:=by rw [gr hb1];rfl
 have d0:w2.cell? ⟨b,0,none⟩=some p2:=by rw [gr hb2];rfl
 have d1:w2.cell? ⟨b,1,none⟩=some v0:=by rw [gr hb2];rfl
 have f1:w2.frozen? ⟨b,1,none⟩=false:=by simp [World.frozen?,hb2]
 go_wp2_with (at_builtin;refine xD rfl _ _ 82 9 rfl v (.string s) (.slice a n c) w2 rfl rfl hap ?_)
 go_ret2
 exact ⟨rfl,hR⟩
def gH (s:ByteArray):List AV:=s.data.toList.map λb:UInt8=>AV.p (PV.int .u8 (b.toNat:Int))
theorem kn (s):(gH s).length=s.size:=by unfold gH;rw [dL];exact yj
theorem VR:eQ TP 9=true:=by kernel_rfl
theorem CU {h h1} {i} {x x'} {s} (hi:h[i]?=some (.bld 84 5 x)) (hs0:s.size<=aw)
  (hx:x=.p .nilslice\/∃ j n xs,x=.slice j n 0 n/\h[j]?=some (.row 1 xs)/\xs.length=n/\n+s.size<=aw)
  (hap:tC TP 82 9 x (.p (.str s)) h=.val x' h1) (hi1:h1[i]?=some (.bld 84 5 x)) (hx':x'=.p .nilslice\/∃ j n,x'=.slice j n 0 n) :
  aC TP 24 [.ref .bl i,.p (.str s)] h (λr h'=>r=.ret (.p (.tuple [.int .i64 s.size,.niliface]))/\h'=h1.set i (.bld 84 5 x')):=by
 intro M0 m w cargs hS ha;have hn:=ha.1;have ha0:=ha.2 0 _ rfl;have ha1:=ha.2 1 _ rfl
 obtain ⟨c0,c1,rfl⟩:∃ c0 c1,cargs=#[c0,c1]:=⟨cargs.getD 0 undef,cargs.getD 1 undef,by
  apply j6
  .simpa using hn
  .intro i h1 h2;have:i=0\/i=1:=by simp at h2;omega
   rcases this with rfl | rfl<;>simp [h1]⟩
 have ha1':RepP (Avoid M0 m) w c1 (.str s):=ha1;cases ha1';obtain ⟨b,p,v,hm,hb,hp,hxf,hr,hsh⟩:=hS.obj i _ hi;have hm':m.getD i none=some b:=hm;obtain rfl:c0=.pointer (some ⟨b,0,none⟩):=by
  rcases ha0.2 with hd | ⟨_,b',hb',hv⟩
  .have hd':h[i]?=some .dead:=hd;rw [hi] at hd';cases hd'
  .have hb2:m.getD i none=some b':=hb';rw [hm'] at hb2;cases hb2;exact hv
 have hb0:w.heap[b]?=some (.cells #[p,v] 84 (0,0)):=hb;refine ⟨(λw'=>jn Tryz.func24 zch _ w'),?_⟩;refine (Pe b w p v s (λw'=>∃ m',Ev h.length ⟨m,h,w⟩ ⟨m',h1.set i (.bld 84 5 x'),w'⟩/\HOk TP M0 ⟨m',h1.set i (.bld 84 5 x'),w'⟩) hb0 hp ?_).mono ?_
 .intro w1 ho hb1;obtain ⟨k1,e1⟩:=AS (S:=⟨m,h,w⟩) hS hi hm' hb0 ho hb1 (.inr rfl) hxf hr hsh;rw [show (Mem.mk m h w).h.set i (.bld 84 5 x)=h from ov hi] at k1 e1;have hr1:cH M0 ⟨m,h,w1⟩ v x:=e1.rep0 hr (gA hr);have hvx:Rep M0 ⟨m,h,w1⟩ v x:=by
   rcases hxf with rfl | ⟨j,n,rfl⟩
   .exact hr1
   .exact hr1
  have hap1:=Dn (P:=TP) (T:=82) (U:=9) (ty:=0) k1 hvx (show Rep M0 ⟨m,h,w1⟩ (.string s) (.p (.str s)) from RepP.str s);rw [show (Mem.mk m h w1).h=h from rfl,hap] at hap1;obtain ⟨S2,v2,hS2,hrun,e2,k2,hr2⟩:=hap1;obtain ⟨m2,h2,w2⟩:=S2;obtain rfl:h1=h2:=hS2.symm;have hrun':∀ ty,(Builtin.append_ #[82,9] ty #[v,.string s]).run TP w1=.ok v2 w2:=λty=>hrun;obtain ⟨b2,p2,v0,hm2,hb2,hp2,_,_,_⟩:=k2.obj i _ hi1;have hbb:b2=b:=by
   obtain ⟨o',ho',hoe⟩:=e2.obj i _ (aE.1 hi).1 hi;have ho2:h1[i]?=some o':=ho';rw [hi1] at ho2;cases ho2;rcases hoe with he | ⟨_,_,_,he,_⟩ | ⟨_,_,he⟩
   .cases he
   .cases he
   .have:m2.getD i none=m.getD i none:=he;rw [hm'] at this;have hm2':m2.getD i none=some b2:=hm2;rw [this] at hm2';cases hm2';rfl
  subst hbb;have hb2':w2.heap[b2]?=some (.cells #[p2,v0] 84 (0,0)):=hb2;have hsl:∃ a n c,v2=.slice a n c:=by
   rcases hx' with rfl | ⟨j,n,rfl⟩
   .have h':RepP (Avoid M0 m2) w2 v2 .nilslice:=hr2;cases h';exact ⟨_,_,_,rfl⟩
   .exact hr2.1
  have hsh2:=Gu (P:=TP) (T:=82) (U:=9) (e:=5) (ty:=0) k1 hx hs0 hr1 (by kernel_rfl) VR (by kernel_rfl) (by kernel_rfl) (by kernel_rfl)
   (λa n c hv=>by
    obtain ⟨N,hN⟩:=hsh a n c hv
    exact ⟨N,(e1.fr.shape _ (rg hN)).trans hN⟩) (hrun' 0) (λc hc=>e2.fr.shape c hc)
  have hr2':cH M0 ⟨m2,h1,w2⟩ v2 x':=by
   rcases hx' with rfl | ⟨j,n,rfl⟩
   .exact hr2
   .exact hr2
  refine ⟨w2,v2,p2,v0,hrun',hb2',hsl,m2,?_⟩;obtain ⟨k3,e3⟩:=AS (S:=⟨m2,h1,w2⟩) (w':=w2.setCell ⟨b2,1,none⟩ v2) (p':=p2) (v':=v2) (x':=x') k2 hi1 hm2 hb2' (mE _ _ _ _) (by simp [World.setCell,tG,hb2']) hp2 hx' hr2' hsh2;exact ⟨(e1.trans e2).trans (e3.mono (e2.len (bM _))),k3⟩
 .rintro e w' ⟨rfl,m',hev,hk⟩
  exact ⟨.ret (.p (.tuple [.int .i64 s.size,.niliface])),_,m',⟨rfl,rfl⟩,hev,hk,xf (.int _ _) .niliface⟩
theorem E8 (w) (p) (n):OnlyB p.block w (w.freeze p n):=by
 unfold World.freeze;split
 .exact OnlyB.refl _ _
 .exact ⟨rfl,rfl,rfl,by simp,λk hk=>by simp only [tG];rw [if_neg (Ne.symm hk)]⟩
theorem FJ (w:World) (p) (n c):(w.freeze p n).shape? c=w.shape? c:=by
 unfold World.freeze;split
 .rfl
 .unfold World.shape?;simp only [tG];by_cases hc:p.block=c
  .rw [if_pos hc];subst hc
   cases w.heap[p.block]? with
   |none=>rfl
   |some o=>cases o<;>rfl
  .rw [if_neg hc]
theorem QT:TP.cellsOf 5=1:=by kernel_rfl
set_option maxHeartbeats 2000000 in
theorem KJ (b g cap N) (w) (p) (l) (h0:l≠[]) (hb:w.heap[b]?=some (.cells #[p,.slice (some ⟨g,0,none⟩) l.length cap] 84 (0,0)))
  (hg:w.shape? g=some (5,N)) (hN:l.length<=N) (hc:l.length<=cap) (h63:l.length<=9223372036854775807) (hcell:∀ j x,l[j]?=some x->w.cell? ⟨g,j,none⟩=some (.int .u8 x.toNat)) :
  Calls TP 25 #[.pointer (some ⟨b,0,none⟩)] w λe w'=>e=.returned (.string ⟨l.toArray⟩)/\w'=w.drew.freeze ⟨g,0,none⟩ l.length:=by
 have hl0:l.length≠0:=by simpa using h0
 have c1:w.drew.cell? ⟨b,1,none⟩=some (.slice (some ⟨g,0,none⟩) l.length cap):=by
  have:w.drew.heap[b]?=some (.cells #[p,.slice (some ⟨g,0,none⟩) l.length cap] 84 (0,0)):=hb;rw [gr this];rfl
 have hSD:(Builtin.unsafeSliceData_ #[82] 121 #[.slice (some ⟨g,0,none⟩) l.length cap]).run TP w.drew=.ok (.pointer (some ⟨g,0,none⟩)) w.drew :=
  Lib.run_unsafeSliceData_row _ _ _ _ _ _ (by omega)
 have hUS:(Builtin.unsafeString_ #[121,3] 9 #[.pointer (some ⟨g,0,none⟩),.int .i64 l.length]).run TP w.drew=.ok (.string ⟨l.toArray⟩) (w.drew.freeze ⟨g,0,none⟩ l.length) :=
  Lib.run_unsafeString_row w.drew 121 3 9 5 Tryz.underlying121 QT g N hg l h0 hN h63 (λj x hx=>by rw [fm,jv];exact hcell j x hx)
 go_enter Tryz.func25,Tryz.ntmps25
 go_wp2
 go_region
 all_goals (go_wp2;go_ret;exact ⟨rfl,rfl⟩)
set_option maxHeartbeats 2000000 in
theorem KL (b) (w) (p) (hb:w.heap[b]?=some (.cells #[p,.slice none 0 0] 84 (0,0))) :
  Calls TP 25 #[.pointer (some ⟨b,0,none⟩)] w λe w'=>e=.returned (.string .empty)/\w'=w.drew:=by
 have c1:w.drew.cell? ⟨b,1,none⟩=some (.slice none 0 0):=by
  have:w.drew.heap[b]?=some (.cells #[p,.slice none 0 0] 84 (0,0)):=hb;rw [gr this];rfl
 have hUS:∀ W:World,(Builtin.unsafeString_ #[121,3] 9 #[.pointer none,.int .i64 0]).run TP W=.ok (.string .empty) W:=λW=>Lib.run_unsafeString_none W _ _ _ none;have hSD:(Builtin.unsafeSliceData_ #[82] 121 #[.slice none 0 0]).run TP w.drew=.ok (.pointer none) w.drew:=rfl
 go_enter Tryz.func25,Tryz.ntmps25
 go_wp2
 go_region
 all_goals (go_wp2;go_ret;exact ⟨rfl,rfl⟩)
theorem uz {h} {i j} {s} (hi:h[i]?=some (.bld 84 5 (.slice j s.size 0 s.size))) (hj:h[j]?=some (.row 1 (gH s))) (h0:s.size≠0) (h63:s.size<=9223372036854775807) :
  aC TP 25 [.ref .bl i] h (λr h'=>r=.ret (.p (.str s))/\h'=h.set j .dead):=by
 intro M0 m w cargs hS ha;have hn:=ha.1;have ha0:=ha.2 0 _ rfl
 obtain ⟨c0,rfl⟩:∃ c0,cargs=#[c0]:=⟨cargs.getD 0 undef,by
  apply j6
  .simpa using hn
  .intro i h1 h2;have:i=0:=by simp at h2;omega
   subst this
   simp [h1]⟩
 obtain ⟨b,p,v,hm,hb,hp,hxf,hr,hsh⟩:=hS.obj i _ hi;have hm':m.getD i none=some b:=hm;obtain rfl:c0=.pointer (some ⟨b,0,none⟩):=by
  rcases ha0.2 with hd | ⟨_,b',hb',hv⟩
  .have hd':h[i]?=some .dead:=hd;rw [hi] at hd';cases hd'
  .have hb2:m.getD i none=some b':=hb';rw [hm'] at hb2;cases hb2;exact hv
 have hb0:w.heap[b]?=some (.cells #[p,v] 84 (0,0)):=hb;refine ⟨λw'=>Go.Proofs.enters_of Tryz.func25 (by kernel_rfl) rfl _ w',?_⟩;have hlen:s.data.toList.length=s.size:=yj;rcases cX hr.2 hj (kn s) with ⟨h1,h2,h3,_⟩ | ⟨g,cap,T',N,hmg,rfl,hcap,hsh2,hfit,hreach⟩ | ⟨_,rfl,h00⟩
 .exact absurd h1 h0
 .obtain ⟨C,T2,hb2,hsize2,hel2⟩:=fp hS hj hmg;have hgs:w.shape? g=some (5,C.size):=by
   obtain ⟨N',hN'⟩:=hsh _ _ _ rfl;have hN2:w.shape? g=some (5,N'):=hN';have hb3:w.heap[g]?=some (.cells C T2 (0,0)):=hb2;unfold World.shape? at hN2 |-;rw [hb3] at hN2 |-;simp at hN2 |-;exact hN2.1
  have hsz:s.size<=C.size:=by
   have:(gH s).length*1<=C.size:=hsize2;rw [kn] at this;omega
  have hv:(Value.slice (some ⟨g,0*1,none⟩) s.size cap)=.slice (some ⟨g,0,none⟩) s.data.toList.length cap:=by rw [Ji,hlen]
  rw [hv] at hb0;have hcells:∀ (k:Nat) (x:UInt8),s.data.toList[k]?=some x->w.cell? ⟨g,k,none⟩=some (.int .u8 x.toNat):=by
   intro k x hx;obtain ⟨cs,a1,a2,a3⟩:=hel2 k (.p (.int .u8 x.toNat)) (by simp [gH,hx]);cases a1;have a4:=(a3 0 _ rfl).2;have a5:RepP (Avoid M0 m) w (C.getD (k*1+0) undef) (.int .u8 x.toNat):=a4;have hk:k<C.size:=by have:=(aE.1 hx).1;omega
   have hb3:w.heap[g]?=some (.cells C T2 (0,0)):=hb2;rw [jo hb3 k hk];rw [Nat.mul_one,lY] at a5;generalize C.getD k undef=z at a5 |-;cases a5;rfl
  refine (KJ b g cap C.size w p s.data.toList (by intro hc;rw [hc] at hlen;simp at hlen;omega) hb0 hgs (by omega) (by rw [hlen];exact hcap.1) (by omega) hcells).mono ?_
  rintro e w' ⟨rfl,rfl⟩
  have hof:OnlyB g w (w.drew.freeze ⟨g,0,none⟩ s.data.toList.length):=by
   have:=E8 w.drew ⟨g,0,none⟩ s.data.toList.length;exact ⟨this.os,this.tape,this.output,this.size,this.block⟩
  obtain ⟨hk,hev⟩:=GY (S:=⟨m,h,w⟩) hS j (w':=w.drew.freeze ⟨g,0,none⟩ s.data.toList.length)
   ⟨hof.os,hof.tape,hof.output,DZ hof.size.symm,λc _ hc=>hof.block c (λe=>hc (e▸aL (cA hmg))),λc _=>FJ w.drew _ _ c⟩
   (λx bl hx hbl=>hof.block bl λe=>hx (hS.inj x j bl (cA hbl) (e▸cA hmg)))
  exact ⟨.ret (.p (.str s)),_,m,⟨rfl,rfl⟩,hev,hk,RepP.str s⟩
 .exact absurd h00 h0
theorem Mp {h} {i} (hi:h[i]?=some (.bld 84 5 (.p .nilslice))):aC TP 25 [.ref .bl i] h (λr h'=>r=.ret (.p (.str .empty))/\h'=h):=by
 intro M0 m w cargs hS ha;have hn:=ha.1;have ha0:=ha.2 0 _ rfl
 obtain ⟨c0,rfl⟩:∃ c0,cargs=#[c0]:=⟨cargs.getD 0 undef,by
  apply j6
  .simpa using hn
  .intro i h1 h2;have:i=0:=by simp at h2;omega
   subst this
   simp [h1]⟩
 obtain ⟨b,p,v,hm,hb,hp,hxf,hr,hsh⟩:=hS.obj i _ hi;have hm':m.getD i none=some b:=hm;obtain rfl:c0=.pointer (some ⟨b,0,none⟩):=by
  rcases ha0.2 with hd | ⟨_,b',hb',hv⟩
  .have hd':h[i]?=some .dead:=hd;rw [hi] at hd';cases hd'
  .have hb2:m.getD i none=some b':=hb';rw [hm'] at hb2;cases hb2;exact hv
 have hv:RepP (Avoid M0 m) w v .nilslice:=hr;cases hv;have hb0:w.heap[b]?=some (.cells #[p,.slice none 0 0] 84 (0,0)):=hb;refine ⟨λw'=>Go.Proofs.enters_of Tryz.func25 (by kernel_rfl) rfl _ w',(KL b w p hb0).mono ?_⟩
 rintro e w' ⟨rfl,rfl⟩
 exact ⟨.ret (.p (.str .empty)),_,m,⟨rfl,rfl⟩,Ev.drew _ ⟨m,h,w⟩,HOk.drew hS,RepP.str _⟩
set_option maxRecDepth 4000
structure HrKindOk (k:HrKind):Prop where
 lo:1<=k.weight.lo
 le:k.weight.lo<=k.weight.hi
 hi:k.weight.hi<=10000000
 rest:0<=k.rest
 less:k.rest<k.weight.lo
 name:nameOk k.name=true
theorem fF {α} {f:List ByteArray->α->Int} {nm}:∀ {l} {before},firstErr f nm l before=none->∀ (a) (x) (r),l=a++x::r->f (before++a.map nm) x=0
 |[],_,_,a,x,r,e=>by simp at e
 |y::l,before,h,a,x,r,e=>by
  rw [firstErr] at h;split at h
  .rename_i h0
   cases a with
   |nil =>
    obtain ⟨hz,_⟩:=Bd e;subst hz
    simpa using h0
   |cons z a =>
    obtain ⟨hz,e'⟩:=Bd e;subst hz;have:=fF h a x r e';simpa using this
  .cases h
theorem ic {α} {f:List ByteArray->α->Int} {nm}:∀ {l} {before} {i e},firstErr f nm l before=some (i,e)->e≠0
 |[],_,_,_,h=>by cases h
 |y::r,before,i,e,h=>by
  rw [firstErr] at h;split at h
  .exact ic h
  .rename_i h0;cases h;exact h0
theorem NR {α:Type} {l:List α} {x} (h:x∈l):∃ a r,l=a++x::r:=Nv h
theorem mH {s} (h:(hrCheck s).2.2=0):firstErr bR (·.name) s.kinds []=none/\firstErr cC (·.name) s.rules []=none/\0<=s.margin/\s.margin<=500:=by
 unfold hrCheck at h;split at h
 .split at h
  .rename_i h2;unfold iD at h;split at h
   .rename_i i e he;exact absurd h (ic he)
   .rename_i he;split at h
    .rename_i i e he2;exact absurd h (ic he2)
    .rename_i he2;exact ⟨he,he2,by simpa [ar] using h2⟩
  .cases h
 .cases h
theorem Ff {before} {s} (h:am before s=0):nameOk s=true/\∀ b,b∈before->b≠s:=by
 unfold am at h;split at h
 .rename_i h1;split at h
  .cases h
  .rename_i h2;refine ⟨h1,λb hb e=>h2 ?_⟩;rw [DW];exact ⟨b,hb,(pk _ _).2 e⟩
 .cases h
theorem pI {s} (h:(hrCheck s).2.2=0) {k} (hk:k∈s.kinds):HrKindOk k:=by
 obtain ⟨a,r,e⟩:=NR hk;have:=fF (mH h).1 a k r e;unfold bR at this;split at this
 .rename_i h0;unfold eb at this;split at this
  .rename_i h1;split at this
   .cases this
   .rename_i h2;simp [ar] at h1 h2;exact ⟨by omega,by omega,by omega,by omega,by omega,(Ff h0).1⟩
  .cases this
 .contradiction
theorem vY {s} (h:(hrCheck s).2.2=0) {i j:Nat} {a b} (hi:s.kinds[i]?=some a) (hj:s.kinds[j]?=some b) (hn:a.name=b.name):i=j:=by
 have key:∀ (i j:Nat) (a b:HrKind),s.kinds[i]?=some a->s.kinds[j]?=some b->a.name=b.name->i<j->False:=by
  intro i j a b hi hj hn hij;have hjl:=(aE.1 hj).1;have e:s.kinds=s.kinds.take j++b::s.kinds.drop (j+1):=by
   have h1:=oV hjl;rw [(aE.1 hj).2] at h1;rw [<-h1,kZ]
  have:=fF (mH h).1 _ b _ e;unfold bR at this;split at this
  .rename_i h0;refine (Ff h0).2 a.name ?_ hn;rw [oq,ec];refine ⟨a,aL (i:=i) ?_,rfl⟩;rw [jG,if_pos hij];exact hi
  .contradiction
 rcases Nz i j with h1 | h1 | h1
 .exact (key i j a b hi hj hn h1).elim
 .exact h1
 .exact (key j i b a hj hi hn.symm h1).elim
theorem wi {t} (hok:TestOk t):0<=(dH t).1.lo/\0<=(dH t).1.hi/\(dH t).1.lo<=601200000/\(dH t).1.hi<=601200000:=by
 have hb:=zN hok;have key:∀ p,p∈fe t->p.1.down<=601200000/\p.2.up<=601200000:=by
  intro p hp;obtain ⟨q,hq,rfl⟩:=(LX t p).1 hp;have hB:=mT hok _ hp;obtain ⟨b1,b2⟩:q.1∈t.marks/\q.2∈t.marks:=by
   have key:∀ l:List HrMark,∀ q,q∈u0 l->q.1∈l/\q.2∈l:=by
    intro l
    induction l with
    |nil=>intro q hq;cases hq
    |cons x r ih =>
     intro q hq;rw [u0,ea,ec] at hq;rcases hq with ⟨y,hy,rfl⟩ | hq
     .exact ⟨by simp,by simp [hy]⟩
     .have:=ih q hq;exact ⟨by simp [this.1],by simp [this.2]⟩
   exact key _ q hq
  have m1:=hok.all _ b1;have m2:=hok.all _ b2;have he:=hok.err;have hd:0<q.2.minute-q.1.minute:=hB.2.2.1;refine ⟨?_,(Frac.up_le hB.2.2.2 _).2 ?_⟩
  .refine Int.le_of_lt_add_one (Int.lt_of_not_ge λh=>?_);have h:=(Frac.down_le hB.2.2.1 _).1 h;simp only [lP] at h;have:(601200000+1)*1<=(601200000+1)*(q.2.minute-q.1.minute):=tJ (by omega) (by omega);omega
  .simp only [lP];have:(601200000)*1<=(601200000)*(q.2.minute-q.1.minute):=tJ (by omega) (by omega);omega
 obtain ⟨⟨⟨p,hp,e1⟩,_⟩,⟨q,hq,e2⟩,_⟩:=hb;have k1:=(key p hp).1;have k2:=(key q hq).2;rw [e1] at k1;rw [e2] at k2;simp only [dH,LU];refine ⟨?_,?_,?_,?_⟩<;>split<;>omega
theorem BB {t} (hok:TestOk t) (hp:iv t=true):(dH t).1.lo<=(dH t).1.hi:=by
 have hr:=yD hok;have hle:(ef t).1.le (ef t).2:=by
  rw [iv,dH] at hp;dsimp only at hp;rw [zt,Frac.lt_false] at hp;exact hp
 have h1:(ef t).1.down<=(ef t).2.up:=by
  have a1:(ef t).1.down*(ef t).1.below<=(ef t).1.top:=(Frac.down_le hr.2.2.1 _).1 (pZ _);have a2:(ef t).2.top<=(ef t).2.up*(ef t).2.below:=(Frac.up_le hr.2.2.2 _).1 (pZ _);have b1:Frac.le ⟨(ef t).1.down,1⟩ (ef t).1:=(Frac.int_le _ _).2 a1;have b2:Frac.le (ef t).2 ⟨(ef t).2.up,1⟩:=(Frac.le_int _ _).2 a2;have:=Frac.le_trans Int.one_pos hr.2.2.2 Int.one_pos (Frac.le_trans Int.one_pos hr.2.2.1 hr.2.2.2 b1 hle) b2;simpa [Frac.le] using this
 simp only [dH,LU];split<;>split<;>omega
structure HrK where
 k:HrKind
 rates:Span
def HrK.pv (x:HrK):PV:=.agg [.str x.k.name,.int .i64 x.k.weight.lo,.int .i64 x.k.weight.hi,.int .i64 x.k.rest,.int .i64 x.rates.lo,.int .i64 x.rates.hi]
attribute [go_sem] HrK.pv
def ly:HrKind:=⟨⟨#[]⟩,⟨0,0⟩,0⟩
def ki (r q:Span):Span:=if r.lo<0 then q else ⟨if q.lo<r.lo then q.lo else r.lo,if r.hi<q.hi then q.hi else r.hi⟩
def rz (at':Int):Span->List HrTest->Span
 |r,[]=>r
 |r,t::l=>rz at' (if t.kind=at'/\iv t=true then ki r (dH t).1 else r) l
def eP (s:HrShop) (l:List HrTest) (at':Int):Span:=rz at' ⟨-1,0⟩ l
def fw (m:Int) (r:Span):Span:=⟨Frac.down ⟨r.lo*(1000-m),1000⟩,Frac.up ⟨r.hi*(1000+m),1000⟩⟩
def bv (s:HrShop) (l:List HrTest) (at':Int):HrK×Int :=
 if dg s l=0 then
  match (if ar at' 0 ((s.kinds.length:Int)-1)=true then s.kinds[at'.toNat]? else none) with
  |none=>(⟨ly,⟨0,0⟩⟩,4)
  |some k =>
   if (eP s l at').lo<0 then (⟨k,eP s l at'⟩,9)
   else if (fw s.margin (eP s l at')).hi=0 then (⟨k,fw s.margin (eP s l at')⟩,8)
   else (⟨k,fw s.margin (eP s l at')⟩,0)
 else (⟨ly,⟨0,0⟩⟩,dg s l)
def GK (r:Span):Prop:=(r=⟨-1,0⟩)\/(0<=r.lo/\0<=r.hi/\r.lo<=601200000/\r.hi<=601200000)
theorem Ac {r q} (hr:GK r) (hq:0<=q.lo/\0<=q.hi/\q.lo<=601200000/\q.hi<=601200000):GK (ki r q):=by
 unfold ki;rcases hr with rfl | hr
 .rw [if_pos (by decide)];exact .inr hq
 .rw [if_neg (by omega)];refine .inr ⟨?_,?_,?_,?_⟩<;>dsimp only<;>split<;>omega
theorem rd {nk}:∀ {l},cV nk l=0->∀ t,t∈l->b9 nk t=0
 |[],_,_,h=>by cases h
 |x::l,h,t,ht=>by
  rw [cV] at h;split at h
  .rename_i h0;rcases bw.1 ht with rfl | ht
   .exact h0
   .exact rd h t ht
  .contradiction
theorem At {s} {l} (h:dg s l=0):(hrCheck s).2.2=0/\l.length<=8/\cV s.kinds.length l=0:=by
 unfold dg at h;split at h
 .rename_i h0;split at h
  .cases h
  .exact ⟨h0,by omega,h⟩
 .contradiction
set_option maxHeartbeats 2000000 in
theorem Kz (s) (l) (at'):ah TP 258 [s.pv,.slice 3 (l.map HrTest.pv) false,.int .i64 at'] (.tuple [(bv s l at').1.pv,.int .i64 (bv s l at').2]):=by
 refine aa (ai (by kernel_rfl) rfl Xf) rfl ?_;simp only [go_sem,simprocAttr];refine ae (ah.argless (args':=[s.pv,.nilslice]) (oK s [] false (by simp)) ⟨.inl rfl,.inr ⟨rfl,3,rfl⟩,trivial⟩) rfl ?_;simp only [go_sem,simprocAttr];have hop:cd s []=(hrCheck s).2.2:=by
  unfold cd;split
  .rename_i h;rw [h];rfl
  .rfl
 cases h0:(cd s []==0)
 .have h0':¬ (hrCheck s).2.2=0:=by rw [<-hop];simpa using h0
  have h0n:((hrCheck s).2.2 != 0)=true:=by simpa using h0'
  have h0b:((hrCheck s).2.2==0)=false:=by simpa using h0'
  have hsp:bv s l at'=(⟨ly,⟨0,0⟩⟩,(hrCheck s).2.2):=by
   have:dg s l=(hrCheck s).2.2:=by rw [dg,if_neg h0']
   rw [bv,this,if_neg h0']
  rw [hsp];simp only [hop,h0n,h0b,ly,go_sem,simprocAttr]
 have h0':(hrCheck s).2.2=0:=by rw [<-hop];simpa using h0
 have hk:=mG h0';have hm:=mH h0';have hz:cd s []=0:=by rw [hop,h0']
 simp only [hz,go_sem,simprocAttr];cases h8:decide ((8:Int)<(l.length:Int));rotate_left
 .have h8':8<l.length:=by simp at h8;omega
  have hsp:bv s l at'=(⟨ly,⟨0,0⟩⟩,3):=by
   have:dg s l=3:=by rw [dg,if_pos h0',if_pos h8']
   rw [bv,this,if_neg (by decide)]
  rw [hsp];simp only [ly,go_sem,simprocAttr]
 have h8':¬ 8<l.length:=by simp at h8;omega
 have hts:dg s l=cV s.kinds.length l:=by rw [dg,if_pos h0',if_neg h8']
 have hol:cd s l=cV s.kinds.length l:=by rw [cd,if_pos h0']
 simp only [go_sem,simprocAttr];refine ae (oK s l false (λ_=>by omega)) rfl ?_;simp only [hol,go_sem,simprocAttr];cases h1:(cV s.kinds.length l != 0)
 rotate_left
 .have h1':¬ cV s.kinds.length l=0:=by simpa using h1
  have hsp:bv s l at'=(⟨ly,⟨0,0⟩⟩,cV s.kinds.length l):=by rw [bv,hts,if_neg h1']
  rw [hsp];simp only [ly,go_sem,simprocAttr]
 have h1':cV s.kinds.length l=0:=by simpa using h1
 have hw:IntKind.i64.wrap ((s.kinds.length:Int)-1)=(s.kinds.length:Int)-1:=ax (by omega) (by omega);simp only [hw,go_sem,simprocAttr];refine ae (jr 0 _ [_] true (by simp)) rfl ?_;simp only [bp,bF,bS,go_sem,simprocAttr];cases h2:ar at' 0 ((s.kinds.length:Int)-1)
 .have hsp:bv s l at'=(⟨ly,⟨0,0⟩⟩,4):=by rw [bv,hts,if_pos h1',h2];rfl
  rw [hsp];simp only [ly,go_sem,simprocAttr]
 obtain ⟨g1,g2⟩:0<=at'/\at'<=(s.kinds.length:Int)-1:=by simpa [ar] using h2
 obtain ⟨n,rfl⟩:=p4 g1;have hn:n<s.kinds.length:=by omega
 obtain ⟨k,hkn⟩:∃ k,s.kinds[n]?=some k:=⟨_,bE hn⟩
 have hko:=pI h0' (aL hkn);have hlt:(n:Int)<(s.kinds.length:Int):=by omega
 have hsp:bv s l n=(if (eP s l n).lo<0 then (⟨k,eP s l n⟩,9) else if (fw s.margin (eP s l n)).hi=0 then (⟨k,fw s.margin (eP s l n)⟩,8) else (⟨k,fw s.margin (eP s l n)⟩,0)):=by
  rw [bv,hts,if_pos h1',if_pos h2,iH,hkn]
 rw [hsp];simp only [hlt,hkn,go_sem,simprocAttr]
 refine dZ [2,3,6,48,49] (σ:=List HrTest×List HrTest×Span×Heap)
  (λq=>l=q.1++q.2.1/\eP s l n=rz n q.2.2.1 q.2.1/\GK q.2.2.1) (λq=>q.2.1.length)
  (λq=>[(50,.p (.int .i64 q.1.length))]) (λq=>[.row 3 [.p s.pv],.row 6 [.p (HrK.pv ⟨k,q.2.2.1⟩)]]++q.2.2.2) ([],l,⟨-1,0⟩,[]) ⟨rfl,rfl,.inl rfl⟩ (by simp only [go_sem,simprocAttr]) ?_ ?_
 .simp only [go_sem,simprocAttr]
 rintro ⟨done,rest,r,g⟩ ⟨e1,e2,e3⟩
 dsimp only at e1 e2 e3
 cases rest with
 |nil =>
  have hlt:¬ ((done.length:Int)<(l.length:Int)):=by rw [e1];simp
  rw [rz] at e2;rw [e2];simp only [hlt,decide_false,go_sem,simprocAttr];cases h3:decide (r.lo<0);rotate_left
  .have h3':r.lo<0:=by simpa using h3
   simp only [if_pos h3',go_sem,simprocAttr]
  have h3':¬ r.lo<0:=by simpa using h3
  have hrB:0<=r.lo/\0<=r.hi/\r.lo<=601200000/\r.hi<=601200000:=e3.resolve_left (by rintro rfl;exact h3' (by decide));have q1:=JW (a:=r.lo) (b:=1000-s.margin) (by omega) (by omega) (by omega) (by omega);have q2:=JW (a:=r.hi) (b:=1000+s.margin) (by omega) (by omega) (by omega) (by omega);have w1:IntKind.i64.wrap (1000-s.margin)=1000-s.margin:=ax (by omega) (by omega);have w2:IntKind.i64.wrap (1000+s.margin)=1000+s.margin:=ax (by omega) (by omega);have w3:IntKind.i64.wrap (r.lo*(1000-s.margin))=r.lo*(1000-s.margin):=ax (by omega) (by omega);have w4:IntKind.i64.wrap (r.hi*(1000+s.margin))=r.hi*(1000+s.margin):=ax (by omega) (by omega);rw [if_neg h3'];simp only [w1,w3,go_sem,simprocAttr];refine ae (lV ⟨r.lo*(1000-s.margin),1000⟩ (by show (0:Int)<1000;decide) q1.1 q1.2) rfl ?_;simp only [w2,w4,go_sem,simprocAttr];refine ae (ZM ⟨r.hi*(1000+s.margin),1000⟩ (by show (0:Int)<1000;decide) q2.1 q2.2) rfl ?_;simp only [go_sem,simprocAttr];cases h4:((fw s.margin r).hi==0)
  .have h4':¬ (fw s.margin r).hi=0:=by simpa using h4
   rw [if_neg h4'];simp only [fw] at h4;simp only [h4,fw,go_sem,simprocAttr]
  .have h4':(fw s.margin r).hi=0:=by simpa using h4
   rw [if_pos h4'];simp only [fw] at h4
   simp only [h4,fw,go_sem,simprocAttr]
 |cons t rest =>
  obtain ⟨hx,hltt⟩:=de e1;have hlen1:=congrArg List.length e1;simp only [aI,ct] at hlen1;have hnx:IntKind.i64.wrap ((done.length:Int)+1)=(((done++[t]).length:Nat):Int):=ba (by omega) (by simp [aw];omega) (by simp);have htok:=(gz (rd h1' t (by rw [e1];simp))).1;have hrl:=wi htok;rw [rz] at e2;have g0:=lq (lo:=g) rfl;have s0:=nV (lo:=g) rfl;have gg:=lp (lo:=g) rfl;have ss:=nU (lo:=g) rfl;simp only [hltt,decide_true,hx,g0,s0,go_sem,simprocAttr];refine ae (AK t htok) rfl ?_;simp only [g0,gg,ss,cE,aI,bh,go_sem,simprocAttr];cases h5:(t.kind != (n:Int))
  rotate_left
  .have h5':¬ (t.kind=(n:Int)/\iv t=true):=λh=>by simp [h.1] at h5
   rw [if_neg h5'] at e2;simp only [go_sem,simprocAttr];refine aZ (done++[t],rest,r,g++[_,_]) ⟨by rw [e1];simp,e2,e3⟩ (j3 _) rfl ?_;simp only [hnx,go_sem,simprocAttr]
  have h5k:t.kind=(n:Int):=by simpa using h5
  simp only [go_sem,simprocAttr];cases h6:(dH t).2
  .have h6':¬ (t.kind=(n:Int)/\iv t=true):=λh=>by rw [iv,h6] at h;simp at h
   rw [if_neg h6'] at e2;simp only [go_sem,simprocAttr];refine aZ (done++[t],rest,r,g++[_,_]) ⟨by rw [e1];simp,e2,e3⟩ (j3 _) rfl ?_;simp only [hnx,go_sem,simprocAttr]
  rw [if_pos ⟨h5k,by rw [iv,h6]⟩] at e2;simp only [go_sem,simprocAttr];cases h7:decide (r.lo<0)
  .have h7':¬ r.lo<0:=by simpa using h7
   simp only [gg,bh,go_sem,simprocAttr];refine aZ (done++[t],rest,ki r (dH t).1,g++[_,_]) ⟨by rw [e1];simp,e2,Ac e3 hrl⟩ (j3 _) (by simp only [ki,if_neg h7',go_sem,simprocAttr];exact ⟨rfl,rfl⟩) ?_;simp only [hnx,go_sem,simprocAttr]
  .have h7':r.lo<0:=by simpa using h7
   simp only [gg,bh,Int.lt_irrefl,go_sem,simprocAttr];refine aZ (done++[t],rest,ki r (dH t).1,g++[_,_]) ⟨by rw [e1];simp,e2,Ac e3 hrl⟩ (j3 _) (by simp only [ki,if_pos h7',go_sem,simprocAttr];exact ⟨rfl,rfl⟩) ?_;simp only [hnx,go_sem,simprocAttr]
end Abs
end Go.Proofs.YtfafnkpfamgbbaaGreatDoor
