/- CONTRACTS of the program's functions, and laws on what they return. No conditions but those in the theorems' heads. -/
import Derived.Test.YtoapoaoelpcniaaGreatDoorStrLibX
import Derived.Lib.Walk
import Derived.Lib.Builder
import Derived.Laws.Externs
set_option linter.all false
open Go.Proofs.Tryz renaming prog->TP
namespace Go.Proofs.YtoapoaoelpcniaaGreatDoor
namespace Abs
open Go.RowKit
set_option maxRecDepth 100000
theorem Kh:(TP.info? 170).map (·.size)=some 2:=by kernel_rfl
theorem T8:liesAt TP TP.depth 170 (2 / TP.cellsOf 170) 0 170 1=true:=by kernel_rfl
set_option maxHeartbeats 1000000 in
theorem wA(b)(w)(h0:w.cell? ⟨b,0,none⟩=some (.pointer (some ⟨b,0,none⟩))) :
  Calls TP 111 #[.pointer (some ⟨b,0,none⟩)] w λe w'=>e=.returned (.tuple #[])/\w'=w:=by
 obtain⟨j,hj,_⟩:=cg.1 Kh
 go_enter Tryz.func111,Tryz.ntmps111
 go_wp2
 rw[Lib.run_neq_ptr_same w _ Tryz.underlying168 hj]
 go_wp2
 go_end0
 exact⟨rfl,rfl⟩
set_option maxHeartbeats 1000000 in
theorem uE(b)(w)(h0:w.cell? ⟨b,0,none⟩=some (.pointer none))(hsh:w.shape? b=some (170,2))(hfz:w.frozen? ⟨b,0,none⟩=false) :
  Calls TP 111 #[.pointer (some ⟨b,0,none⟩)] w λe w'=>e=.returned (.tuple #[])/\w'=w.setCell ⟨b,0,none⟩ (.pointer (some ⟨b,0,none⟩)):=by
 obtain⟨j,hj,hjs⟩:=cg.1 Kh
 go_enter Tryz.func111,Tryz.ntmps111
 go_wp2
 rw[Lib.run_to_unsafe w ⟨b,0,none⟩ Tryz.underlying168 Tryz.underlying254 hj (by rw[hjs];decide) hsh (Nat.zero_lt_succ 1)];simp only[Result.andThen];rw[Oper.upon_value]
 go_wp2
 rw[run_callFunc_extern Tryz.func162 (by kernel_rfl) (by kernel_rfl) (by kernel_rfl) (e:=Extern.AbiNoEscape.same) (by kernel_rfl)];rw[Lib.run_noEscape];simp only[Result.andThen];rw[Oper.upon_value]
 go_wp2
 rw[Lib.run_from_unsafe w ⟨b,0,none⟩ Tryz.underlying254 Tryz.underlying168 hj hsh T8];simp only[Result.andThen];rw[Oper.upon_value]
 go_wp2
 go_end0
 exact⟨rfl,rfl⟩
theorem gG{w:World}{b}{cs}{T}{fr}(hb:w.heap[b]?=some (.cells cs T fr))(j):w.cell? ⟨b,j,none⟩=cs[j]?:=by
 simp[World.cell?,hb]
theorem Q8(b)(w)(p v)(hb:w.heap[b]?=some (.cells #[p,v] 170 (0,0)))(hp:p=.pointer none\/p=.pointer (some ⟨b,0,none⟩)) :
  Calls TP 111 #[.pointer (some ⟨b,0,none⟩)] w λe w'=>e=.returned (.tuple #[])/\OnlyB b w w'/\w'.heap[b]?=some (.cells #[.pointer (some ⟨b,0,none⟩),v] 170 (0,0)):=by
 rcases hp with rfl|rfl
 .refine(uE b w (by rw[gG hb];rfl) (by simp[World.shape?,hb]) (by simp[World.frozen?,hb])).mono ?_
  rintro e w' ⟨rfl,rfl⟩
  refine⟨rfl,np _ _ _ _,?_⟩;simp[World.setCell,uT,hb]
 .refine(wA b w (by rw[gG hb];rfl)).mono ?_
  rintro e w' ⟨rfl,rfl⟩
  exact⟨rfl,OnlyB.refl _ _,hb⟩
theorem yS{P}{ops}{rest}{o}{a}{w}{Q}(hgd:o.guard=none)(sl x)(t u)
  (ho:o.op=.call { callee:=.builtin .append,args:=#[sl,x],argTypes:=#[t,u] }) (v y v') (w') (hs:a.eval sl=v) (hx:a.eval x=y)
  (hr:∀ty,(Builtin.append_ #[t,u] ty #[v,y]).run P w=.ok v' w') (h:wpList P ops Q rest (a.put o.dst v') w'):wpList P ops Q (o::rest) a w:=by
 refine wpList_plain hgd λK hK=>?_;unfold Oper.wp execOp;simp only[ho,resolve,invoke,builtin,Sem.run_bind,Sem.run_pure,dl,List.map_toArray,bL,ck,hs,hx,hr o.type];exact hK _ _ h
set_option maxHeartbeats 2000000 in
theorem Q6(b)(w)(p v)(s)(R:World->Prop)(hb:w.heap[b]?=some (.cells #[p,v] 170 (0,0)))(hp:p=.pointer none\/p=.pointer (some ⟨b,0,none⟩))
  (hv:∀w1,OnlyB b w w1->w1.heap[b]?=some (.cells #[.pointer (some ⟨b,0,none⟩),v] 170 (0,0))->∃w2 v2 p2 v0,(∀ty,(Builtin.append_ #[141,9] ty #[v,.string s]).run TP w1=.ok v2 w2)/\w2.heap[b]?=some (.cells #[p2,v0] 170 (0,0)) /\
   (∃a n c,v2=.slice a n c)/\R (w2.setCell ⟨b,1,none⟩ v2)) :
  Calls TP 65 #[.pointer (some ⟨b,0,none⟩),.string s] w λe w'=>e=.returned (.tuple #[.int .i64 s.size,.nilIface])/\R w':=by
 go_enter Tryz.func65,Tryz.ntmps65
 go_wp2_with (go_at_call 111;refine(Q8 b _ p v hb hp).mono ?_)
 rintro e w1 ⟨rfl,ho,hb1⟩
 obtain⟨w2,v2,p2,v0,hap,hb2,⟨a,n,c,rfl⟩,hR⟩:=hv w1 ho hb1;have c0:w1.cell? ⟨b,0,none⟩=some (.pointer (some ⟨b,0,none⟩)):=by rw[gG hb1];rfl
 have c1:w1.cell? ⟨b,1,none⟩=some v:=by rw[gG hb1];rfl
 have d0:w2.cell? ⟨b,0,none⟩=some p2:=by rw[gG hb2];rfl
 have d1:w2.cell? ⟨b,1,none⟩=some v0:=by rw[gG hb2];rfl
 have f1:w2.frozen? ⟨b,1,none⟩=false:=by simp[World.frozen?,hb2]
 go_wp2_with (at_builtin;refine yS rfl _ _ 141 9 rfl v (.string s) (.slice a n c) w2 rfl rfl hap ?_)
 go_ret2
 exact⟨rfl,hR⟩
def gV (s:ByteArray):List AV:=s.data.toList.map λb:UInt8=>AV.p (PV.int .u8 (b.toNat:Int))
theorem kM(s):(gV s).length=s.size:=by unfold gV;rw[eF];exact uX
theorem Xb:e9 TP 9=true:=by kernel_rfl
theorem DU{h h1}{i}{x x'}{s}(hi:h[i]?=some (.bld 170 5 x))(hs0:s.size<=aw)
  (hx:x=.p .nilslice\/∃j n xs,x=.slice j n 0 n/\h[j]?=some (.row 1 xs)/\xs.length=n/\n+s.size<=aw)
  (hap:uL TP 141 9 x (.p (.str s)) h=.val x' h1) (hi1:h1[i]?=some (.bld 170 5 x)) (hx':x'=.p .nilslice\/∃j n,x'=.slice j n 0 n) :
  aD TP 65 [.ref .bl i,.p (.str s)] h (λr h'=>r=.ret (.p (.tuple [.int .i64 s.size,.niliface]))/\h'=h1.set i (.bld 170 5 x')):=by
 intro M0 m w cargs hS ha;have hn:=ha.1;have ha0:=ha.2 0 _ rfl;have ha1:=ha.2 1 _ rfl
 obtain⟨c0,c1,rfl⟩:∃c0 c1,cargs=#[c0,c1]:=⟨cargs.getD 0 undef,cargs.getD 1 undef,by
  apply nw
  .simpa using hn
  .intro i h1 h2;have:i=0\/i=1:=by simp at h2;omega
   rcases this with rfl|rfl<;>simp[h1]⟩
 have ha1':RepP (Avoid M0 m) w c1 (.str s):=ha1;cases ha1';obtain⟨b,p,v,hm,hb,hp,hxf,hr,hsh⟩:=hS.obj i _ hi;have hm':m.getD i none=some b:=hm;obtain rfl:c0=.pointer (some ⟨b,0,none⟩):=by
  rcases ha0.2 with hd|⟨_,b',hb',hv⟩
  .have hd':h[i]?=some .dead:=hd;rw[hi]at hd';cases hd'
  .have hb2:m.getD i none=some b':=hb';rw[hm']at hb2;cases hb2;exact hv
 have hb0:w.heap[b]?=some (.cells #[p,v] 170 (0,0)):=hb;refine⟨(λw'=>jD Tryz.func65 ZV _ w'),?_⟩;refine(Q6 b w p v s (λw'=>∃m',Ev h.length ⟨m,h,w⟩ ⟨m',h1.set i (.bld 170 5 x'),w'⟩/\HOk TP M0 ⟨m',h1.set i (.bld 170 5 x'),w'⟩) hb0 hp ?_).mono ?_
 .intro w1 ho hb1;obtain⟨k1,e1⟩:=BQ (S:=⟨m,h,w⟩) hS hi hm' hb0 ho hb1 (.inr rfl) hxf hr hsh;rw[show (Mem.mk m h w).h.set i (.bld 170 5 x)=h from pu hi]at k1 e1;have hr1:cS M0 ⟨m,h,w1⟩ v x:=e1.rep0 hr (gJ hr);have hvx:Rep M0 ⟨m,h,w1⟩ v x:=by
   rcases hxf with rfl|⟨j,n,rfl⟩
   .exact hr1
   .exact hr1
  have hap1:=Ei (P:=TP) (T:=141) (U:=9) (ty:=0) k1 hvx (show Rep M0 ⟨m,h,w1⟩ (.string s) (.p (.str s)) from RepP.str s);rw[show (Mem.mk m h w1).h=h from rfl,hap]at hap1;obtain⟨S2,v2,hS2,hrun,e2,k2,hr2⟩:=hap1;obtain⟨m2,h2,w2⟩:=S2;obtain rfl:h1=h2:=hS2.symm;have hrun':∀ty,(Builtin.append_ #[141,9] ty #[v,.string s]).run TP w1=.ok v2 w2:=λty=>hrun;obtain⟨b2,p2,v0,hm2,hb2,hp2,_,_,_⟩:=k2.obj i _ hi1;have hbb:b2=b:=by
   obtain⟨o',ho',hoe⟩:=e2.obj i _ (aF.1 hi).1 hi;have ho2:h1[i]?=some o':=ho';rw[hi1]at ho2;cases ho2;rcases hoe with he|⟨_,_,_,he,_⟩|⟨_,_,he⟩
   .cases he
   .cases he
   .have:m2.getD i none=m.getD i none:=he;rw[hm']at this;have hm2':m2.getD i none=some b2:=hm2;rw[this]at hm2';cases hm2';rfl
  subst hbb;have hb2':w2.heap[b2]?=some (.cells #[p2,v0] 170 (0,0)):=hb2;have hsl:∃a n c,v2=.slice a n c:=by
   rcases hx' with rfl|⟨j,n,rfl⟩
   .have h':RepP (Avoid M0 m2) w2 v2 .nilslice:=hr2;cases h';exact⟨_,_,_,rfl⟩
   .exact hr2.1
  have hsh2:=HI (P:=TP) (T:=141) (U:=9) (e:=5) (ty:=0) k1 hx hs0 hr1 (by kernel_rfl) Xb (by kernel_rfl) (by kernel_rfl) (by kernel_rfl)
   (λa n c hv=>by
    obtain⟨N,hN⟩:=hsh a n c hv
    exact⟨N,(e1.fr.shape _ (sc hN)).trans hN⟩) (hrun' 0) (λc hc=>e2.fr.shape c hc)
  have hr2':cS M0 ⟨m2,h1,w2⟩ v2 x':=by
   rcases hx' with rfl|⟨j,n,rfl⟩
   .exact hr2
   .exact hr2
  refine⟨w2,v2,p2,v0,hrun',hb2',hsl,m2,?_⟩;obtain⟨k3,e3⟩:=BQ (S:=⟨m2,h1,w2⟩) (w':=w2.setCell ⟨b2,1,none⟩ v2) (p':=p2) (v':=v2) (x':=x') k2 hi1 hm2 hb2' (np _ _ _ _) (by simp[World.setCell,uT,hb2']) hp2 hx' hr2' hsh2;exact⟨(e1.trans e2).trans (e3.mono (e2.len (bB _))),k3⟩
 .rintro e w' ⟨rfl,m',hev,hk⟩
  exact⟨.ret (.p (.tuple [.int .i64 s.size,.niliface])),_,m',⟨rfl,rfl⟩,hev,hk,yp (.int _ _) .niliface⟩
theorem Gl(w)(p)(n):OnlyB p.block w (w.freeze p n):=by
 unfold World.freeze;split
 .exact OnlyB.refl _ _
 .exact⟨rfl,rfl,rfl,by simp,λk hk=>by simp only[uT];rw[if_neg (Ne.symm hk)]⟩
theorem GU(w:World)(p)(n c):(w.freeze p n).shape? c=w.shape? c:=by
 unfold World.freeze;split
 .rfl
 .unfold World.shape?;simp only[uT];by_cases hc:p.block=c
  .rw[if_pos hc];subst hc
   cases w.heap[p.block]? with
   |none=>rfl
   |some o=>cases o<;>rfl
  .rw[if_neg hc]
theorem So:TP.cellsOf 5=1:=by kernel_rfl
set_option maxHeartbeats 2000000 in
theorem L9(b g cap N)(w)(p)(l)(h0:l≠[])(hb:w.heap[b]?=some (.cells #[p,.slice (some ⟨g,0,none⟩) l.length cap] 170 (0,0)))
  (hg:w.shape? g=some (5,N)) (hN:l.length<=N) (hc:l.length<=cap) (h63:l.length<=9223372036854775807) (hcell:∀j x,l[j]?=some x->w.cell? ⟨g,j,none⟩=some (.int .u8 x.toNat)) :
  Calls TP 66 #[.pointer (some ⟨b,0,none⟩)] w λe w'=>e=.returned (.string ⟨l.toArray⟩)/\w'=w.drew.freeze ⟨g,0,none⟩ l.length:=by
 have hl0:l.length≠0:=by simpa using h0
 have c1:w.drew.cell? ⟨b,1,none⟩=some (.slice (some ⟨g,0,none⟩) l.length cap):=by
  have:w.drew.heap[b]?=some (.cells #[p,.slice (some ⟨g,0,none⟩) l.length cap] 170 (0,0)):=hb;rw[gG this];rfl
 have hSD:(Builtin.unsafeSliceData_ #[141] 225 #[.slice (some ⟨g,0,none⟩) l.length cap]).run TP w.drew=.ok (.pointer (some ⟨g,0,none⟩)) w.drew:=
  Lib.run_unsafeSliceData_row _ _ _ _ _ _ (by omega)
 have hUS:(Builtin.unsafeString_ #[225,3] 9 #[.pointer (some ⟨g,0,none⟩),.int .i64 l.length]).run TP w.drew=.ok (.string ⟨l.toArray⟩) (w.drew.freeze ⟨g,0,none⟩ l.length):=
  Lib.run_unsafeString_row w.drew 225 3 9 5 Tryz.underlying225 So g N hg l h0 hN h63 (λj x hx=>by rw[fD,iq];exact hcell j x hx)
 go_enter Tryz.func66,Tryz.ntmps66
 go_wp2
 go_region
 all_goals (go_wp2;go_ret;exact⟨rfl,rfl⟩)
set_option maxHeartbeats 2000000 in
theorem L'(b)(w)(p)(hb:w.heap[b]?=some (.cells #[p,.slice none 0 0] 170 (0,0))) :
  Calls TP 66 #[.pointer (some ⟨b,0,none⟩)] w λe w'=>e=.returned (.string .empty)/\w'=w.drew:=by
 have c1:w.drew.cell? ⟨b,1,none⟩=some (.slice none 0 0):=by
  have:w.drew.heap[b]?=some (.cells #[p,.slice none 0 0] 170 (0,0)):=hb;rw[gG this];rfl
 have hUS:∀W:World,(Builtin.unsafeString_ #[225,3] 9 #[.pointer none,.int .i64 0]).run TP W=.ok (.string .empty) W:=λW=>Lib.run_unsafeString_none W _ _ _ none;have hSD:(Builtin.unsafeSliceData_ #[141] 225 #[.slice none 0 0]).run TP w.drew=.ok (.pointer none) w.drew:=rfl
 go_enter Tryz.func66,Tryz.ntmps66
 go_wp2
 go_region
 all_goals (go_wp2;go_ret;exact⟨rfl,rfl⟩)
theorem vT{h}{i j}{s}(hi:h[i]?=some (.bld 170 5 (.slice j s.size 0 s.size)))(hj:h[j]?=some (.row 1 (gV s)))(h0:s.size≠0)(h63:s.size<=9223372036854775807) :
  aD TP 66 [.ref .bl i] h (λr h'=>r=.ret (.p (.str s))/\h'=h.set j .dead):=by
 intro M0 m w cargs hS ha;have hn:=ha.1;have ha0:=ha.2 0 _ rfl
 obtain⟨c0,rfl⟩:∃c0,cargs=#[c0]:=⟨cargs.getD 0 undef,by
  apply nw
  .simpa using hn
  .intro i h1 h2;have:i=0:=by simp at h2;omega
   subst this
   simp[h1]⟩
 obtain⟨b,p,v,hm,hb,hp,hxf,hr,hsh⟩:=hS.obj i _ hi;have hm':m.getD i none=some b:=hm;obtain rfl:c0=.pointer (some ⟨b,0,none⟩):=by
  rcases ha0.2 with hd|⟨_,b',hb',hv⟩
  .have hd':h[i]?=some .dead:=hd;rw[hi]at hd';cases hd'
  .have hb2:m.getD i none=some b':=hb';rw[hm']at hb2;cases hb2;exact hv
 have hb0:w.heap[b]?=some (.cells #[p,v] 170 (0,0)):=hb;refine⟨λw'=>Go.Proofs.enters_of Tryz.func66 (by kernel_rfl) rfl _ w',?_⟩;have hlen:s.data.toList.length=s.size:=uX;rcases di hr.2 hj (kM s) with⟨h1,h2,h3,_⟩|⟨g,cap,T',N,hmg,rfl,hcap,hsh2,hfit,hreach⟩|⟨_,rfl,h00⟩
 .exact absurd h1 h0
 .obtain⟨C,T2,hb2,hsize2,hel2⟩:=fF hS hj hmg;have hgs:w.shape? g=some (5,C.size):=by
   obtain⟨N',hN'⟩:=hsh _ _ _ rfl;have hN2:w.shape? g=some (5,N'):=hN';have hb3:w.heap[g]?=some (.cells C T2 (0,0)):=hb2;unfold World.shape? at hN2 |-;rw[hb3]at hN2 |-;simp at hN2 |-;exact hN2.1
  have hsz:s.size<=C.size:=by
   have:(gV s).length*1<=C.size:=hsize2;rw[kM]at this;omega
  have hv:(Value.slice (some ⟨g,0*1,none⟩) s.size cap)=.slice (some ⟨g,0,none⟩) s.data.toList.length cap:=by rw[E0,hlen]
  rw[hv]at hb0;have hcells:∀(k:Nat) (x:UInt8),s.data.toList[k]?=some x->w.cell? ⟨g,k,none⟩=some (.int .u8 x.toNat):=by
   intro k x hx;obtain⟨cs,a1,a2,a3⟩:=hel2 k (.p (.int .u8 x.toNat)) (by simp[gV,hx]);cases a1;have a4:=(a3 0 _ rfl).2;have a5:RepP (Avoid M0 m) w (C.getD (k*1+0) undef) (.int .u8 x.toNat):=a4;have hk:k<C.size:=by have:=(aF.1 hx).1;omega
   have hb3:w.heap[g]?=some (.cells C T2 (0,0)):=hb2;rw[jE hb3 k hk];rw[Nat.mul_one,pk]at a5;generalize C.getD k undef=z at a5 |-;cases a5;rfl
  refine(L9 b g cap C.size w p s.data.toList (by intro hc;rw[hc]at hlen;simp at hlen;omega) hb0 hgs (by omega) (by rw[hlen];exact hcap.1) (by omega) hcells).mono ?_
  rintro e w' ⟨rfl,rfl⟩
  have hof:OnlyB g w (w.drew.freeze ⟨g,0,none⟩ s.data.toList.length):=by
   have:=Gl w.drew ⟨g,0,none⟩ s.data.toList.length;exact⟨this.os,this.tape,this.output,this.size,this.block⟩
  obtain⟨hk,hev⟩:=Ij (S:=⟨m,h,w⟩) hS j (w':=w.drew.freeze ⟨g,0,none⟩ s.data.toList.length)
   ⟨hof.os,hof.tape,hof.output,EX hof.size.symm,λc _ hc=>hof.block c (λe=>hc (e▸aG (cK hmg))),λc _=>GU w.drew _ _ c⟩
   (λx bl hx hbl=>hof.block bl λe=>hx (hS.inj x j bl (cK hbl) (e▸cK hmg)))
  exact⟨.ret (.p (.str s)),_,m,⟨rfl,rfl⟩,hev,hk,RepP.str s⟩
 .exact absurd h00 h0
theorem N0{h}{i}(hi:h[i]?=some (.bld 170 5 (.p .nilslice))):aD TP 66 [.ref .bl i] h (λr h'=>r=.ret (.p (.str .empty))/\h'=h):=by
 intro M0 m w cargs hS ha;have hn:=ha.1;have ha0:=ha.2 0 _ rfl
 obtain⟨c0,rfl⟩:∃c0,cargs=#[c0]:=⟨cargs.getD 0 undef,by
  apply nw
  .simpa using hn
  .intro i h1 h2;have:i=0:=by simp at h2;omega
   subst this
   simp[h1]⟩
 obtain⟨b,p,v,hm,hb,hp,hxf,hr,hsh⟩:=hS.obj i _ hi;have hm':m.getD i none=some b:=hm;obtain rfl:c0=.pointer (some ⟨b,0,none⟩):=by
  rcases ha0.2 with hd|⟨_,b',hb',hv⟩
  .have hd':h[i]?=some .dead:=hd;rw[hi]at hd';cases hd'
  .have hb2:m.getD i none=some b':=hb';rw[hm']at hb2;cases hb2;exact hv
 have hv:RepP (Avoid M0 m) w v .nilslice:=hr;cases hv;have hb0:w.heap[b]?=some (.cells #[p,.slice none 0 0] 170 (0,0)):=hb;refine⟨λw'=>Go.Proofs.enters_of Tryz.func66 (by kernel_rfl) rfl _ w',(L' b w p hb0).mono ?_⟩
 rintro e w' ⟨rfl,rfl⟩
 exact⟨.ret (.p (.str .empty)),_,m,⟨rfl,rfl⟩,Ev.drew _ ⟨m,h,w⟩,HOk.drew hS,RepP.str _⟩
set_option maxRecDepth 4000
structure HrKindOk (k:HrKind):Prop where
 lo:1<=k.weight.lo
 le:k.weight.lo<=k.weight.hi
 hi:k.weight.hi<=10000000
 rest:0<=k.rest
 less:k.rest<k.weight.lo
 name:nameOk k.name=true
theorem eP{α}{f:List ByteArray->α->Int}{nm}:∀{l} {before},firstErr f nm l before=none->∀(a) (x) (r),l=a++x::r->f (before++a.map nm) x=0
 |[],_,_,a,x,r,e=>by simp at e
 |y::l,before,h,a,x,r,e=>by
  rw[firstErr]at h;split at h
  .rename_i h0
   cases a with
   |nil=>
    obtain⟨hz,_⟩:=Fs e;subst hz
    simpa using h0
   |cons z a=>
    obtain⟨hz,e'⟩:=Fs e;subst hz;have:=eP h a x r e';simpa using this
  .cases h
theorem gT{α}{f:List ByteArray->α->Int}{nm}:∀{l} {before} {i e},firstErr f nm l before=some (i,e)->e≠0
 |[],_,_,_,h=>by cases h
 |y::r,before,i,e,h=>by
  rw[firstErr]at h;split at h
  .exact gT h
  .rename_i h0;cases h;exact h0
theorem Pz{α:Type}{l:List α}{x}(h:x∈l):∃a r,l=a++x::r:=KM h
theorem kZ{s}(h:(hrCheck s).2.2=0):firstErr bQ (·.name) s.kinds []=none/\firstErr cM (·.name) s.rules []=none/\0<=s.margin/\s.margin<=500:=by
 unfold hrCheck at h;split at h
 .split at h
  .rename_i h2;unfold iU at h;split at h
   .rename_i i e he;exact absurd h (gT he)
   .rename_i he;split at h
    .rename_i i e he2;exact absurd h (gT he2)
    .rename_i he2;exact⟨he,he2,by simpa[ar]using h2⟩
  .cases h
 .cases h
theorem vB{before}{s}(h:am before s=0):nameOk s=true/\∀b,b∈before->b≠s:=by
 unfold am at h;split at h
 .rename_i h1;split at h
  .cases h
  .rename_i h2;refine⟨h1,λb hb e=>h2 ?_⟩;rw[KD];exact⟨b,hb,(gv _ _).2 e⟩
 .cases h
theorem tx{s}(h:(hrCheck s).2.2=0){k}(hk:k∈s.kinds):HrKindOk k:=by
 obtain⟨a,r,e⟩:=Pz hk;have:=eP (kZ h).1 a k r e;unfold bQ at this;split at this
 .rename_i h0;unfold eA at this;split at this
  .rename_i h1;split at this
   .cases this
   .rename_i h2;simp[ar]at h1 h2;exact⟨by omega,by omega,by omega,by omega,by omega,(vB h0).1⟩
  .cases this
 .contradiction
theorem sy{s}(h:(hrCheck s).2.2=0){i j:Nat}{a b}(hi:s.kinds[i]?=some a)(hj:s.kinds[j]?=some b)(hn:a.name=b.name):i=j:=by
 have key:∀(i j:Nat) (a b:HrKind),s.kinds[i]?=some a->s.kinds[j]?=some b->a.name=b.name->i<j->False:=by
  intro i j a b hi hj hn hij;have hjl:=(aF.1 hj).1;have e:s.kinds=s.kinds.take j++b::s.kinds.drop (j+1):=by
   have h1:=nX hjl;rw[(aF.1 hj).2]at h1;rw[<-h1,lr]
  have:=eP (kZ h).1 _ b _ e;unfold bQ at this;split at this
  .rename_i h0;refine(vB h0).2 a.name ?_ hn;rw[ky,cH];refine⟨a,aG (i:=i) ?_,rfl⟩;rw[pg,if_pos hij];exact hi
  .contradiction
 rcases rk i j with h1|h1|h1
 .exact(key i j a b hi hj hn h1).elim
 .exact h1
 .exact(key j i b a hj hi hn.symm h1).elim
theorem tz{t}(hok:TestOk t):0<=(dN t).1.lo/\0<=(dN t).1.hi/\(dN t).1.lo<=601200000/\(dN t).1.hi<=601200000:=by
 have hb:=AQ hok;have key:∀p,p∈fp t->p.1.down<=601200000/\p.2.up<=601200000:=by
  intro p hp;obtain⟨q,hq,rfl⟩:=(Nu t p).1 hp;have hB:=nD hok _ hp;obtain⟨b1,b2⟩:q.1∈t.marks/\q.2∈t.marks:=by
   have key:∀l:List HrMark,∀q,q∈wv l->q.1∈l/\q.2∈l:=by
    intro l
    induction l with
    |nil=>intro q hq;cases hq
    |cons x r ih=>
     intro q hq;rw[wv,dr,cH]at hq;rcases hq with⟨y,hy,rfl⟩|hq
     .exact⟨by simp,by simp[hy]⟩
     .have:=ih q hq;exact⟨by simp[this.1],by simp[this.2]⟩
   exact key _ q hq
  have m1:=hok.all _ b1;have m2:=hok.all _ b2;have he:=hok.err;have hd:0<q.2.minute-q.1.minute:=hB.2.2.1;refine⟨?_,(Frac.up_le hB.2.2.2 _).2 ?_⟩
  .refine Int.le_of_lt_add_one (Int.lt_of_not_ge λh=>?_);have h:=(Frac.down_le hB.2.2.1 _).1 h;simp only[mq]at h;have:(601200000+1)*1<=(601200000+1)*(q.2.minute-q.1.minute):=tM (by omega) (by omega);omega
  .simp only[mq];have:(601200000)*1<=(601200000)*(q.2.minute-q.1.minute):=tM (by omega) (by omega);omega
 obtain⟨⟨⟨p,hp,e1⟩,_⟩,⟨q,hq,e2⟩,_⟩:=hb;have k1:=(key p hp).1;have k2:=(key q hq).2;rw[e1]at k1;rw[e2]at k2;simp only[dN,Nr];refine⟨?_,?_,?_,?_⟩<;>split<;>omega
theorem CA{t}(hok:TestOk t)(hp:iA t=true):(dN t).1.lo<=(dN t).1.hi:=by
 have hr:=zL hok;have hle:(eE t).1.le (eE t).2:=by
  rw[iA,dN]at hp;dsimp only at hp;rw[Fu,Frac.lt_false]at hp;exact hp
 have h1:(eE t).1.down<=(eE t).2.up:=by
  have a1:(eE t).1.down*(eE t).1.below<=(eE t).1.top:=(Frac.down_le hr.2.2.1 _).1 (ir _);have a2:(eE t).2.top<=(eE t).2.up*(eE t).2.below:=(Frac.up_le hr.2.2.2 _).1 (ir _);have b1:Frac.le ⟨(eE t).1.down,1⟩ (eE t).1:=(Frac.int_le _ _).2 a1;have b2:Frac.le (eE t).2 ⟨(eE t).2.up,1⟩:=(Frac.le_int _ _).2 a2;have:=Frac.le_trans Int.one_pos hr.2.2.2 Int.one_pos (Frac.le_trans Int.one_pos hr.2.2.1 hr.2.2.2 b1 hle) b2;simpa[Frac.le]using this
 simp only[dN,Nr];split<;>split<;>omega
structure HrK where
 k:HrKind
 rates:Span
def HrK.pv (x:HrK):PV:=.agg [.str x.k.name,.int .i64 x.k.weight.lo,.int .i64 x.k.weight.hi,.int .i64 x.k.rest,.int .i64 x.rates.lo,.int .i64 x.rates.hi]
attribute [go_sem] HrK.pv
def l5:HrKind:=⟨⟨#[]⟩,⟨0,0⟩,0⟩
def gz (r q:Span):Span:=if r.lo<0 then q else⟨if q.lo<r.lo then q.lo else r.lo,if r.hi<q.hi then q.hi else r.hi⟩
def ki (at':Int):Span->List HrTest->Span
 |r,[]=>r
 |r,t::l=>ki at' (if t.kind=at'/\iA t=true then gz r (dN t).1 else r) l
def cn (s:HrShop) (l:List HrTest) (at':Int):Span:=ki at' ⟨-1,0⟩ l
def eb (m:Int) (r:Span):Span:=⟨Frac.down ⟨r.lo*(1000-m),1000⟩,Frac.up ⟨r.hi*(1000+m),1000⟩⟩
def hrLook (s:HrShop) (l:List HrTest) (at':Int):HrK×Int:=
 if hrTests s l=0 then
  match (if ar at' 0 ((s.kinds.length:Int)-1)=true then s.kinds[at'.toNat]? else none) with
  |none=>(⟨l5,⟨0,0⟩⟩,4)
  |some k=>
   if(cn s l at').lo<0 then(⟨k,cn s l at'⟩,9)
   else if(eb s.margin (cn s l at')).hi=0 then(⟨k,eb s.margin (cn s l at')⟩,8)
   else(⟨k,eb s.margin (cn s l at')⟩,0)
 else(⟨l5,⟨0,0⟩⟩,hrTests s l)
def H1 (r:Span):Prop:=(r=⟨-1,0⟩)\/(0<=r.lo/\0<=r.hi/\r.lo<=601200000/\r.hi<=601200000)
theorem Ba{r q}(hr:H1 r)(hq:0<=q.lo/\0<=q.hi/\q.lo<=601200000/\q.hi<=601200000):H1 (gz r q):=by
 unfold gz;rcases hr with rfl|hr
 .rw[if_pos (by decide)];exact .inr hq
 .rw[if_neg (by omega)];refine .inr ⟨?_,?_,?_,?_⟩<;>dsimp only<;>split<;>omega
theorem n8{nk}:∀{l},cr nk l=0->∀t,t∈l->bV nk t=0
 |[],_,_,h=>by cases h
 |x::l,h,t,ht=>by
  rw[cr]at h;split at h
  .rename_i h0;rcases ci.1 ht with rfl|ht
   .exact h0
   .exact n8 h t ht
  .contradiction
theorem jC{s}{l}(h:hrTests s l=0):(hrCheck s).2.2=0/\l.length<=8/\cr s.kinds.length l=0:=by
 unfold hrTests at h;split at h
 .rename_i h0;split at h
  .cases h
  .exact⟨h0,by omega,h⟩
 .contradiction
set_option maxHeartbeats 2000000 in
theorem yK(s)(l)(at'):af TP 48 [s.pv,.slice 3 (l.map HrTest.pv) false,.int .i64 at'] (.tuple [(hrLook s l at').1.pv,.int .i64 (hrLook s l at').2]):=by
 refine aa (ah Tryz.func48 rfl (by kernel_rfl)) rfl ?_;simp only[go_sem,simprocAttr];refine ae (af.argless (args':=[s.pv,.nilslice]) (mA s [] false (by simp)) ⟨.inl rfl,.inr ⟨rfl,3,rfl⟩,trivial⟩) rfl ?_;simp only[go_sem,simprocAttr];have hop:bS s []=(hrCheck s).2.2:=by
  unfold bS;split
  .rename_i h;rw[h];rfl
  .rfl
 cases h0:(bS s []==0)
 .have h0':¬(hrCheck s).2.2=0:=by rw[<-hop];simpa using h0
  have h0n:((hrCheck s).2.2 != 0)=true:=by simpa using h0'
  have h0b:((hrCheck s).2.2==0)=false:=by simpa using h0'
  have hsp:hrLook s l at'=(⟨l5,⟨0,0⟩⟩,(hrCheck s).2.2):=by
   have:hrTests s l=(hrCheck s).2.2:=by rw[hrTests,if_neg h0']
   rw[hrLook,this,if_neg h0']
  rw[hsp];simp only[hop,h0n,h0b,l5,go_sem,simprocAttr]
 have h0':(hrCheck s).2.2=0:=by rw[<-hop];simpa using h0
 have hk:=kY h0';have hm:=kZ h0';have hz:bS s []=0:=by rw[hop,h0']
 simp only[hz,go_sem,simprocAttr];cases h8:decide ((8:Int)<(l.length:Int));rotate_left
 .have h8':8<l.length:=by simp at h8;omega
  have hsp:hrLook s l at'=(⟨l5,⟨0,0⟩⟩,3):=by
   have:hrTests s l=3:=by rw[hrTests,if_pos h0',if_pos h8']
   rw[hrLook,this,if_neg (by decide)]
  rw[hsp];simp only[l5,go_sem,simprocAttr]
 have h8':¬8<l.length:=by simp at h8;omega
 have hts:hrTests s l=cr s.kinds.length l:=by rw[hrTests,if_pos h0',if_neg h8']
 have hol:bS s l=cr s.kinds.length l:=by rw[bS,if_pos h0']
 simp only[go_sem,simprocAttr];refine ae (mA s l false (λ_=>by omega)) rfl ?_;simp only[hol,go_sem,simprocAttr];cases h1:(cr s.kinds.length l != 0)
 rotate_left
 .have h1':¬cr s.kinds.length l=0:=by simpa using h1
  have hsp:hrLook s l at'=(⟨l5,⟨0,0⟩⟩,cr s.kinds.length l):=by rw[hrLook,hts,if_neg h1']
  rw[hsp];simp only[l5,go_sem,simprocAttr]
 have h1':cr s.kinds.length l=0:=by simpa using h1
 have hw:IntKind.i64.wrap ((s.kinds.length:Int)-1)=(s.kinds.length:Int)-1:=aj (by omega) (by omega);simp only[hw,go_sem,simprocAttr];refine ae (im 0 _ [_] true (by simp)) rfl ?_;simp only[cV,bw,cD,go_sem,simprocAttr];cases h2:ar at' 0 ((s.kinds.length:Int)-1)
 .have hsp:hrLook s l at'=(⟨l5,⟨0,0⟩⟩,4):=by rw[hrLook,hts,if_pos h1',h2];rfl
  rw[hsp];simp only[l5,go_sem,simprocAttr]
 obtain⟨g1,g2⟩:0<=at'/\at'<=(s.kinds.length:Int)-1:=by simpa[ar]using h2
 obtain⟨n,rfl⟩:=nx g1;have hn:n<s.kinds.length:=by omega
 obtain⟨k,hkn⟩:∃k,s.kinds[n]?=some k:=⟨_,dc hn⟩
 have hko:=tx h0' (aG hkn);have hlt:(n:Int)<(s.kinds.length:Int):=by omega
 have hsp:hrLook s l n=(if(cn s l n).lo<0 then(⟨k,cn s l n⟩,9) else if(eb s.margin (cn s l n)).hi=0 then(⟨k,eb s.margin (cn s l n)⟩,8) else(⟨k,eb s.margin (cn s l n)⟩,0)):=by
  rw[hrLook,hts,if_pos h1',if_pos h2,g7,hkn]
 rw[hsp];simp only[hlt,hkn,go_sem,simprocAttr]
 refine eC [2,3,6,48,49] (σ:=List HrTest×List HrTest×Span×Heap)
  (λq=>l=q.1++q.2.1/\cn s l n=ki n q.2.2.1 q.2.1/\H1 q.2.2.1) (λq=>q.2.1.length)
  (λq=>[(50,.p (.int .i64 q.1.length))]) (λq=>[.row 3 [.p s.pv],.row 6 [.p (HrK.pv ⟨k,q.2.2.1⟩)]]++q.2.2.2) ([],l,⟨-1,0⟩,[]) ⟨rfl,rfl,.inl rfl⟩ (by simp only[go_sem,simprocAttr]) ?_ ?_
 .simp only[go_sem,simprocAttr]
 rintro⟨done,rest,r,g⟩ ⟨e1,e2,e3⟩
 dsimp only at e1 e2 e3
 cases rest with
 |nil=>
  have hlt:¬((done.length:Int)<(l.length:Int)):=by rw[e1];simp
  rw[ki]at e2;rw[e2];simp only[hlt,decide_false,go_sem,simprocAttr];cases h3:decide (r.lo<0);rotate_left
  .have h3':r.lo<0:=by simpa using h3
   simp only[if_pos h3',go_sem,simprocAttr]
  have h3':¬r.lo<0:=by simpa using h3
  have hrB:0<=r.lo/\0<=r.hi/\r.lo<=601200000/\r.hi<=601200000:=e3.resolve_left (by rintro rfl;exact h3' (by decide));have q1:=Ln (a:=r.lo) (b:=1000-s.margin) (by omega) (by omega) (by omega) (by omega);have q2:=Ln (a:=r.hi) (b:=1000+s.margin) (by omega) (by omega) (by omega) (by omega);have w1:IntKind.i64.wrap (1000-s.margin)=1000-s.margin:=aj (by omega) (by omega);have w2:IntKind.i64.wrap (1000+s.margin)=1000+s.margin:=aj (by omega) (by omega);have w3:IntKind.i64.wrap (r.lo*(1000-s.margin))=r.lo*(1000-s.margin):=aj (by omega) (by omega);have w4:IntKind.i64.wrap (r.hi*(1000+s.margin))=r.hi*(1000+s.margin):=aj (by omega) (by omega);rw[if_neg h3'];simp only[w1,w3,go_sem,simprocAttr];refine ae (mC ⟨r.lo*(1000-s.margin),1000⟩ (by show (0:Int)<1000;decide) q1.1 q1.2) rfl ?_;simp only[w2,w4,go_sem,simprocAttr];refine ae (Yd ⟨r.hi*(1000+s.margin),1000⟩ (by show (0:Int)<1000;decide) q2.1 q2.2) rfl ?_;simp only[go_sem,simprocAttr];cases h4:((eb s.margin r).hi==0)
  .have h4':¬(eb s.margin r).hi=0:=by simpa using h4
   rw[if_neg h4'];simp only[eb]at h4;simp only[h4,eb,go_sem,simprocAttr]
  .have h4':(eb s.margin r).hi=0:=by simpa using h4
   rw[if_pos h4'];simp only[eb]at h4
   simp only[h4,eb,go_sem,simprocAttr]
 |cons t rest=>
  obtain⟨hx,hltt⟩:=d8 e1;have hlen1:=congrArg List.length e1;simp only[aB,cu]at hlen1;have hnx:IntKind.i64.wrap ((done.length:Int)+1)=(((done++[t]).length:Nat):Int):=bj (by omega) (by simp[aw];omega) (by simp);have htok:=(fS (n8 h1' t (by rw[e1];simp))).1;have hrl:=tz htok;rw[ki]at e2;have g0:=k8 (lo:=g) rfl;have s0:=mT (lo:=g) rfl;have gg:=k7 (lo:=g) rfl;have ss:=mS (lo:=g) rfl;simp only[hltt,decide_true,hx,g0,s0,go_sem,simprocAttr];refine ae (BH t htok) rfl ?_;simp only[g0,gg,ss,cF,aB,bn,go_sem,simprocAttr];cases h5:(t.kind != (n:Int))
  rotate_left
  .have h5':¬(t.kind=(n:Int)/\iA t=true):=λh=>by simp[h.1]at h5
   rw[if_neg h5']at e2;simp only[go_sem,simprocAttr];refine bh (done++[t],rest,r,g++[_,_]) ⟨by rw[e1];simp,e2,e3⟩ (j4 _) rfl ?_;simp only[hnx,go_sem,simprocAttr]
  have h5k:t.kind=(n:Int):=by simpa using h5
  simp only[go_sem,simprocAttr];cases h6:(dN t).2
  .have h6':¬(t.kind=(n:Int)/\iA t=true):=λh=>by rw[iA,h6]at h;simp at h
   rw[if_neg h6']at e2;simp only[go_sem,simprocAttr];refine bh (done++[t],rest,r,g++[_,_]) ⟨by rw[e1];simp,e2,e3⟩ (j4 _) rfl ?_;simp only[hnx,go_sem,simprocAttr]
  rw[if_pos ⟨h5k,by rw[iA,h6]⟩]at e2;simp only[go_sem,simprocAttr];cases h7:decide (r.lo<0)
  .have h7':¬r.lo<0:=by simpa using h7
   simp only[gg,bn,go_sem,simprocAttr];refine bh (done++[t],rest,gz r (dN t).1,g++[_,_]) ⟨by rw[e1];simp,e2,Ba e3 hrl⟩ (j4 _) (by simp only[gz,if_neg h7',go_sem,simprocAttr];exact⟨rfl,rfl⟩) ?_;simp only[hnx,go_sem,simprocAttr]
  .have h7':r.lo<0:=by simpa using h7
   simp only[gg,bn,Int.lt_irrefl,go_sem,simprocAttr];refine bh (done++[t],rest,gz r (dN t).1,g++[_,_]) ⟨by rw[e1];simp,e2,Ba e3 hrl⟩ (j4 _) (by simp only[gz,if_pos h7',go_sem,simprocAttr];exact⟨rfl,rfl⟩) ?_;simp only[hnx,go_sem,simprocAttr]
end Abs
end Go.Proofs.YtoapoaoelpcniaaGreatDoor
