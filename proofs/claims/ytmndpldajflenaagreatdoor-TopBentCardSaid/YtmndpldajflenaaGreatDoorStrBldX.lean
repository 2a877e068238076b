/- CONTRACTS of the program's functions, and laws on what they return. No conditions but those in the theorems' heads. -/
import Derived.Test.YtmndpldajflenaaGreatDoorHrShelfX
import Derived.Lib.Builder
import Derived.Laws.Externs
set_option linter.all false
set_option maxHeartbeats 16000000
open Go.Proofs.Tryz renaming prog->TP
open Go.Proofs.Tryz
namespace Go.Proofs.YtmndpldajflenaaGreatDoor
namespace Abs
open Go.RowKit
set_option maxRecDepth 100000
theorem Dm:(TP.info? 221).map (·.size)=some 2:=by kernel_rfl
theorem KG:liesAt TP TP.depth 221 (2 / TP.cellsOf 221) 0 221 1=true:=by kernel_rfl
theorem yF(b)(w)(h0:w.cell? ⟨b,0,none⟩=some (.pointer (some ⟨b,0,none⟩))) :
  Calls TP 146 #[.pointer (some ⟨b,0,none⟩)] w λe w'=>e=.returned (.tuple #[])/\w'=w:=by
 obtain⟨j,hj,_⟩:=bx.1 Dm
 go_enter func146,ntmps146
 go_wp2
 rw[Lib.run_neq_ptr_same w _ underlying219 hj]
 go_wp2
 go_end0
 exact⟨rfl,rfl⟩
theorem xj(b)(w)(h0:w.cell? ⟨b,0,none⟩=some (.pointer none))(hsh:w.shape? b=some (221,2))(hfz:w.frozen? ⟨b,0,none⟩=false) :
  Calls TP 146 #[.pointer (some ⟨b,0,none⟩)] w λe w'=>e=.returned (.tuple #[])/\w'=w.setCell ⟨b,0,none⟩ (.pointer (some ⟨b,0,none⟩)):=by
 obtain⟨j,hj,hjs⟩:=bx.1 Dm
 go_enter func146,ntmps146
 go_wp2
 rw[Lib.run_to_unsafe w ⟨b,0,none⟩ underlying219 underlying320 hj (by rw[hjs];decide) hsh (Nat.zero_lt_succ 1)];simp only[Result.andThen];rw[Oper.upon_value]
 go_wp2
 rw[run_callFunc_extern func185 (by kernel_rfl) (by kernel_rfl) (by kernel_rfl) (e:=Extern.AbiNoEscape.same) (by kernel_rfl)];rw[Lib.run_noEscape];simp only[Result.andThen];rw[Oper.upon_value]
 go_wp2
 rw[Lib.run_from_unsafe w ⟨b,0,none⟩ underlying320 underlying219 hj hsh KG];simp only[Result.andThen];rw[Oper.upon_value]
 go_wp2
 go_end0
 exact⟨rfl,rfl⟩
theorem kx{w:World}{b}{cs}{T}{fr}(hb:w.heap[b]?=some (.cells cs T fr))(j):w.cell? ⟨b,j,none⟩=cs[j]?:=by
 simp[World.cell?,hb]
theorem IA(b)(w)(p v)(hb:w.heap[b]?=some (.cells #[p,v] 221 (0,0)))(hp:p=.pointer none\/p=.pointer (some ⟨b,0,none⟩)) :
  Calls TP 146 #[.pointer (some ⟨b,0,none⟩)] w λe w'=>e=.returned (.tuple #[])/\OnlyB b w w'/\w'.heap[b]?=some (.cells #[.pointer (some ⟨b,0,none⟩),v] 221 (0,0)):=by
 rcases hp with rfl|rfl
 .refine(xj b w (by rw[kx hb];rfl) (by simp[World.shape?,hb]) (by simp[World.frozen?,hb])).mono ?_
  rintro e w' ⟨rfl,rfl⟩
  refine⟨rfl,rC _ _ _ _,?_⟩;simp[World.setCell,IX,hb]
 .refine(yF b w (by rw[kx hb];rfl)).mono ?_
  rintro e w' ⟨rfl,rfl⟩
  exact⟨rfl,OnlyB.refl _ _,hb⟩
theorem wpList_append_run{P}{ops}{rest}{o}{a}{w}{Q}(hgd:o.guard=none)(sl x)(t u)
  (ho:o.op=.call { callee:=.builtin .append,args:=#[sl,x],argTypes:=#[t,u] }) (v y v') (w') (hs:a.eval sl=v) (hx:a.eval x=y)
  (hr:∀ty,(Builtin.append_ #[t,u] ty #[v,y]).run P w=.ok v' w') (h:wpList P ops Q rest (a.put o.dst v') w'):wpList P ops Q (o::rest) a w:=by
 refine wpList_plain hgd λK hK=>?_;unfold Oper.wp execOp;simp only[ho,resolve,invoke,builtin,Sem.run_bind,Sem.run_pure,aG,List.map_toArray,iu,zi,hs,hx,hr o.type];exact hK _ _ h
theorem Iz(b)(w)(p v)(s)(R:World->Prop)(hb:w.heap[b]?=some (.cells #[p,v] 221 (0,0)))(hp:p=.pointer none\/p=.pointer (some ⟨b,0,none⟩))
  (hv:∀w1,OnlyB b w w1->w1.heap[b]?=some (.cells #[.pointer (some ⟨b,0,none⟩),v] 221 (0,0))->∃w2 v2 p2 v0,(∀ty,(Builtin.append_ #[205,9] ty #[v,.string s]).run TP w1=.ok v2 w2)/\w2.heap[b]?=some (.cells #[p2,v0] 221 (0,0)) /\
   (∃a n c,v2=.slice a n c)/\R (w2.setCell ⟨b,1,none⟩ v2)) :
  Calls TP 102 #[.pointer (some ⟨b,0,none⟩),.string s] w λe w'=>e=.returned (.tuple #[.int .i64 s.size,.nilIface])/\R w':=by
 go_enter func102,ntmps102
 go_wp2_with (go_at_call 146;refine(IA b _ p v hb hp).mono ?_)
 rintro e w1 ⟨rfl,ho,hb1⟩
 obtain⟨w2,v2,p2,v0,hap,hb2,⟨a,n,c,rfl⟩,hR⟩:=hv w1 ho hb1;have c0:w1.cell? ⟨b,0,none⟩=some (.pointer (some ⟨b,0,none⟩)):=by rw[kx hb1];rfl
 have c1:w1.cell? ⟨b,1,none⟩=some v:=by rw[kx hb1];rfl
 have d0:w2.cell? ⟨b,0,none⟩=some p2:=by rw[kx hb2];rfl
 have d1:w2.cell? ⟨b,1,none⟩=some v0:=by rw[kx hb2];rfl
 have f1:w2.frozen? ⟨b,1,none⟩=false:=by simp[World.frozen?,hb2]
 go_wp2_with (at_builtin;refine wpList_append_run rfl _ _ 205 9 rfl v (.string s) (.slice a n c) w2 rfl rfl hap ?_)
 go_ret2
 exact⟨rfl,hR⟩
def dJ (s:ByteArray):List AV:=s.data.toList.map λb:UInt8=>AV.p (PV.int .u8 (b.toNat:Int))
theorem vW(s):(dJ s).length=s.size:=by unfold dJ;rw[qj];exact Ff
theorem MT:dc TP 9=true:=by kernel_rfl
theorem ya{h h1}{i}{x x'}{s}(hi:h[i]?=some (.bld 221 5 x))(hs0:s.size<=ai)
  (hx:x=.p .nilslice\/∃j n xs,x=.slice j n 0 n/\h[j]?=some (.row 1 xs)/\xs.length=n/\n+s.size<=ai)
  (hap:iX TP 205 9 x (.p (.str s)) h=.val x' h1) (hi1:h1[i]?=some (.bld 221 5 x)) (hx':x'=.p .nilslice\/∃j n,x'=.slice j n 0 n) :
  aN TP 102 [.ref .bl i,.p (.str s)] h (λr h'=>r=.ret (.p (.tuple [.int .i64 s.size,.niliface]))/\h'=h1.set i (.bld 221 5 x')):=by
 intro M0 m w cargs hS ha;have hn:=ha.1;have ha0:=ha.2 0 _ rfl;have ha1:=ha.2 1 _ rfl
 obtain⟨c0,c1,rfl⟩:∃c0 c1,cargs=#[c0,c1]:=⟨cargs.getD 0 undef,cargs.getD 1 undef,by
  apply oz
  .simpa using hn
  .intro i h1 h2;have:i=0\/i=1:=by simp at h2;omega
   rcases this with rfl|rfl<;>simp[h1]⟩
 have ha1':RepP (Avoid M0 m) w c1 (.str s):=ha1;cases ha1';obtain⟨b,p,v,hm,hb,hp,hxf,hr,hsh⟩:=hS.obj i _ hi;have hm':m.getD i none=some b:=hm;obtain rfl:c0=.pointer (some ⟨b,0,none⟩):=by
  rcases ha0.2 with hd|⟨_,b',hb',hv⟩
  .have hd':h[i]?=some .dead:=hd;rw[hi]at hd';cases hd'
  .have hb2:m.getD i none=some b':=hb';rw[hm']at hb2;cases hb2;exact hv
 have hb0:w.heap[b]?=some (.cells #[p,v] 221 (0,0)):=hb;refine⟨(λw'=>gS func102 Nf _ w'),?_⟩;refine(Iz b w p v s (λw'=>∃m',Ev h.length ⟨m,h,w⟩ ⟨m',h1.set i (.bld 221 5 x'),w'⟩/\HOk TP M0 ⟨m',h1.set i (.bld 221 5 x'),w'⟩) hb0 hp ?_).mono ?_
 .intro w1 ho hb1;obtain⟨k1,e1⟩:=GY (S:=⟨m,h,w⟩) hS hi hm' hb0 ho hb1 (.inr rfl) hxf hr hsh;rw[show (Mem.mk m h w).h.set i (.bld 221 5 x)=h from zW hi]at k1 e1;have hr1:bp M0 ⟨m,h,w1⟩ v x:=e1.rep0 hr (eh hr);have hvx:Rep M0 ⟨m,h,w1⟩ v x:=by
   rcases hxf with rfl|⟨j,n,rfl⟩
   .exact hr1
   .exact hr1
  have hap1:=yk (P:=TP) (T:=205) (U:=9) (ty:=0) k1 hvx (show Rep M0 ⟨m,h,w1⟩ (.string s) (.p (.str s)) from RepP.str s);rw[show (Mem.mk m h w1).h=h from rfl,hap]at hap1;obtain⟨S2,v2,hS2,hrun,e2,k2,hr2⟩:=hap1;obtain⟨m2,h2,w2⟩:=S2;obtain rfl:h1=h2:=hS2.symm;have hrun':∀ty,(Builtin.append_ #[205,9] ty #[v,.string s]).run TP w1=.ok v2 w2:=λty=>hrun;obtain⟨b2,p2,v0,hm2,hb2,hp2,_,_,_⟩:=k2.obj i _ hi1;have hbb:b2=b:=by
   obtain⟨o',ho',hoe⟩:=e2.obj i _ (aA.1 hi).1 hi;have ho2:h1[i]?=some o':=ho';rw[hi1]at ho2;cases ho2;rcases hoe with he|⟨_,_,_,he,_⟩|⟨_,_,he⟩
   .cases he
   .cases he
   .have:m2.getD i none=m.getD i none:=he;rw[hm']at this;have hm2':m2.getD i none=some b2:=hm2;rw[this]at hm2';cases hm2';rfl
  subst hbb;have hb2':w2.heap[b2]?=some (.cells #[p2,v0] 221 (0,0)):=hb2;have hsl:∃a n c,v2=.slice a n c:=by
   rcases hx' with rfl|⟨j,n,rfl⟩
   .have h':RepP (Avoid M0 m2) w2 v2 .nilslice:=hr2;cases h';exact⟨_,_,_,rfl⟩
   .exact hr2.1
  have hsh2:=BC (P:=TP) (T:=205) (U:=9) (e:=5) (ty:=0) k1 hx hs0 hr1 (by kernel_rfl) MT (by kernel_rfl) (by kernel_rfl) (by kernel_rfl)
   (λa n c hv=>by
    obtain⟨N,hN⟩:=hsh a n c hv
    exact⟨N,(e1.fr.shape _ (nF hN)).trans hN⟩) (hrun' 0) (λc hc=>e2.fr.shape c hc)
  have hr2':bp M0 ⟨m2,h1,w2⟩ v2 x':=by
   rcases hx' with rfl|⟨j,n,rfl⟩
   .exact hr2
   .exact hr2
  refine⟨w2,v2,p2,v0,hrun',hb2',hsl,m2,?_⟩;obtain⟨k3,e3⟩:=GY (S:=⟨m2,h1,w2⟩) (w':=w2.setCell ⟨b2,1,none⟩ v2) (p':=p2) (v':=v2) (x':=x') k2 hi1 hm2 hb2' (rC _ _ _ _) (by simp[World.setCell,IX,hb2']) hp2 hx' hr2' hsh2;exact⟨(e1.trans e2).trans (e3.mono (e2.len (aJ _))),k3⟩
 .rintro e w' ⟨rfl,m',hev,hk⟩
  exact⟨.ret (.p (.tuple [.int .i64 s.size,.niliface])),_,m',⟨rfl,rfl⟩,hev,hk,te (.int _ _) .niliface⟩
theorem Ak(w)(p)(n):OnlyB p.block w (w.freeze p n):=by
 unfold World.freeze;split
 .exact OnlyB.refl _ _
 .exact⟨rfl,rfl,rfl,by simp,λk hk=>by simp only[IX];rw[if_neg (Ne.symm hk)]⟩
theorem AX(w:World)(p)(n c):(w.freeze p n).shape? c=w.shape? c:=by
 unfold World.freeze;split
 .rfl
 .unfold World.shape?;simp only[IX];by_cases hc:p.block=c
  .rw[if_pos hc];subst hc
   cases w.heap[p.block]? with
   |none=>rfl
   |some o=>cases o<;>rfl
  .rw[if_neg hc]
theorem JC:TP.cellsOf 5=1:=by kernel_rfl
theorem EO(b g cap N)(w)(p)(l)(h0:l≠[])(hb:w.heap[b]?=some (.cells #[p,.slice (some ⟨g,0,none⟩) l.length cap] 221 (0,0)))
  (hg:w.shape? g=some (5,N)) (hN:l.length<=N) (hc:l.length<=cap) (h63:l.length<=9223372036854775807) (hcell:∀j x,l[j]?=some x->w.cell? ⟨g,j,none⟩=some (.int .u8 x.toNat)) :
  Calls TP 104 #[.pointer (some ⟨b,0,none⟩)] w λe w'=>e=.returned (.string ⟨l.toArray⟩)/\w'=w.drew.freeze ⟨g,0,none⟩ l.length:=by
 have hl0:l.length≠0:=by simpa using h0
 have c1:w.drew.cell? ⟨b,1,none⟩=some (.slice (some ⟨g,0,none⟩) l.length cap):=by
  have:w.drew.heap[b]?=some (.cells #[p,.slice (some ⟨g,0,none⟩) l.length cap] 221 (0,0)):=hb;rw[kx this];rfl
 have hSD:(Builtin.unsafeSliceData_ #[205] 281 #[.slice (some ⟨g,0,none⟩) l.length cap]).run TP w.drew=.ok (.pointer (some ⟨g,0,none⟩)) w.drew:=
  Lib.run_unsafeSliceData_row _ _ _ _ _ _ (by omega)
 have hUS:(Builtin.unsafeString_ #[281,3] 9 #[.pointer (some ⟨g,0,none⟩),.int .i64 l.length]).run TP w.drew=.ok (.string ⟨l.toArray⟩) (w.drew.freeze ⟨g,0,none⟩ l.length):=
  Lib.run_unsafeString_row w.drew 281 3 9 5 underlying281 JC g N hg l h0 hN h63 (λj x hx=>by rw[dg,eN];exact hcell j x hx)
 go_enter func104,ntmps104
 go_wp2
 go_region
 all_goals (go_wp2;go_ret;exact⟨rfl,rfl⟩)
theorem Ep{h}{i j}{s}(hi:h[i]?=some (.bld 221 5 (.slice j s.size 0 s.size)))(hj:h[j]?=some (.row 1 (dJ s)))(h0:s.size≠0)(h63:s.size<=9223372036854775807) :
  aN TP 104 [.ref .bl i] h (λr h'=>r=.ret (.p (.str s))/\h'=h.set j .dead):=by
 intro M0 m w cargs hS ha;have hn:=ha.1;have ha0:=ha.2 0 _ rfl
 obtain⟨c0,rfl⟩:∃c0,cargs=#[c0]:=⟨cargs.getD 0 undef,by
  apply oz
  .simpa using hn
  .intro i h1 h2;have:i=0:=by simp at h2;omega
   subst this
   simp[h1]⟩
 obtain⟨b,p,v,hm,hb,hp,hxf,hr,hsh⟩:=hS.obj i _ hi;have hm':m.getD i none=some b:=hm;obtain rfl:c0=.pointer (some ⟨b,0,none⟩):=by
  rcases ha0.2 with hd|⟨_,b',hb',hv⟩
  .have hd':h[i]?=some .dead:=hd;rw[hi]at hd';cases hd'
  .have hb2:m.getD i none=some b':=hb';rw[hm']at hb2;cases hb2;exact hv
 have hb0:w.heap[b]?=some (.cells #[p,v] 221 (0,0)):=hb;refine⟨λw'=>Go.Proofs.enters_of func104 (by kernel_rfl) rfl _ w',?_⟩;have hlen:s.data.toList.length=s.size:=Ff;rcases bK hr.2 hj (vW s) with⟨h1,h2,h3,_⟩|⟨g,cap,T',N,hmg,rfl,hcap,hsh2,hfit,hreach⟩|⟨_,rfl,h00⟩
 .exact absurd h1 h0
 .obtain⟨C,T2,hb2,hsize2,hel2⟩:=dU hS hj hmg;have hgs:w.shape? g=some (5,C.size):=by
   obtain⟨N',hN'⟩:=hsh _ _ _ rfl;have hN2:w.shape? g=some (5,N'):=hN';have hb3:w.heap[g]?=some (.cells C T2 (0,0)):=hb2;unfold World.shape? at hN2 |-;rw[hb3]at hN2 |-;simp at hN2 |-;exact hN2.1
  have hsz:s.size<=C.size:=by
   have:(dJ s).length*1<=C.size:=hsize2;rw[vW]at this;omega
  have hv:(Value.slice (some ⟨g,0*1,none⟩) s.size cap)=.slice (some ⟨g,0,none⟩) s.data.toList.length cap:=by rw[Nat.zero_mul,hlen]
  rw[hv]at hb0;have hcells:∀(k:Nat) (x:UInt8),s.data.toList[k]?=some x->w.cell? ⟨g,k,none⟩=some (.int .u8 x.toNat):=by
   intro k x hx;obtain⟨cs,a1,a2,a3⟩:=hel2 k (.p (.int .u8 x.toNat)) (by simp[dJ,hx]);cases a1;have a4:=(a3 0 _ rfl).2;have a5:RepP (Avoid M0 m) w (C.getD (k*1+0) undef) (.int .u8 x.toNat):=a4;have hk:k<C.size:=by have:=(aA.1 hx).1;omega
   have hb3:w.heap[g]?=some (.cells C T2 (0,0)):=hb2;rw[gU hb3 k hk];rw[Nat.mul_one,j5]at a5;generalize C.getD k undef=z at a5 |-;cases a5;rfl
  refine(EO b g cap C.size w p s.data.toList (by intro hc;rw[hc]at hlen;simp at hlen;omega) hb0 hgs (by omega) (by rw[hlen];exact hcap.1) (by omega) hcells).mono ?_
  rintro e w' ⟨rfl,rfl⟩
  have hof:OnlyB g w (w.drew.freeze ⟨g,0,none⟩ s.data.toList.length):=by
   have:=Ak w.drew ⟨g,0,none⟩ s.data.toList.length;exact⟨this.os,this.tape,this.output,this.size,this.block⟩
  obtain⟨hk,hev⟩:=B6 (S:=⟨m,h,w⟩) hS j (w':=w.drew.freeze ⟨g,0,none⟩ s.data.toList.length)
   ⟨hof.os,hof.tape,hof.output,yN hof.size.symm,λc _ hc=>hof.block c (λe=>hc (e▸aV (cp hmg))),λc _=>AX w.drew _ _ c⟩
   (λx bl hx hbl=>hof.block bl λe=>hx (hS.inj x j bl (cp hbl) (e▸cp hmg)))
  exact⟨.ret (.p (.str s)),_,m,⟨rfl,rfl⟩,hev,hk,RepP.str s⟩
 .exact absurd h00 h0
set_option maxRecDepth 4000
structure HrKindOk (k:HrKind):Prop where
 lo:1<=k.weight.lo
 le:k.weight.lo<=k.weight.hi
 hi:k.weight.hi<=10000000
 rest:0<=k.rest
 less:k.rest<k.weight.lo
 name:nameOk k.name=true
structure HrK where
 k:HrKind
 rates:Span
def HrK.pv (x:HrK):PV:=.agg [.str x.k.name,.int .i64 x.k.weight.lo,.int .i64 x.k.weight.hi,.int .i64 x.k.rest,.int .i64 x.rates.lo,.int .i64 x.rates.hi]
attribute [go_sem] HrK.pv
structure HrKOk (x:HrK):Prop where
 k:HrKindOk x.k
 lo:0<=x.rates.lo
 le:x.rates.lo<=x.rates.hi
 pos:1<=x.rates.hi
 hi:x.rates.hi<=901800000
def HrK.least (x:HrK):Frac:=⟨60*(x.k.weight.lo-x.k.rest),x.rates.hi⟩
def HrK.most (x:HrK):Frac:=if 0<x.rates.lo then⟨60*(x.k.weight.hi-x.k.rest),x.rates.lo⟩ else⟨-1,1⟩
def HrK.promise (x:HrK):Int:=if Frac.down ⟨x.least.top,x.least.below*60⟩<16666 then Frac.down ⟨x.least.top,x.least.below*60⟩ else 16666
theorem HrKOk.mostB{x}(hx:HrKOk x):-1<=x.most.top/\x.most.top<=600000000/\1<=x.most.below/\x.most.below<=901800000:=by
 have hk:=hx.k;have h1:=hk.lo;have h2:=hk.le;have h3:=hk.hi;have h4:=hk.rest;have h5:=hk.less;have h6:=hx.le;have h7:=hx.hi
 simp only[HrK.most];split<;>dsimp only<;>omega
def HrK.short (x:HrK) (r:HrRule):Bool:=x.least.lt ⟨r.minutes.lo,1⟩
def HrK.size (x:HrK) (r:HrRule):Bool:=!an x.k.weight.lo r.weight.lo r.weight.hi||!an x.k.weight.hi r.weight.lo r.weight.hi
def HrK.minutes (x:HrK):Span:=⟨if x.least.down<1000000 then x.least.down else 1000000,if an x.most.up 0 1000000=true then x.most.up else 1000000⟩
def oJ:List UInt8:=[116,101,115,116,32]
def sp:List UInt8:=[32]
def nl:List UInt8:=[10]
theorem Cq{h:Heap}{i:Nat}{s:ByteArray}(hi:h[i]?=some (.bld 221 5 (.p .nilslice)))(hs:s.size<=1000000)(h0:s.size≠0) :
  aN TP 102 [.ref .bl i,.p (.str s)] h (λr h'=>r=.ret (.p (.tuple [.int .i64 s.size,.niliface])) /\
   h'=(h++[AObj.row 1 (dJ s)]).set i (.bld 221 5 (.slice h.length s.size 0 s.size))):=by
 have hil:=(aA.1 hi).1;refine ya (x':=.slice h.length s.size 0 s.size) hi (by simp[ai];omega) (.inl rfl) ?_ (by rw[br hil];exact hi) (.inr ⟨_,_,rfl⟩);have hne:¬(List.map (λb:UInt8=>AV.p (PV.int .u8 (b.toNat:Int))) s.data.toList=[]):=λh=>h0 (by have:=congrArg List.length h;simpa using this);have hrm:s.size<=ai:=by simp[ai];omega
 have hl:s.data.size=s.size:=rfl;simp only[hne,hrm,Ff,hl,dJ,go_sem,simprocAttr];rw[if_neg (by simp)]
theorem q4{h:Heap}{i j n:Nat}{xs:List AV}{s:ByteArray}(hi:h[i]?=some (.bld 221 5 (.slice j n 0 n)))(hj:h[j]?=some (.row 1 xs))(hn:xs.length=n)(hij:i≠j)(hs:n+s.size<=1000000) :
  aN TP 102 [.ref .bl i,.p (.str s)] h (λr h'=>r=.ret (.p (.tuple [.int .i64 s.size,.niliface])) /\
   h'=(h.set j (.row 1 (xs++dJ s))).set i (.bld 221 5 (.slice j (n+s.size) 0 (n+s.size)))):=by
 refine ya (x':=.slice j (n+s.size) 0 (n+s.size)) hi (by simp[ai];omega) (.inr ⟨j,n,xs,rfl,hj,hn,by simp[ai];omega⟩) ?_ (by rw[cq hij.symm];exact hi) (.inr ⟨_,_,rfl⟩);have hrm:n+s.size<=ai:=by simp[ai];omega
 have hl:s.data.size=s.size:=rfl;simp only[hj,hn,hrm,Ff,hl,dJ,go_sem,simprocAttr];rw[if_neg (by simp)]
namespace Tr
set_option maxRecDepth 100000
def oa:List TrBatch:=[⟨⟨#[97]⟩,100,100,false,[]⟩,⟨⟨#[98]⟩,80,80,false,[]⟩,⟨⟨#[99]⟩,60,20,false,[⟨0,40⟩]⟩,⟨⟨#[100]⟩,50,10,true,[]⟩]
def bk (d:Int):List TrBatch:=[⟨⟨#[97]⟩,100,100,false,[]⟩,⟨⟨#[98]⟩,80,80,false,[]⟩,⟨⟨#[99]⟩,60,20,false,[⟨0,40⟩]⟩,⟨⟨#[100]⟩,d,10,true,[]⟩,⟨⟨#[101]⟩,40,0,false,[⟨2,30⟩,⟨3,10⟩]⟩]
def Mz (d:Int):PV:=.slice 5 [.agg [.str ⟨#[97]⟩,.int .i64 100,.int .i64 100,.bool false,.nilslice],.agg [.str ⟨#[98]⟩,.int .i64 80,.int .i64 80,.bool false,.nilslice],
 .agg [.str ⟨#[99]⟩,.int .i64 60,.int .i64 20,.bool false,.slice 2 [.agg [.int .i64 0,.int .i64 40]] true],.agg [.str ⟨#[100]⟩,.int .i64 d,.int .i64 10,.bool true,.nilslice],
 .agg [.str ⟨#[101]⟩,.int .i64 40,.int .i64 0,.bool false,.slice 2 [.agg [.int .i64 2,.int .i64 30],.agg [.int .i64 3,.int .i64 10]] true]] true
theorem NO(d:Int):PL (Mz d) (.slice 5 ((bk d).map TrBatch.pv) false):=
 PL.sliceL rfl ⟨PL.aggL rfl ⟨.refl _,.refl _,.refl _,.refl _,.nil 2,trivial⟩,PL.aggL rfl ⟨.refl _,.refl _,.refl _,.refl _,.nil 2,trivial⟩,
  PL.aggL rfl ⟨.refl _,.refl _,.refl _,.refl _,PL.sliceL rfl ⟨.refl _,trivial⟩,trivial⟩,PL.aggL rfl ⟨.refl _,.refl _,.refl _,.refl _,.nil 2,trivial⟩,
  PL.aggL rfl ⟨.refl _,.refl _,.refl _,.refl _,PL.sliceL rfl ⟨.refl _,.refl _,trivial⟩,trivial⟩,trivial⟩
theorem ri(d:Int):PCall TP 44 [.int .i64 d] (.slice 5 ((bk d).map TrBatch.pv) false):=by
 refine So.PCall.lss (q:=Mz d) ?_ (λ_ _ _ hr=>PL.rep (NO d) hr);refine cm (am func44 rfl) rfl ?_;simp only[Mz,go_sem,simprocAttr]
theorem yY:(bM (bk 50)).2.2=0:=by kernel_rfl
theorem Ma:(bM (bk 140)).2.2=0:=by kernel_rfl
theorem L':(bM oa).2.2=0:=by kernel_rfl
theorem zL(d:Int):cZ (bk d):=λy hy=>by
 simp only[bk,dQ,rM,or_false]at hy;rcases hy with rfl|rfl|rfl|rfl|rfl<;>simp
theorem NV:cZ oa:=λy hy=>by
 simp only[oa,dQ,rM,or_false]at hy;rcases hy with rfl|rfl|rfl|rfl<;>simp
theorem v1:vq (jb (bk 50) 0) 0=[2,4]:=by kernel_rfl
theorem v2:vq (la (bk 50) 0) 0=[2,3,4]:=by kernel_rfl
theorem v3:bC (λi=>jb (bk 50) i 4) 4=[0,2,3]:=by kernel_rfl
theorem v4:bC (λi=>la (bk 50) i 4) 4=[0,1,2,3]:=by kernel_rfl
theorem v5:short (fa (bk 140) 1).nv (fa (bk 140) 1).has (fa (bk 140) 1).needs=40:=by kernel_rfl
theorem v6:fh (bk 50).length (fD (bk 50) [4]) [3]=some [1]:=by kernel_rfl
theorem v7:kept (bk 140) 1=80/\mn (bk 140) 1=130:=by constructor<;>kernel_rfl
theorem H9:mR 100=⟨#[49,48,48]⟩:=by kernel_rfl
theorem i80:mR 80=⟨#[56,48]⟩:=by kernel_rfl
theorem NX:mR 60=⟨#[54,48]⟩:=by kernel_rfl
theorem i20:mR 20=⟨#[50,48]⟩:=by kernel_rfl
theorem NZ:mR 40=⟨#[52,48]⟩:=by kernel_rfl
theorem NY:mR 50=⟨#[53,48]⟩:=by kernel_rfl
theorem N0:mR 10=⟨#[49,48]⟩:=by kernel_rfl
theorem LU:PCall TP 103 [.slice 1 [.str ⟨#[97]⟩,.str ⟨#[49,48,48]⟩,.str ⟨#[49,48,48]⟩] true,.str ⟨#[32]⟩] (.str ⟨#[97,32,49,48,48,32,49,48,48]⟩):=by
 have h:=za [[97],[49,48,48],[49,48,48]] [32] true (by decide) (by decide);have e:bs (Lib.join [[97],[49,48,48],[49,48,48]] [32])=⟨#[97,32,49,48,48,32,49,48,48]⟩:=by kernel_rfl
 rw[e]at h;exact h
theorem LT:PCall TP 103 [.slice 1 [.str ⟨#[98]⟩,.str ⟨#[56,48]⟩,.str ⟨#[56,48]⟩] true,.str ⟨#[32]⟩] (.str ⟨#[98,32,56,48,32,56,48]⟩):=by
 have h:=za [[98],[56,48],[56,48]] [32] true (by decide) (by decide);have e:bs (Lib.join [[98],[56,48],[56,48]] [32])=⟨#[98,32,56,48,32,56,48]⟩:=by kernel_rfl
 rw[e]at h;exact h
theorem LS:PCall TP 103 [.slice 1 [.str ⟨#[99]⟩,.str ⟨#[54,48]⟩,.str ⟨#[50,48]⟩,.str ⟨#[97]⟩,.str ⟨#[52,48]⟩] false,.str ⟨#[32]⟩] (.str ⟨#[99,32,54,48,32,50,48,32,97,32,52,48]⟩):=by
 have h:=za [[99],[54,48],[50,48],[97],[52,48]] [32] false (by decide) (by decide);have e:bs (Lib.join [[99],[54,48],[50,48],[97],[52,48]] [32])=⟨#[99,32,54,48,32,50,48,32,97,32,52,48]⟩:=by kernel_rfl
 rw[e]at h;exact h
theorem LR:PCall TP 103 [.slice 1 [.str ⟨#[100]⟩,.str ⟨#[53,48]⟩,.str ⟨#[49,48]⟩,.str ⟨#[108,111,115,116]⟩] false,.str ⟨#[32]⟩] (.str ⟨#[100,32,53,48,32,49,48,32,108,111,115,116]⟩):=by
 have h:=za [[100],[53,48],[49,48],[108,111,115,116]] [32] false (by decide) (by decide);have e:bs (Lib.join [[100],[53,48],[49,48],[108,111,115,116]] [32])=⟨#[100,32,53,48,32,49,48,32,108,111,115,116]⟩:=by kernel_rfl
 rw[e]at h;exact h
theorem PY:10<=iQ:=by simp[iQ]
theorem P6:(⟨#[97,32,49,48,48,32,49,48,48]⟩:ByteArray)++(⟨#[10]⟩:ByteArray)=⟨#[97,32,49,48,48,32,49,48,48,10]⟩:=by kernel_rfl
theorem PT:ByteArray.size ⟨#[97,32,49,48,48,32,49,48,48,10]⟩=10:=rfl
theorem PX:8<=iQ:=by simp[iQ]
theorem P5:(⟨#[98,32,56,48,32,56,48]⟩:ByteArray)++(⟨#[10]⟩:ByteArray)=⟨#[98,32,56,48,32,56,48,10]⟩:=by kernel_rfl
theorem PS:ByteArray.size ⟨#[98,32,56,48,32,56,48,10]⟩=8:=rfl
theorem Qd:dJ ⟨#[97,32,49,48,48,32,49,48,48,10]⟩++dJ ⟨#[98,32,56,48,32,56,48,10]⟩=dJ ⟨#[97,32,49,48,48,32,49,48,48,10,98,32,56,48,32,56,48,10]⟩:=by kernel_rfl
theorem Qa:(dJ ⟨#[97,32,49,48,48,32,49,48,48,10]⟩).length=10:=by kernel_rfl
theorem PW:13<=iQ:=by simp[iQ]
theorem P3:(⟨#[99,32,54,48,32,50,48,32,97,32,52,48]⟩:ByteArray)++(⟨#[10]⟩:ByteArray)=⟨#[99,32,54,48,32,50,48,32,97,32,52,48,10]⟩:=by kernel_rfl
theorem PR:ByteArray.size ⟨#[99,32,54,48,32,50,48,32,97,32,52,48,10]⟩=13:=rfl
theorem Qc:dJ ⟨#[97,32,49,48,48,32,49,48,48,10,98,32,56,48,32,56,48,10]⟩++dJ ⟨#[99,32,54,48,32,50,48,32,97,32,52,48,10]⟩=dJ ⟨#[97,32,49,48,48,32,49,48,48,10,98,32,56,48,32,56,48,10,99,32,54,48,32,50,48,32,97,32,52,48,10]⟩:=by kernel_rfl
theorem P':(dJ ⟨#[97,32,49,48,48,32,49,48,48,10,98,32,56,48,32,56,48,10]⟩).length=18:=by kernel_rfl
theorem PU:13<=iQ:=by simp[iQ]
theorem PZ:(⟨#[100,32,53,48,32,49,48,32,108,111,115,116]⟩:ByteArray)++(⟨#[10]⟩:ByteArray)=⟨#[100,32,53,48,32,49,48,32,108,111,115,116,10]⟩:=by kernel_rfl
theorem PQ:ByteArray.size ⟨#[100,32,53,48,32,49,48,32,108,111,115,116,10]⟩=13:=rfl
theorem Qb:dJ ⟨#[97,32,49,48,48,32,49,48,48,10,98,32,56,48,32,56,48,10,99,32,54,48,32,50,48,32,97,32,52,48,10]⟩++dJ ⟨#[100,32,53,48,32,49,48,32,108,111,115,116,10]⟩=dJ ⟨#[97,32,49,48,48,32,49,48,48,10,98,32,56,48,32,56,48,10,99,32,54,48,32,50,48,32,97,32,52,48,10,100,32,53,48,32,49,48,32,108,111,115,116,10]⟩:=by kernel_rfl
theorem P9:(dJ ⟨#[97,32,49,48,48,32,49,48,48,10,98,32,56,48,32,56,48,10,99,32,54,48,32,50,48,32,97,32,52,48,10]⟩).length=31:=by kernel_rfl
theorem LL(f:Bool):PCall TP 47 [.slice 5 (oa.map TrBatch.pv) f] (.tuple [.str ⟨#[97,32,49,48,48,32,49,48,48,10,98,32,56,48,32,56,48,10,99,32,54,48,32,50,48,32,97,32,52,48,10,100,32,53,48,32,49,48,32,108,111,115,116,10]⟩,.int .i64 0]):=by
 have hc:=xh oa f L' NV;refine ae (am func47 rfl) rfl ?_;simp only[oa,go_sem,simprocAttr];refine aa hc rfl ?_;simp only[oa,go_sem,simprocAttr];refine aE ?_;simp only[go_sem,simprocAttr];refine ao (ma 100 (by decide) (by decide)) rfl ?_;simp only[H9,go_sem,simprocAttr];refine ao (ma 100 (by decide) (by decide)) rfl ?_;simp only[H9,go_sem,simprocAttr];refine aE ?_;simp only[go_sem,simprocAttr];refine aa LU rfl ?_;simp only[go_sem,simprocAttr];simp only[PY,P6,go_sem,simprocAttr];refine fj (Cq (i:=0) (s:=⟨#[97,32,49,48,48,32,49,48,48,10]⟩) rfl (by decide) (by decide)) ?_;simp only[PT,go_sem,simprocAttr];refine aE ?_;simp only[go_sem,simprocAttr];refine ao (ma 80 (by decide) (by decide)) rfl ?_;simp only[i80,go_sem,simprocAttr];refine ao (ma 80 (by decide) (by decide)) rfl ?_;simp only[i80,go_sem,simprocAttr];refine aE ?_;simp only[go_sem,simprocAttr];refine aa LT rfl ?_;simp only[PX,P5,go_sem,simprocAttr];refine fj (q4 (i:=0) (j:=2) (n:=10) (s:=⟨#[98,32,56,48,32,56,48,10]⟩) rfl rfl Qa (by decide) (by decide)) ?_;simp only[PS,Qd,go_sem,simprocAttr];refine aE ?_;simp only[go_sem,simprocAttr];refine ao (ma 60 (by decide) (by decide)) rfl ?_;simp only[NX,go_sem,simprocAttr];refine ao (ma 20 (by decide) (by decide)) rfl ?_;simp only[i20,go_sem,simprocAttr];refine aE ?_;simp only[go_sem,simprocAttr];have r5:(5:Nat)<=ai:=by simp[ai]
 have r4:(4:Nat)<=ai:=by simp[ai]
 refine ao (ma 40 (by decide) (by decide)) rfl ?_;simp only[NZ,r5,go_sem,simprocAttr];refine aE ?_;simp only[go_sem,simprocAttr];refine dX LS ?_ (.str _) ?_
 .simp only[go_sem,simprocAttr]
 simp only[PW,P3,go_sem,simprocAttr];refine fj (q4 (i:=0) (j:=2) (n:=18) (s:=⟨#[99,32,54,48,32,50,48,32,97,32,52,48,10]⟩) rfl rfl P' (by decide) (by decide)) ?_;simp only[PR,Qc,go_sem,simprocAttr];refine aE ?_;simp only[go_sem,simprocAttr];refine ao (ma 50 (by decide) (by decide)) rfl ?_;simp only[NY,go_sem,simprocAttr];refine ao (ma 10 (by decide) (by decide)) rfl ?_;simp only[N0,r4,go_sem,simprocAttr];refine aE ?_;simp only[go_sem,simprocAttr];refine dX LR ?_ (.str _) ?_
 .simp only[go_sem,simprocAttr]
 simp only[PU,PZ,go_sem,simprocAttr];refine fj (q4 (i:=0) (j:=2) (n:=31) (s:=⟨#[100,32,53,48,32,49,48,32,108,111,115,116,10]⟩) rfl rfl P9 (by decide) (by decide)) ?_;simp only[PQ,Qb,go_sem,simprocAttr];refine aE ?_;simp only[go_sem,simprocAttr];refine fj (Ep (i:=0) (j:=2) (s:=⟨#[97,32,49,48,48,32,49,48,48,10,98,32,56,48,32,56,48,10,99,32,54,48,32,50,48,32,97,32,52,48,10,100,32,53,48,32,49,48,32,108,111,115,116,10]⟩) rfl rfl (by decide) (by decide)) ?_;simp only[go_sem,simprocAttr]
end Tr
end Abs
end Go.Proofs.YtmndpldajflenaaGreatDoor
