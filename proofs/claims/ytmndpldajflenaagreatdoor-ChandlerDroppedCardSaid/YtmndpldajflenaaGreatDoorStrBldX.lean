/- CONTRACTS of the program's functions, and laws on what they return. No conditions but those in the theorems' heads. -/
import Derived.Test.YtmndpldajflenaaGreatDoorStrLibX
import Derived.Lib.Walk
import Derived.Lib.Builder
import Derived.Laws.Externs
set_option linter.all false
set_option maxHeartbeats 2000000
open Go.Proofs.Tryz renaming prog->TP
open Go.Proofs.Tryz
namespace Go.Proofs.YtmndpldajflenaaGreatDoor
namespace Abs
open Go.RowKit
set_option maxRecDepth 100000
theorem HB:(TP.info? 221).map (·.size)=some 2:=by kernel_rfl
theorem QQ:liesAt TP TP.depth 221 (2 / TP.cellsOf 221) 0 221 1=true:=by kernel_rfl
theorem t6(b)(w)(i:w.cell? ⟨b,0,none⟩=some (.pointer (some ⟨b,0,none⟩))) :
  Calls TP 146 #[.pointer (some ⟨b,0,none⟩)] w λe w'=>e=.returned (.tuple #[])/\w'=w:=by
 obtain⟨j,a,_⟩:=bC.1 HB
 go_enter func146,ntmps146
 go_wp2
 rw[Lib.run_neq_ptr_same w _ underlying219 a]
 go_wp2
 go_end0
 exact⟨rfl,rfl⟩
theorem sm(b)(w)(q:w.cell? ⟨b,0,none⟩=some (.pointer none))(a:w.shape? b=some (221,2))(o:w.frozen? ⟨b,0,none⟩=false) :
  Calls TP 146 #[.pointer (some ⟨b,0,none⟩)] w λe w'=>e=.returned (.tuple #[])/\w'=w.setCell ⟨b,0,none⟩ (.pointer (some ⟨b,0,none⟩)):=by
 obtain⟨j,l,i⟩:=bC.1 HB
 go_enter func146,ntmps146
 go_wp2
 rw[Lib.run_to_unsafe w ⟨b,0,none⟩ underlying219 underlying320 l (by rw[i];decide) a (Nat.zero_lt_succ 1)];simp only[Result.andThen];rw[Oper.upon_value]
 go_wp2
 rw[run_callFunc_extern func185 (by kernel_rfl) (by kernel_rfl) (by kernel_rfl) (e:=Extern.AbiNoEscape.same) (by kernel_rfl)];rw[Lib.run_noEscape];simp only[Result.andThen];rw[Oper.upon_value]
 go_wp2
 rw[Lib.run_from_unsafe w ⟨b,0,none⟩ underlying320 underlying219 l a QQ];simp only[Result.andThen];rw[Oper.upon_value]
 go_wp2
 go_end0
 exact⟨rfl,rfl⟩
theorem gi{w:World}{b}{cs}{T}{fr}(a:w.heap[b]?=some (.cells cs T fr))(j):w.cell? ⟨b,j,none⟩=cs[j]?:=by
 simp[World.cell?,a]
theorem N3(b)(w)(p v)(a:w.heap[b]?=some (.cells #[p,v] 221 (0,0)))(i:p=.pointer none\/p=.pointer (some ⟨b,0,none⟩)) :
  Calls TP 146 #[.pointer (some ⟨b,0,none⟩)] w λe w'=>e=.returned (.tuple #[])/\OnlyB b w w'/\w'.heap[b]?=some (.cells #[.pointer (some ⟨b,0,none⟩),v] 221 (0,0)):=by
 rcases i with rfl|rfl
 .refine(sm b w (by rw[gi a];rfl) (by simp[World.shape?,a]) (by simp[World.frozen?,a])).mono ?_
  rintro e w' ⟨rfl,rfl⟩
  refine⟨rfl,lW _ _ _ _,?_⟩;simp[World.setCell,xL,a]
 .refine(t6 b w (by rw[gi a];rfl)).mono ?_
  rintro e w' ⟨rfl,rfl⟩
  exact⟨rfl,OnlyB.refl _ _,a⟩
theorem v7{P}{ops}{rest}{o}{a}{w}{Q}(e:o.guard=none)(i x)(t u)
  (q:o.op=.call { callee:=.builtin .append,args:=#[i,x],argTypes:=#[t,u] }) (v y v') (w') (j:a.eval i=v) (hx:a.eval x=y)
  (l:∀ty,(Builtin.append_ #[t,u] ty #[v,y]).run P w=.ok v' w') (h:wpList P ops Q rest (a.put o.dst v') w'):wpList P ops Q (o::rest) a w:=by
 refine wpList_plain e λK z=>?_;unfold Oper.wp execOp;simp only[q,resolve,invoke,builtin,Sem.run_bind,Sem.run_pure,aS,List.map_toArray,bK,cf,j,hx,l o.type];exact z _ _ h
theorem N1(b)(w)(p v)(s)(R:World->Prop)(C:w.heap[b]?=some (.cells #[p,v] 221 (0,0)))(z:p=.pointer none\/p=.pointer (some ⟨b,0,none⟩))
  (y:∀j,OnlyB b w j->j.heap[b]?=some (.cells #[.pointer (some ⟨b,0,none⟩),v] 221 (0,0))->∃i v2 q v0,(∀ty,(Builtin.append_ #[205,9] ty #[v,.string s]).run TP j=.ok v2 i)/\i.heap[b]?=some (.cells #[q,v0] 221 (0,0)) /\
   (∃a n c,v2=.slice a n c)/\R (i.setCell ⟨b,1,none⟩ v2)) :
  Calls TP 102 #[.pointer (some ⟨b,0,none⟩),.string s] w λe w'=>e=.returned (.tuple #[.int .i64 s.size,.nilIface])/\R w':=by
 go_enter func102,ntmps102
 go_wp2_with (go_at_call 146;refine(N3 b _ p v C z).mono ?_)
 rintro e j ⟨rfl,A,o⟩
 obtain⟨i,v2,q,v0,u,l,⟨a,n,c,rfl⟩,D⟩:=y j A o;have c0:j.cell? ⟨b,0,none⟩=some (.pointer (some ⟨b,0,none⟩)):=by rw[gi o];rfl
 have c1:j.cell? ⟨b,1,none⟩=some v:=by rw[gi o];rfl
 have G:i.cell? ⟨b,0,none⟩=some q:=by rw[gi l];rfl
 have F:i.cell? ⟨b,1,none⟩=some v0:=by rw[gi l];rfl
 have E:i.frozen? ⟨b,1,none⟩=false:=by simp[World.frozen?,l]
 go_wp2_with (at_builtin;refine v7 rfl _ _ 205 9 rfl v (.string s) (.slice a n c) i rfl rfl u ?_)
 go_ret2
 exact⟨rfl,D⟩
def gA (s:ByteArray):List AV:=s.data.toList.map λb:UInt8=>AV.p (PV.int .u8 (b.toNat:Int))
theorem jY(s):(gA s).length=s.size:=by unfold gA;rw[dp];exact wS
theorem TF:eg TP 9=true:=by kernel_rfl
theorem BH{h o}{i}{x x'}{s}(hi:h[i]?=some (.bld 221 5 x))(a5:s.size<=ao)
  (hx:x=.p .nilslice\/∃j n xs,x=.slice j n 0 n/\h[j]?=some (.row 1 xs)/\xs.length=n/\n+s.size<=ao)
  (b4:km TP 205 9 x (.p (.str s)) h=.val x' o) (I:o[i]?=some (.bld 221 5 x)) (E:x'=.p .nilslice\/∃j n,x'=.slice j n 0 n) :
  ar TP 102 [.ref .bl i,.p (.str s)] h (λr h'=>r=.ret (.p (.tuple [.int .i64 s.size,.niliface]))/\h'=o.set i (.bld 221 5 x')):=by
 intro M0 m w l hS ha;have hn:=ha.1;have b6:=ha.2 0 _ rfl;have b5:=ha.2 1 _ rfl
 obtain⟨c0,c1,rfl⟩:∃c0 c1,l=#[c0,c1]:=⟨l.getD 0 undef,l.getD 1 undef,by
  apply qg
  .simpa using hn
  .intro i o h2;have:i=0\/i=1:=by simp at h2;omega
   rcases this with rfl|rfl<;>simp[o]⟩
 have a2:RepP (Avoid M0 m) w c1 (.str s):=b5;cases a2;obtain⟨b,p,v,hm,hb,hp,M,hr,O⟩:=hS.obj i _ hi;have G:m.getD i none=some b:=hm;obtain rfl:c0=.pointer (some ⟨b,0,none⟩):=by
  rcases b6.2 with hd|⟨_,b',b3,hv⟩
  .have X:h[i]?=some .dead:=hd;rw[hi]at X;cases X
  .have z:m.getD i none=some b':=b3;rw[G]at z;cases z;exact hv
 have Y:w.heap[b]?=some (.cells #[p,v] 221 (0,0)):=hb;refine⟨(λw'=>iZ func102 Ua _ w'),?_⟩;refine(N1 b w p v s (λw'=>∃m',Ev h.length ⟨m,h,w⟩ ⟨m',o.set i (.bld 221 5 x'),w'⟩/\HOk TP M0 ⟨m',o.set i (.bld 221 5 x'),w'⟩) Y hp ?_).mono ?_
 .intro K ho b1;obtain⟨k1,e1⟩:=zx (S:=⟨m,h,w⟩) hS hi G Y ho b1 (.inr rfl) M hr O;rw[show (Mem.mk m h w).h.set i (.bld 221 5 x)=h from nH hi]at k1 e1;have F:bB M0 ⟨m,h,K⟩ v x:=e1.rep0 hr (fb hr);have a3:Rep M0 ⟨m,h,K⟩ v x:=by
   rcases M with rfl|⟨j,n,rfl⟩
   .exact F
   .exact F
  have C:=B5 (P:=TP) (T:=205) (U:=9) (ty:=0) k1 a3 (show Rep M0 ⟨m,h,K⟩ (.string s) (.p (.str s)) from RepP.str s);rw[show (Mem.mk m h K).h=h from rfl,b4]at C;obtain⟨S2,v2,b7,a0,e2,k2,y⟩:=C;obtain⟨J,h2,D⟩:=S2;obtain rfl:o=h2:=b7.symm;have u:∀ty,(Builtin.append_ #[205,9] ty #[v,.string s]).run TP K=.ok v2 D:=λty=>a0;obtain⟨b2,p2,v0,V,z,a6,_,_,_⟩:=k2.obj i _ I;have b0:b2=b:=by
   obtain⟨o',a8,a7⟩:=e2.obj i _ (aB.1 hi).1 hi;have R:o[i]?=some o':=a8;rw[I]at R;cases R;rcases a7 with L|⟨_,_,_,L,_⟩|⟨_,_,L⟩
   .cases L
   .cases L
   .have:J.getD i none=m.getD i none:=L;rw[G]at this;have A:J.getD i none=some b2:=V;rw[this]at A;cases A;rfl
  subst b0;have q:D.heap[b2]?=some (.cells #[p2,v0] 221 (0,0)):=z;have a4:∃a n c,v2=.slice a n c:=by
   rcases E with rfl|⟨j,n,rfl⟩
   .have h':RepP (Avoid M0 J) D v2 .nilslice:=y;cases h';exact⟨_,_,_,rfl⟩
   .exact y.1
  have Z:=E' (P:=TP) (T:=205) (U:=9) (e:=5) (ty:=0) k1 hx a5 F (by kernel_rfl) TF (by kernel_rfl) (by kernel_rfl) (by kernel_rfl)
   (λa n c hv=>by
    obtain⟨N,hN⟩:=O a n c hv
    exact⟨N,(e1.fr.shape _ (ql hN)).trans hN⟩) (u 0) (λc hc=>e2.fr.shape c hc)
  have a1:bB M0 ⟨J,o,D⟩ v2 x':=by
   rcases E with rfl|⟨j,n,rfl⟩
   .exact y
   .exact y
  refine⟨D,v2,p2,v0,u,q,a4,J,?_⟩;obtain⟨k3,e3⟩:=zx (S:=⟨J,o,D⟩) (w':=D.setCell ⟨b2,1,none⟩ v2) (p':=p2) (v':=v2) (x':=x') k2 I V q (lW _ _ _ _) (by simp[World.setCell,xL,q]) a6 E a1 Z;exact⟨(e1.trans e2).trans (e3.mono (e2.len (ba _))),k3⟩
 .rintro e w' ⟨rfl,m',a9,hk⟩
  exact⟨.ret (.p (.tuple [.int .i64 s.size,.niliface])),_,m',⟨rfl,rfl⟩,a9,hk,vB (.int _ _) .niliface⟩
theorem DM(w)(p)(n):OnlyB p.block w (w.freeze p n):=by
 unfold World.freeze;split
 .exact OnlyB.refl _ _
 .exact⟨rfl,rfl,rfl,by simp,λk a=>by simp only[xL];rw[if_neg (Ne.symm a)]⟩
theorem Ep(w:World)(p)(n c):(w.freeze p n).shape? c=w.shape? c:=by
 unfold World.freeze;split
 .rfl
 .unfold World.shape?;simp only[xL];by_cases a:p.block=c
  .rw[if_pos a];subst a
   cases w.heap[p.block]? with
   |none=>rfl
   |some o=>cases o<;>rfl
  .rw[if_neg a]
theorem Pg:TP.cellsOf 5=1:=by kernel_rfl
theorem Jp(b g cap N)(w)(p)(l)(o:l≠[])(u:w.heap[b]?=some (.cells #[p,.slice (some ⟨g,0,none⟩) l.length cap] 221 (0,0)))
  (q:w.shape? g=some (5,N)) (v:l.length<=N) (C:l.length<=cap) (i:l.length<=9223372036854775807) (a:∀j x,l[j]?=some x->w.cell? ⟨g,j,none⟩=some (.int .u8 x.toNat)) :
  Calls TP 104 #[.pointer (some ⟨b,0,none⟩)] w λe w'=>e=.returned (.string ⟨l.toArray⟩)/\w'=w.drew.freeze ⟨g,0,none⟩ l.length:=by
 have y:l.length≠0:=by simpa using o
 have c1:w.drew.cell? ⟨b,1,none⟩=some (.slice (some ⟨g,0,none⟩) l.length cap):=by
  have:w.drew.heap[b]?=some (.cells #[p,.slice (some ⟨g,0,none⟩) l.length cap] 221 (0,0)):=u;rw[gi this];rfl
 have A:(Builtin.unsafeSliceData_ #[205] 281 #[.slice (some ⟨g,0,none⟩) l.length cap]).run TP w.drew=.ok (.pointer (some ⟨g,0,none⟩)) w.drew:=
  Lib.run_unsafeSliceData_row _ _ _ _ _ _ (by omega)
 have z:(Builtin.unsafeString_ #[281,3] 9 #[.pointer (some ⟨g,0,none⟩),.int .i64 l.length]).run TP w.drew=.ok (.string ⟨l.toArray⟩) (w.drew.freeze ⟨g,0,none⟩ l.length):=
  Lib.run_unsafeString_row w.drew 281 3 9 5 underlying281 Pg g N q l o v i (λj x hx=>by rw[ei,gV];exact a j x hx)
 go_enter func104,ntmps104
 go_wp2
 go_region
 all_goals (go_wp2;go_ret;exact⟨rfl,rfl⟩)
theorem Jq(b)(w)(p)(a:w.heap[b]?=some (.cells #[p,.slice none 0 0] 221 (0,0))) :
  Calls TP 104 #[.pointer (some ⟨b,0,none⟩)] w λe w'=>e=.returned (.string .empty)/\w'=w.drew:=by
 have c1:w.drew.cell? ⟨b,1,none⟩=some (.slice none 0 0):=by
  have:w.drew.heap[b]?=some (.cells #[p,.slice none 0 0] 221 (0,0)):=a;rw[gi this];rfl
 have i:∀W:World,(Builtin.unsafeString_ #[281,3] 9 #[.pointer none,.int .i64 0]).run TP W=.ok (.string .empty) W:=λW=>Lib.run_unsafeString_none W _ _ _ none;have j:(Builtin.unsafeSliceData_ #[205] 281 #[.slice none 0 0]).run TP w.drew=.ok (.pointer none) w.drew:=rfl
 go_enter func104,ntmps104
 go_wp2
 go_region
 all_goals (go_wp2;go_ret;exact⟨rfl,rfl⟩)
theorem tr{h}{i j}{s}(hi:h[i]?=some (.bld 221 5 (.slice j s.size 0 s.size)))(hj:h[j]?=some (.row 1 (gA s)))(h0:s.size≠0)(b4:s.size<=9223372036854775807) :
  ar TP 104 [.ref .bl i] h (λr h'=>r=.ret (.p (.str s))/\h'=h.set j .dead):=by
 intro M0 m w q K ha;have hn:=ha.1;have a7:=ha.2 0 _ rfl
 obtain⟨c0,rfl⟩:∃c0,q=#[c0]:=⟨q.getD 0 undef,by
  apply qg
  .simpa using hn
  .intro i T h2;have:i=0:=by simp at h2;omega
   subst this
   simp[T]⟩
 obtain⟨b,p,v,hm,hb,hp,b2,hr,V⟩:=K.obj i _ hi;have X:m.getD i none=some b:=hm;obtain rfl:c0=.pointer (some ⟨b,0,none⟩):=by
  rcases a7.2 with hd|⟨_,b',a6,M⟩
  .have F:h[i]?=some .dead:=hd;rw[hi]at F;cases F
  .have o:m.getD i none=some b':=a6;rw[X]at o;cases o;exact M
 have G:w.heap[b]?=some (.cells #[p,v] 221 (0,0)):=hb;refine⟨λw'=>Go.Proofs.enters_of func104 (by kernel_rfl) rfl _ w',?_⟩;have a:s.data.toList.length=s.size:=wS;rcases cm hr.2 hj (jY s) with⟨T,h2,h3,_⟩|⟨g,cap,T',N,D,rfl,J,b0,b1,L⟩|⟨_,rfl,a9⟩
 .exact absurd T h0
 .obtain⟨C,T2,o,y,I⟩:=fj K hj D;have Y:w.shape? g=some (5,C.size):=by
   obtain⟨N',a8⟩:=V _ _ _ rfl;have u:w.shape? g=some (5,N'):=a8;have E:w.heap[g]?=some (.cells C T2 (0,0)):=o;unfold World.shape? at u |-;rw[E]at u |-;simp at u |-;exact u.1
  have b3:s.size<=C.size:=by
   have:(gA s).length*1<=C.size:=y;rw[jY]at this;omega
  have M:(Value.slice (some ⟨g,0*1,none⟩) s.size cap)=.slice (some ⟨g,0,none⟩) s.data.toList.length cap:=by rw[CD,a]
  rw[M]at G;have A:∀(k:Nat) (x:UInt8),s.data.toList[k]?=some x->w.cell? ⟨g,k,none⟩=some (.int .u8 x.toNat):=by
   intro k x hx;obtain⟨cs,a1,a2,a3⟩:=I k (.p (.int .u8 x.toNat)) (by simp[gA,hx]);cases a1;have a4:=(a3 0 _ rfl).2;have U:RepP (Avoid M0 m) w (C.getD (k*1+0) undef) (.int .u8 x.toNat):=a4;have O:k<C.size:=by have:=(aB.1 hx).1;omega
   have E:w.heap[g]?=some (.cells C T2 (0,0)):=o;rw[i6 E k O];rw[Nat.mul_one,jK]at U;generalize C.getD k undef=z at U |-;cases U;rfl
  refine(Jp b g cap C.size w p s.data.toList (by intro R;rw[R]at a;simp at a;omega) G Y (by omega) (by rw[a];exact J.1) (by omega) A).mono ?_
  rintro e w' ⟨rfl,rfl⟩
  have l:OnlyB g w (w.drew.freeze ⟨g,0,none⟩ s.data.toList.length):=by
   have:=DM w.drew ⟨g,0,none⟩ s.data.toList.length;exact⟨this.os,this.tape,this.output,this.size,this.block⟩
  obtain⟨O,Z⟩:=FJ (S:=⟨m,h,w⟩) K j (w':=w.drew.freeze ⟨g,0,none⟩ s.data.toList.length)
   ⟨l.os,l.tape,l.output,CG l.size.symm,λc _ R=>l.block c (λe=>R (e▸aG (cu D))),λc _=>Ep w.drew _ _ c⟩
   (λx bl hx a0=>l.block bl λe=>hx (K.inj x j bl (cu a0) (e▸cu D)))
  exact⟨.ret (.p (.str s)),_,m,⟨rfl,rfl⟩,Z,O,RepP.str s⟩
 .exact absurd a9 h0
theorem Lc{h}{i}(hi:h[i]?=some (.bld 221 5 (.p .nilslice))):ar TP 104 [.ref .bl i] h (λr h'=>r=.ret (.p (.str .empty))/\h'=h):=by
 intro M0 m w a C A;have E:=A.1;have z:=A.2 0 _ rfl
 obtain⟨c0,rfl⟩:∃c0,a=#[c0]:=⟨a.getD 0 undef,by
  apply qg
  .simpa using E
  .intro i K J;have:i=0:=by simp at J;omega
   subst this
   simp[K]⟩
 obtain⟨b,p,v,F,I,N,L,D,M⟩:=C.obj i _ hi;have q:m.getD i none=some b:=F;obtain rfl:c0=.pointer (some ⟨b,0,none⟩):=by
  rcases z.2 with G|⟨_,b',y,o⟩
  .have j:h[i]?=some .dead:=G;rw[hi]at j;cases j
  .have l:m.getD i none=some b':=y;rw[q]at l;cases l;exact o
 have o:RepP (Avoid M0 m) w v .nilslice:=D;cases o;have u:w.heap[b]?=some (.cells #[p,.slice none 0 0] 221 (0,0)):=I;refine⟨λw'=>Go.Proofs.enters_of func104 (by kernel_rfl) rfl _ w',(Jq b w p u).mono ?_⟩
 rintro e w' ⟨rfl,rfl⟩
 exact⟨.ret (.p (.str .empty)),_,m,⟨rfl,rfl⟩,Ev.drew _ ⟨m,h,w⟩,HOk.drew C,RepP.str _⟩
set_option maxRecDepth 4000
structure HrKindOk (k:HrKind):Prop where
 lo:1<=k.weight.lo
 le:k.weight.lo<=k.weight.hi
 hi:k.weight.hi<=10000000
 rest:0<=k.rest
 less:k.rest<k.weight.lo
 name:nameOk k.name=true
theorem eY{α}{f:List ByteArray->α->Int}{o}:∀{l} {i},firstErr f o l i=none->∀(a) (x) (r),l=a++x::r->f (i++a.map o) x=0
 |[],_,_,a,x,r,e=>by simp at e
 |y::l,i,h,a,x,r,e=>by
  rw[firstErr]at h;split at h
  .rename_i q
   cases a with
   |nil=>
    obtain⟨j,_⟩:=zM e;subst j
    simpa using q
   |cons z a=>
    obtain⟨j,u⟩:=zM e;subst j;have:=eY h a x r u;simpa using this
  .cases h
theorem gy{α}{f:List ByteArray->α->Int}{j}:∀{l} {a} {i e},firstErr f j l a=some (i,e)->e≠0
 |[],_,_,_,h=>by cases h
 |y::r,a,i,e,h=>by
  rw[firstErr]at h;split at h
  .exact gy h
  .rename_i o;cases h;exact o
theorem ME{α:Type}{l:List α}{x}(h:x∈l):∃a r,l=a++x::r:=Mm h
theorem l2{s}(h:(hrCheck s).2.2=0):firstErr bG (·.name) s.kinds []=none/\firstErr cw (·.name) s.rules []=none/\0<=s.margin/\s.margin<=500:=by
 unfold hrCheck at h;split at h
 .split at h
  .rename_i l;unfold io at h;split at h
   .rename_i i e j;exact absurd h (gy j)
   .rename_i j;split at h
    .rename_i i e a;exact absurd h (gy a)
    .rename_i a;exact⟨j,a,by simpa[ak]using l⟩
  .cases h
 .cases h
theorem xh{a}{s}(h:ai a s=0):nameOk s=true/\∀b,b∈a->b≠s:=by
 unfold ai at h;split at h
 .rename_i l;split at h
  .cases h
  .rename_i j;refine⟨l,λb i e=>j ?_⟩;rw[C3];exact⟨b,i,(nv _ _).2 e⟩
 .cases h
theorem ro{s}(h:(hrCheck s).2.2=0){k}(i:k∈s.kinds):HrKindOk k:=by
 obtain⟨a,r,e⟩:=ME i;have:=eY (l2 h).1 a k r e;unfold bG at this;split at this
 .rename_i o;unfold dW at this;split at this
  .rename_i l;split at this
   .cases this
   .rename_i j;simp[ak]at l j;exact⟨by omega,by omega,by omega,by omega,by omega,(xh o).1⟩
  .cases this
 .contradiction
theorem uF{s}(h:(hrCheck s).2.2=0){i j:Nat}{a b}(hi:s.kinds[i]?=some a)(o:s.kinds[j]?=some b)(u:a.name=b.name):i=j:=by
 have q:∀(i j:Nat) (a b:HrKind),s.kinds[i]?=some a->s.kinds[j]?=some b->a.name=b.name->i<j->False:=by
  intro i j a b hi o u y;have v:=(aB.1 o).1;have e:s.kinds=s.kinds.take j++b::s.kinds.drop (j+1):=by
   have l:=zL v;rw[(aB.1 o).2]at l;rw[<-l,mE]
  have:=eY (l2 h).1 _ b _ e;unfold bG at this;split at this
  .rename_i z;refine(xh z).2 a.name ?_ u;rw[lc,cX];refine⟨a,aG (i:=i) ?_,rfl⟩;rw[kB,if_pos y];exact hi
  .contradiction
 rcases H2 i j with l|l|l
 .exact(q i j a b hi o u l).elim
 .exact l
 .exact(q j i b a o hi u.symm l).elim
theorem uP{t}(hok:TestOk t):0<=(dv t).1.lo/\0<=(dv t).1.hi/\(dv t).1.lo<=601200000/\(dv t).1.hi<=601200000:=by
 have v:=yi hok;have e:∀p,p∈fc t->p.1.down<=601200000/\p.2.up<=601200000:=by
  intro p i;obtain⟨q,a,rfl⟩:=(KH t p).1 i;have j:=l9 hok _ i;obtain⟨D,C⟩:q.1∈t.marks/\q.2∈t.marks:=by
   have e:∀l:List HrMark,∀q,q∈tU l->q.1∈l/\q.2∈l:=by
    intro l
    induction l with
    |nil=>intro q a;cases a
    |cons x r o=>
     intro q a;rw[tU,ck,cX]at a;rcases a with⟨y,u,rfl⟩|a
     .exact⟨by simp,by simp[u]⟩
     .have:=o q a;exact⟨by simp[this.1],by simp[this.2]⟩
   exact e _ q a
  have F:=hok.all _ D;have E:=hok.all _ C;have G:=hok.err;have I:0<q.2.minute-q.1.minute:=j.2.2.1;refine⟨?_,(Frac.up_le j.2.2.2 _).2 ?_⟩
  .refine Int.le_of_lt_add_one (Int.lt_of_not_ge λh=>?_);have h:=(Frac.down_le j.2.2.1 _).1 h;simp only[lp]at h;have:(601200000+1)*1<=(601200000+1)*(q.2.minute-q.1.minute):=sA (by omega) (by omega);omega
  .simp only[lp];have:(601200000)*1<=(601200000)*(q.2.minute-q.1.minute):=sA (by omega) (by omega);omega
 obtain⟨⟨⟨p,i,A⟩,_⟩,⟨q,a,z⟩,_⟩:=v;have k1:=(e p i).1;have k2:=(e q a).2;rw[A]at k1;rw[z]at k2;simp only[dv,KB];refine⟨?_,?_,?_,?_⟩<;>split<;>omega
theorem Ao{t}(hok:TestOk t)(e:ie t=true):(dv t).1.lo<=(dv t).1.hi:=by
 have a:=w8 hok;have i:(ea t).1.le (ea t).2:=by
  rw[ie,dv]at e;dsimp only at e;rw[C7,Frac.lt_false]at e;exact e
 have u:(ea t).1.down<=(ea t).2.up:=by
  have q:(ea t).1.down*(ea t).1.below<=(ea t).1.top:=(Frac.down_le a.2.2.1 _).1 (o9 _);have o:(ea t).2.top<=(ea t).2.up*(ea t).2.below:=(Frac.up_le a.2.2.2 _).1 (o9 _);have l:Frac.le ⟨(ea t).1.down,1⟩ (ea t).1:=(Frac.int_le _ _).2 q;have j:Frac.le (ea t).2 ⟨(ea t).2.up,1⟩:=(Frac.le_int _ _).2 o;have:=Frac.le_trans Int.one_pos a.2.2.2 Int.one_pos (Frac.le_trans Int.one_pos a.2.2.1 a.2.2.2 l i) j;simpa[Frac.le]using this
 simp only[dv,KB];split<;>split<;>omega
structure HrK where
 k:HrKind
 rates:Span
def HrK.pv (x:HrK):PV:=.agg [.str x.k.name,.int .i64 x.k.weight.lo,.int .i64 x.k.weight.hi,.int .i64 x.k.rest,.int .i64 x.rates.lo,.int .i64 x.rates.hi]
attribute [go_sem] HrK.pv
def k7:HrKind:=⟨⟨#[]⟩,⟨0,0⟩,0⟩
def jS (r q:Span):Span:=if r.lo<0 then q else⟨if q.lo<r.lo then q.lo else r.lo,if r.hi<q.hi then q.hi else r.hi⟩
def qu (at':Int):Span->List HrTest->Span
 |r,[]=>r
 |r,t::l=>qu at' (if t.kind=at'/\ie t=true then jS r (dv t).1 else r) l
def eP (s:HrShop) (l:List HrTest) (at':Int):Span:=qu at' ⟨-1,0⟩ l
def fq (m:Int) (r:Span):Span:=⟨Frac.down ⟨r.lo*(1000-m),1000⟩,Frac.up ⟨r.hi*(1000+m),1000⟩⟩
def bf (s:HrShop) (l:List HrTest) (at':Int):HrK×Int:=
 if cU s l=0 then
  match (if ak at' 0 ((s.kinds.length:Int)-1)=true then s.kinds[at'.toNat]? else none) with
  |none=>(⟨k7,⟨0,0⟩⟩,4)
  |some k=>
   if(eP s l at').lo<0 then(⟨k,eP s l at'⟩,9)
   else if(fq s.margin (eP s l at')).hi=0 then(⟨k,fq s.margin (eP s l at')⟩,8)
   else(⟨k,fq s.margin (eP s l at')⟩,0)
 else(⟨k7,⟨0,0⟩⟩,cU s l)
def Fv (r:Span):Prop:=(r=⟨-1,0⟩)\/(0<=r.lo/\0<=r.hi/\r.lo<=601200000/\r.hi<=601200000)
theorem yD{r q}(a:Fv r)(e:0<=q.lo/\0<=q.hi/\q.lo<=601200000/\q.hi<=601200000):Fv (jS r q):=by
 unfold jS;rcases a with rfl|a
 .rw[if_pos (by decide)];exact .inr e
 .rw[if_neg (by omega)];refine .inr ⟨?_,?_,?_,?_⟩<;>dsimp only<;>split<;>omega
theorem qi{e}:∀{l},cL e l=0->∀t,t∈l->bQ e t=0
 |[],_,_,h=>by cases h
 |x::l,h,t,a=>by
  rw[cL]at h;split at h
  .rename_i i;rcases ce.1 a with rfl|a
   .exact i
   .exact qi h t a
  .contradiction
theorem yS{s}{l}(h:cU s l=0):(hrCheck s).2.2=0/\l.length<=8/\cL s.kinds.length l=0:=by
 unfold cU at h;split at h
 .rename_i a;split at h
  .cases h
  .exact⟨a,by omega,h⟩
 .contradiction
theorem Jh(s)(l)(j):af TP 357 [s.pv,.slice 3 (l.map HrTest.pv) false,.int .i64 j] (.tuple [(bf s l j).1.pv,.int .i64 (bf s l j).2]):=by
 refine aa (ag func357 rfl) rfl ?_;simp only[go_sem,simprocAttr];refine ae (af.argless (args':=[s.pv,.nilslice]) (nV s [] false (by simp)) ⟨.inl rfl,.inr ⟨rfl,3,rfl⟩,trivial⟩) rfl ?_;simp only[go_sem,simprocAttr];have z:bX s []=(hrCheck s).2.2:=by
  unfold bX;split
  .rename_i h;rw[h];rfl
  .rfl
 cases h0:(bX s []==0)
 .have e:¬(hrCheck s).2.2=0:=by rw[<-z];simpa using h0
  have Z:((hrCheck s).2.2 != 0)=true:=by simpa using e
  have a0:((hrCheck s).2.2==0)=false:=by simpa using e
  have o:bf s l j=(⟨k7,⟨0,0⟩⟩,(hrCheck s).2.2):=by
   have:cU s l=(hrCheck s).2.2:=by rw[cU,if_neg e]
   rw[bf,this,if_neg e]
  rw[o];simp only[z,Z,a0,k7,go_sem,simprocAttr]
 have e:(hrCheck s).2.2=0:=by rw[<-z];simpa using h0
 have hk:=lZ e;have hm:=l2 e;have hz:bX s []=0:=by rw[z,e]
 simp only[hz,go_sem,simprocAttr];cases h8:decide ((8:Int)<(l.length:Int));rotate_left
 .have I:8<l.length:=by simp at h8;omega
  have o:bf s l j=(⟨k7,⟨0,0⟩⟩,3):=by
   have:cU s l=3:=by rw[cU,if_pos e,if_pos I]
   rw[bf,this,if_neg (by decide)]
  rw[o];simp only[k7,go_sem,simprocAttr]
 have I:¬8<l.length:=by simp at h8;omega
 have E:cU s l=cL s.kinds.length l:=by rw[cU,if_pos e,if_neg I]
 have U:bX s l=cL s.kinds.length l:=by rw[bX,if_pos e]
 simp only[go_sem,simprocAttr];refine ae (nV s l false (λ_=>by omega)) rfl ?_;simp only[U,go_sem,simprocAttr];cases h1:(cL s.kinds.length l != 0)
 rotate_left
 .have v:¬cL s.kinds.length l=0:=by simpa using h1
  have o:bf s l j=(⟨k7,⟨0,0⟩⟩,cL s.kinds.length l):=by rw[bf,E,if_neg v]
  rw[o];simp only[k7,go_sem,simprocAttr]
 have v:cL s.kinds.length l=0:=by simpa using h1
 have hw:IntKind.i64.wrap ((s.kinds.length:Int)-1)=(s.kinds.length:Int)-1:=am (by omega) (by omega);simp only[hw,go_sem,simprocAttr];refine ae (ja 0 _ [_] true (by simp)) rfl ?_;simp only[bJ,cb,cn,go_sem,simprocAttr];cases S:ak j 0 ((s.kinds.length:Int)-1)
 .have o:bf s l j=(⟨k7,⟨0,0⟩⟩,4):=by rw[bf,E,if_pos v,S];rfl
  rw[o];simp only[k7,go_sem,simprocAttr]
 obtain⟨g1,g2⟩:0<=j/\j<=(s.kinds.length:Int)-1:=by simpa[ak]using S
 obtain⟨n,rfl⟩:=sB g1;have hn:n<s.kinds.length:=by omega
 obtain⟨k,G⟩:∃k,s.kinds[n]?=some k:=⟨_,bO hn⟩
 have a2:=ro e (aG G);have F:(n:Int)<(s.kinds.length:Int):=by omega
 have o:bf s l n=(if(eP s l n).lo<0 then(⟨k,eP s l n⟩,9) else if(fq s.margin (eP s l n)).hi=0 then(⟨k,fq s.margin (eP s l n)⟩,8) else(⟨k,fq s.margin (eP s l n)⟩,0)):=by
  rw[bf,E,if_pos v,if_pos S,kn,G]
 rw[o];simp only[F,G,go_sem,simprocAttr]
 refine fo [2,3,6,48,49] (σ:=List HrTest×List HrTest×Span×Heap)
  (λq=>l=q.1++q.2.1/\eP s l n=qu n q.2.2.1 q.2.1/\Fv q.2.2.1) (λq=>q.2.1.length)
  (λq=>[(50,.p (.int .i64 q.1.length))]) (λq=>[.row 3 [.p s.pv],.row 6 [.p (HrK.pv ⟨k,q.2.2.1⟩)]]++q.2.2.2) ([],l,⟨-1,0⟩,[]) ⟨rfl,rfl,.inl rfl⟩ (by simp only[go_sem,simprocAttr]) ?_ ?_
 .simp only[go_sem,simprocAttr]
 rintro⟨i,rest,r,g⟩ ⟨y,u,N⟩
 dsimp only at y u N
 cases rest with
 |nil=>
  have F:¬((i.length:Int)<(l.length:Int)):=by rw[y];simp
  rw[qu]at u;rw[u];simp only[F,decide_false,go_sem,simprocAttr];cases h3:decide (r.lo<0);rotate_left
  .have C:r.lo<0:=by simpa using h3
   simp only[if_pos C,go_sem,simprocAttr]
  have C:¬r.lo<0:=by simpa using h3
  have a1:0<=r.lo/\0<=r.hi/\r.lo<=601200000/\r.hi<=601200000:=N.resolve_left (by rintro rfl;exact C (by decide));have q1:=Iz (a:=r.lo) (b:=1000-s.margin) (by omega) (by omega) (by omega) (by omega);have q2:=Iz (a:=r.hi) (b:=1000+s.margin) (by omega) (by omega) (by omega) (by omega);have w1:IntKind.i64.wrap (1000-s.margin)=1000-s.margin:=am (by omega) (by omega);have w2:IntKind.i64.wrap (1000+s.margin)=1000+s.margin:=am (by omega) (by omega);have w3:IntKind.i64.wrap (r.lo*(1000-s.margin))=r.lo*(1000-s.margin):=am (by omega) (by omega);have w4:IntKind.i64.wrap (r.hi*(1000+s.margin))=r.hi*(1000+s.margin):=am (by omega) (by omega);rw[if_neg C];simp only[w1,w3,go_sem,simprocAttr];refine ae (lz ⟨r.lo*(1000-s.margin),1000⟩ (by show (0:Int)<1000;decide) q1.1 q1.2) rfl ?_;simp only[w2,w4,go_sem,simprocAttr];refine ae (US ⟨r.hi*(1000+s.margin),1000⟩ (by show (0:Int)<1000;decide) q2.1 q2.2) rfl ?_;simp only[go_sem,simprocAttr];cases M:((fq s.margin r).hi==0)
  .have K:¬(fq s.margin r).hi=0:=by simpa using M
   rw[if_neg K];simp only[fq]at M;simp only[M,fq,go_sem,simprocAttr]
  .have K:(fq s.margin r).hi=0:=by simpa using M
   rw[if_pos K];simp only[fq]at M
   simp only[M,fq,go_sem,simprocAttr]
 |cons t rest=>
  obtain⟨hx,R⟩:=eT y;have L:=congrArg List.length y;simp only[aL,dB]at L;have A:IntKind.i64.wrap ((i.length:Int)+1)=(((i++[t]).length:Nat):Int):=bk (by omega) (by simp[ao];omega) (by simp);have D:=(gn (qi v t (by rw[y];simp))).1;have O:=uP D;rw[qu]at u;have g0:=kU (lo:=g) rfl;have s0:=m5 (lo:=g) rfl;have T:=kT (lo:=g) rfl;have ss:=m4 (lo:=g) rfl;simp only[R,decide_true,hx,g0,s0,go_sem,simprocAttr];refine ae (zj t D) rfl ?_;simp only[g0,T,ss,dJ,aL,aV,go_sem,simprocAttr];cases h5:(t.kind != (n:Int))
  rotate_left
  .have Y:¬(t.kind=(n:Int)/\ie t=true):=λh=>by simp[h.1]at h5
   rw[if_neg Y]at u;simp only[go_sem,simprocAttr];refine br (i++[t],rest,r,g++[_,_]) ⟨by rw[y];simp,u,N⟩ (jJ _) rfl ?_;simp only[A,go_sem,simprocAttr]
  have X:t.kind=(n:Int):=by simpa using h5
  simp only[go_sem,simprocAttr];cases h6:(dv t).2
  .have V:¬(t.kind=(n:Int)/\ie t=true):=λh=>by rw[ie,h6]at h;simp at h
   rw[if_neg V]at u;simp only[go_sem,simprocAttr];refine br (i++[t],rest,r,g++[_,_]) ⟨by rw[y];simp,u,N⟩ (jJ _) rfl ?_;simp only[A,go_sem,simprocAttr]
  rw[if_pos ⟨X,by rw[ie,h6]⟩]at u;simp only[go_sem,simprocAttr];cases h7:decide (r.lo<0)
  .have J:¬r.lo<0:=by simpa using h7
   simp only[T,aV,go_sem,simprocAttr];refine br (i++[t],rest,jS r (dv t).1,g++[_,_]) ⟨by rw[y];simp,u,yD N O⟩ (jJ _) (by simp only[jS,if_neg J,go_sem,simprocAttr];exact⟨rfl,rfl⟩) ?_;simp only[A,go_sem,simprocAttr]
  .have J:r.lo<0:=by simpa using h7
   simp only[T,aV,Int.lt_irrefl,go_sem,simprocAttr];refine br (i++[t],rest,jS r (dv t).1,g++[_,_]) ⟨by rw[y];simp,u,yD N O⟩ (jJ _) (by simp only[jS,if_pos J,go_sem,simprocAttr];exact⟨rfl,rfl⟩) ?_;simp only[A,go_sem,simprocAttr]
end Abs
end Go.Proofs.YtmndpldajflenaaGreatDoor
