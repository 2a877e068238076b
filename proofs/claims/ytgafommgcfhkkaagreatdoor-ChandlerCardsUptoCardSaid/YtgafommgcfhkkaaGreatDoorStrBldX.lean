/- CONTRACTS of functions and laws. No conditions but those in the heads. -/
import Derived.Test.YtgafommgcfhkkaaGreatDoorHrFracX
import Derived.Lib.Walk
import Derived.Lib.Builder
import Derived.Laws.Externs
import Derived.Lib.AtoiTie
set_option linter.all false
set_option maxHeartbeats 4000000
open Go.Proofs.Tryz renaming prog->TP
open Go.Proofs.Tryz
open Go.IntKind (i64)
namespace Go.Proofs.YtgafommgcfhkkaaGreatDoor
namespace Abs
open Go.RowKit
set_option maxRecDepth 100000
def Ma:(TP.info? 97).map (·.size)=some 2:=by kernel_rfl
def WH:liesAt TP TP.depth 97 (2 / TP.cellsOf 97) 0 97 1=true:=by kernel_rfl
def xM(b)(w)(l:w.cell? ⟨b,0,none⟩=some (.pointer (some ⟨b,0,none⟩))) :
  Calls TP 104 #[.pointer (some ⟨b,0,none⟩)] w λe w'=>e=.returned (.tuple #[])/\w'=w:=by
 obtain⟨j,i,_⟩:=bg.1 Ma
 go_enter func104,ntmps104
 go_wp2
 rw[Lib.run_neq_ptr_same w _ underlying94 i]
 go_wp2
 go_end0
 simp
def vJ(b)(w)(v:w.cell? ⟨b,0,none⟩=some (.pointer none))(i:w.shape? b=some (97,2))(u:w.frozen? ⟨b,0,none⟩=false) :
  Calls TP 104 #[.pointer (some ⟨b,0,none⟩)] w λe w'=>e=.returned (.tuple #[])/\w'=w.setCell ⟨b,0,none⟩ (.pointer (some ⟨b,0,none⟩)):=by
 obtain⟨j,q,l⟩:=bg.1 Ma
 go_enter func104,ntmps104
 go_wp2
 rw[Lib.run_to_unsafe w ⟨b,0,none⟩ underlying94 underlying222 q (by rw[l];decide) i (Nat.zero_lt_succ 1)];simp only[Result.andThen];rw[Oper.upon_value]
 go_wp2
 rw[run_callFunc_extern func153 (by kernel_rfl) (by kernel_rfl) (by kernel_rfl) (e:=Extern.AbiNoEscape.same) (by kernel_rfl)];rw[Lib.run_noEscape];simp only[Result.andThen];rw[Oper.upon_value]
 go_wp2
 rw[Lib.run_from_unsafe w ⟨b,0,none⟩ underlying222 underlying94 q i WH];simp only[Result.andThen];rw[Oper.upon_value]
 go_wp2
 go_end0
 simp
def iK{w:World}{b}{cs}{T}{fr}(e:w.heap[b]?=some (.cells cs T fr))(j):w.cell? ⟨b,j,none⟩=cs[j]?:=by
 simp[World.cell?,e]
def Tp(b)(w)(p v)(i:w.heap[b]?=some (.cells #[p,v] 97 (0,0)))(j:p=.pointer none\/p=.pointer (some ⟨b,0,none⟩)) :
  Calls TP 104 #[.pointer (some ⟨b,0,none⟩)] w λe w'=>e=.returned (.tuple #[])/\OnlyB b w w'/\w'.heap[b]?=some (.cells #[.pointer (some ⟨b,0,none⟩),v] 97 (0,0)):=by
 rcases j with rfl|rfl
 .refine(vJ b w (by rw[iK i];rfl) (by simp[World.shape?,i]) (by simp[World.frozen?,i])).mono ?_
  rintro e w' ⟨rfl,rfl⟩
  refine⟨rfl,oT _ _ _ _,?_⟩;simp[World.setCell,BU,i]
 .refine(xM b w (by rw[iK i];rfl)).mono ?_
  rintro e w' ⟨rfl,rfl⟩
  exact⟨rfl,OnlyB.refl _ _,i⟩
def Ah{P}{ops}{rest}{o}{a}{w}{Q}(e:o.guard=none)(i x)(t u)
  (q:o.op=.call { callee:=.builtin .append,args:=#[i,x],argTypes:=#[t,u] }) (v y v') (w') (j:a.eval i=v) (hx:a.eval x=y)
  (l:∀ty,(Builtin.append_ #[t,u] ty #[v,y]).run P w=.ok v' w') (h:wpList P ops Q rest (a.put o.dst v') w'):wpList P ops Q (o::rest) a w:=by
 refine wpList_plain e λK z=>?_;unfold Oper.wp execOp;simp only[q,resolve,invoke,builtin,Sem.run_bind,Sem.run_pure,bN,List.map_toArray,bf,bx,j,hx,l o.type];exact z _ _ h
def Tn(b)(w)(p v)(s)(R:World->Prop)(D:w.heap[b]?=some (.cells #[p,v] 97 (0,0)))(A:p=.pointer none\/p=.pointer (some ⟨b,0,none⟩))
  (z:∀j,OnlyB b w j->j.heap[b]?=some (.cells #[.pointer (some ⟨b,0,none⟩),v] 97 (0,0))->∃i v2 u v0,(∀ty,(Builtin.append_ #[95,9] ty #[v,.string s]).run TP j=.ok v2 i)/\i.heap[b]?=some (.cells #[u,v0] 97 (0,0)) /\
   (∃a n c,v2=.slice a n c)/\R (i.setCell ⟨b,1,none⟩ v2)) :
  Calls TP 39 #[.pointer (some ⟨b,0,none⟩),.string s] w λe w'=>e=.returned (.tuple #[.int .i64 s.size,.nilIface])/\R w':=by
 go_enter func39,ntmps39
 go_wp2_with (go_at_call 104;refine(Tp b _ p v D A).mono ?_)
 rintro e j ⟨rfl,C,q⟩
 obtain⟨i,v2,u,v0,y,l,⟨a,n,c,rfl⟩,E⟩:=z j C q;have c0:j.cell? ⟨b,0,none⟩=some (.pointer (some ⟨b,0,none⟩)):=by rw[iK q];rfl
 have c1:j.cell? ⟨b,1,none⟩=some v:=by rw[iK q];rfl
 have I:i.cell? ⟨b,0,none⟩=some u:=by rw[iK l];rfl
 have G:i.cell? ⟨b,1,none⟩=some v0:=by rw[iK l];rfl
 have F:i.frozen? ⟨b,1,none⟩=false:=by simp[World.frozen?,l]
 go_wp2_with (at_builtin;refine Ah rfl _ _ 95 9 rfl v (.string s) (.slice a n c) i rfl rfl y ?_)
 go_ret2
 simp_all
def iY (s:ByteArray):List AV:=s.data.toList.map λb:UInt8=>AV.p (PV.int .u8 (b.toNat:Int))
def mi(s):(iY s).length=s.size:=by simp[iY]
def ZA:fW TP 9=true:=by kernel_rfl
def FD{h q}{i}{x x'}{s}(hi:h[i]?=some (.bld 97 5 x))(a6:s.size<=ai)
  (hx:x=.p .nilslice\/∃j n xs,x=.slice j n 0 n/\h[j]?=some (.row 1 xs)/\xs.length=n/\n+s.size<=ai)
  (b5:vP TP 95 9 x (.p (.str s)) h=.val x' q) (J:q[i]?=some (.bld 97 5 x)) (F:x'=.p .nilslice\/∃j n,x'=.slice j n 0 n) :
  aw TP 39 [.ref .bl i,.p (.str s)] h (λr h'=>r=.ret (.p (.tuple [.int .i64 s.size,.niliface]))/\h'=q.set i (.bld 97 5 x')):=by
 intro M0 m w l hS ha;have hn:=ha.1;have b7:=ha.2 0 _ rfl;have b6:=ha.2 1 _ rfl
 obtain⟨c0,c1,rfl⟩:∃c0 c1,l=#[c0,c1]:=⟨l.getD 0 undef,l.getD 1 undef,by
  apply tk
  .omega
  .intro i q h2;have:i=0\/i=1:=by simp at h2;omega
   rcases this with rfl|rfl<;>simp[q]⟩
 have a3:RepP (Avoid M0 m) w c1 (.str s):=b6;cases a3;obtain⟨b,p,v,hm,hb,hp,O,hr,R⟩:=hS.obj i _ hi;have I:m.getD i none=some b:=hm;obtain rfl:c0=.pointer (some ⟨b,0,none⟩):=by
  rcases b7.2 with hd|⟨_,b',b4,hv⟩
  .grind
  .have A:m.getD i none=some b':=b4;rw[I]at A;cases A;exact hv
 have Z:w.heap[b]?=some (.cells #[p,v] 97 (0,0)):=hb;refine⟨(λw'=>kM func39 za6 _ w'),?_⟩;refine(Tn b w p v s (λw'=>∃m',Ev h.length ⟨m,h,w⟩ ⟨m',q.set i (.bld 97 5 x'),w'⟩/\HOk TP M0 ⟨m',q.set i (.bld 97 5 x'),w'⟩) Z hp ?_).mono ?_
 .intro L ho b3;obtain⟨k1,e1⟩:=Do (S:=⟨m,h,w⟩) hS hi I Z ho b3 (.inr rfl) O hr R;rw[show (Mem.mk m h w).h.set i (.bld 97 5 x)=h from qD hi]at k1 e1;have G:dw M0 ⟨m,h,L⟩ v x:=e1.rep0 hr (iO hr);have a4:Rep M0 ⟨m,h,L⟩ v x:=by
   rcases O with rfl|⟨j,n,rfl⟩
   .exact G
   .exact G
  have D:=Gb (P:=TP) (T:=95) (U:=9) (ty:=0) k1 a4 (show Rep M0 ⟨m,h,L⟩ (.string s) (.p (.str s)) from RepP.str s);rw[show (Mem.mk m h L).h=h from rfl,b5]at D;obtain⟨S2,v2,b8,a1,e2,k2,z⟩:=D;obtain⟨K,h2,E⟩:=S2;obtain rfl:q=h2:=b8.symm;have y:∀ty,(Builtin.append_ #[95,9] ty #[v,.string s]).run TP L=.ok v2 E:=λty=>a1;obtain⟨b2,p2,v0,X,A,a7,_,_,_⟩:=k2.obj i _ J;have b1:b2=b:=by
   obtain⟨o',a9,a8⟩:=e2.obj i _ (aC.1 hi).1 hi;have V:q[i]?=some o':=a9;rw[J]at V;cases V;rcases a8 with M|⟨_,_,_,M,_⟩|⟨_,_,M⟩
   .cases M
   .cases M
   .grind
  subst b1;have u:E.heap[b2]?=some (.cells #[p2,v0] 97 (0,0)):=A;have a5:∃a n c,v2=.slice a n c:=by
   rcases F with rfl|⟨j,n,rfl⟩
   .have h':RepP (Avoid M0 K) E v2 .nilslice:=z;cases h';simp
   .exact z.1
  have a0:=JH (P:=TP) (T:=95) (U:=9) (e:=5) (ty:=0) k1 hx a6 G (by kernel_rfl) ZA (by kernel_rfl) (by kernel_rfl) (by kernel_rfl)
   (λa n c hv=>by
    obtain⟨N,hN⟩:=R a n c hv
    exact⟨N,(e1.fr.shape _ (tu hN)).trans hN⟩) (y 0) (λc hc=>e2.fr.shape c hc)
  have a2:dw M0 ⟨K,q,E⟩ v2 x':=by
   rcases F with rfl|⟨j,n,rfl⟩
   .exact z
   .exact z
  refine⟨E,v2,p2,v0,y,u,a5,K,?_⟩;obtain⟨k3,e3⟩:=Do (S:=⟨K,q,E⟩) (w':=E.setCell ⟨b2,1,none⟩ v2) (p':=p2) (v':=v2) (x':=x') k2 J X u (oT _ _ _ _) (by simp[World.setCell,BU,u]) a7 F a2 a0;exact⟨(e1.trans e2).trans (e3.mono (e2.len (ba _))),k3⟩
 .rintro e w' ⟨rfl,m',b0,hk⟩
  exact⟨.ret (.p (.tuple [.int .i64 s.size,.niliface])),_,m',⟨rfl,rfl⟩,b0,hk,zL (.int _ _) .niliface⟩
def H4(w)(p)(n):OnlyB p.block w (w.freeze p n):=by
 unfold World.freeze;split
 .exact OnlyB.refl _ _
 .exact⟨rfl,rfl,rfl,by simp,λk e=>by grind⟩
def IL(w:World)(p)(n c):(w.freeze p n).shape? c=w.shape? c:=by
 unfold World.freeze;split
 .rfl
 .unfold World.shape?;grind
def UQ:TP.cellsOf 5=1:=by kernel_rfl
def Ob(b g cap N)(w)(p)(l)(u:l≠[])(y:w.heap[b]?=some (.cells #[p,.slice (some ⟨g,0,none⟩) l.length cap] 97 (0,0)))
  (v:w.shape? g=some (5,N)) (z:l.length<=N) (E:l.length<=cap) (q:l.length<=9223372036854775807) (i:∀j x,l[j]?=some x->w.cell? ⟨g,j,none⟩=some (.int .u8 x.toNat)) :
  Calls TP 40 #[.pointer (some ⟨b,0,none⟩)] w λe w'=>e=.returned (.string ⟨l.toArray⟩)/\w'=w.drew.freeze ⟨g,0,none⟩ l.length:=by
 have A:l.length≠0:=by simpa using u
 have c1:w.drew.cell? ⟨b,1,none⟩=some (.slice (some ⟨g,0,none⟩) l.length cap):=by
  have:w.drew.heap[b]?=some (.cells #[p,.slice (some ⟨g,0,none⟩) l.length cap] 97 (0,0)):=y;rw[iK this];rfl
 have D:(Builtin.unsafeSliceData_ #[95] 184 #[.slice (some ⟨g,0,none⟩) l.length cap]).run TP w.drew=.ok (.pointer (some ⟨g,0,none⟩)) w.drew:=
  Lib.run_unsafeSliceData_row _ _ _ _ _ _ (by omega)
 have C:(Builtin.unsafeString_ #[184,3] 9 #[.pointer (some ⟨g,0,none⟩),.int .i64 l.length]).run TP w.drew=.ok (.string ⟨l.toArray⟩) (w.drew.freeze ⟨g,0,none⟩ l.length):=
  Lib.run_unsafeString_row w.drew 184 3 9 5 underlying184 UQ g N v l u z q (λj x hx=>by rw[gI,gZ];simp_all)
 go_enter func40,ntmps40
 go_wp2
 go_region
 all_goals (go_wp2;go_ret;simp)
def Oc(b)(w)(p)(i:w.heap[b]?=some (.cells #[p,.slice none 0 0] 97 (0,0))) :
  Calls TP 40 #[.pointer (some ⟨b,0,none⟩)] w λe w'=>e=.returned (.string .empty)/\w'=w.drew:=by
 have c1:w.drew.cell? ⟨b,1,none⟩=some (.slice none 0 0):=by
  have:w.drew.heap[b]?=some (.cells #[p,.slice none 0 0] 97 (0,0)):=i;rw[iK this];rfl
 have j:∀W:World,(Builtin.unsafeString_ #[184,3] 9 #[.pointer none,.int .i64 0]).run TP W=.ok (.string .empty) W:=λW=>Lib.run_unsafeString_none W _ _ _ none;have l:(Builtin.unsafeSliceData_ #[95] 184 #[.slice none 0 0]).run TP w.drew=.ok (.pointer none) w.drew:=rfl
 go_enter func40,ntmps40
 go_wp2
 go_region
 all_goals (go_wp2;go_ret;simp)
def xa{h}{i j}{s}(hi:h[i]?=some (.bld 97 5 (.slice j s.size 0 s.size)))(hj:h[j]?=some (.row 1 (iY s)))(h0:s.size≠0)(b6:s.size<=9223372036854775807) :
  aw TP 40 [.ref .bl i] h (λr h'=>r=.ret (.p (.str s))/\h'=h.set j .dead):=by
 intro M0 m w y M ha;have hn:=ha.1;have a9:=ha.2 0 _ rfl
 obtain⟨c0,rfl⟩:∃c0,y=#[c0]:=⟨y.getD 0 undef,by
  apply tk
  .omega
  simp_all⟩
 obtain⟨b,p,v,hm,hb,hp,b4,hr,Y⟩:=M.obj i _ hi;have Z:m.getD i none=some b:=hm;obtain rfl:c0=.pointer (some ⟨b,0,none⟩):=by
  rcases a9.2 with hd|⟨_,b',a8,R⟩
  .grind
  .have u:m.getD i none=some b':=a8;rw[Z]at u;cases u;exact R
 have J:w.heap[b]?=some (.cells #[p,v] 97 (0,0)):=hb;refine⟨λw'=>Go.Proofs.enters_of func40 (by kernel_rfl) rfl _ w',?_⟩;have l:s.data.toList.length=s.size:=AZ;rcases dM hr.2 hj (mi s) with⟨V,h2,h3,_⟩|⟨g,cap,T',N,F,rfl,L,b2,b3,O⟩|⟨_,rfl,b1⟩
 .omega
 .obtain⟨C,T2,u,D,K⟩:=gK M hj F;have a0:w.shape? g=some (5,C.size):=by
   obtain⟨N',b0⟩:=Y _ _ _ rfl;have A:w.shape? g=some (5,N'):=b0;have G:w.heap[g]?=some (.cells C T2 (0,0)):=u;unfold World.shape? at A |-;rw[G]at A |-;simp at A |-;exact A.1
  have b5:s.size<=C.size:=by
   have:(iY s).length*1<=C.size:=D;rw[mi]at this;omega
  have R:(Value.slice (some ⟨g,0*1,none⟩) s.size cap)=.slice (some ⟨g,0,none⟩) s.data.toList.length cap:=by rw[GM,l]
  rw[R]at J;have E:∀(k:Nat) (x:UInt8),s.data.toList[k]?=some x->w.cell? ⟨g,k,none⟩=some (.int .u8 x.toNat):=by
   intro k x hx;obtain⟨cs,a1,a2,a3⟩:=K k (.p (.int .u8 x.toNat)) (by simp[iY,hx]);cases a1;have a4:=(a3 0 _ rfl).2;have X:RepP (Avoid M0 m) w (C.getD (k*1+0) undef) (.int .u8 x.toNat):=a4;have T:k<C.size:=by have:=(aC.1 hx).1;omega
   have G:w.heap[g]?=some (.cells C T2 (0,0)):=u;rw[kP G k T];rw[Nat.mul_one,kx]at X;generalize C.getD k undef=z at X |-;cases X;rfl
  refine(Ob b g cap C.size w p s.data.toList (by grind) J a0 (by omega) (by omega) (by omega) E).mono ?_
  rintro e w' ⟨rfl,rfl⟩
  have q:OnlyB g w (w.drew.freeze ⟨g,0,none⟩ s.data.toList.length):=by
   have:=H4 w.drew ⟨g,0,none⟩ s.data.toList.length;exact⟨this.os,this.tape,this.output,this.size,this.block⟩
  obtain⟨T,a6⟩:=Ke (S:=⟨m,h,w⟩) M j (w':=w.drew.freeze ⟨g,0,none⟩ s.data.toList.length)
   ⟨q.os,q.tape,q.output,GP q.size.symm,λc _ U=>q.block c (λe=>U (e▸aB (cI F))),λc _=>IL w.drew _ _ c⟩
   (λx bl hx a7=>q.block bl λe=>hx (M.inj x j bl (cI a7) (e▸cI F)))
  exact⟨.ret (.p (.str s)),_,m,⟨rfl,rfl⟩,a6,T,RepP.str s⟩
 omega
def Qh{h}{i}(hi:h[i]?=some (.bld 97 5 (.p .nilslice))):aw TP 40 [.ref .bl i] h (λr h'=>r=.ret (.p (.str .empty))/\h'=h):=by
 intro M0 m w j E D;have G:=D.1;have C:=D.2 0 _ rfl
 obtain⟨c0,rfl⟩:∃c0,j=#[c0]:=⟨j.getD 0 undef,by
  apply tk
  .simpa using G
  simp_all⟩
 obtain⟨b,p,v,I,K,R,N,F,O⟩:=E.obj i _ hi;have y:m.getD i none=some b:=I;obtain rfl:c0=.pointer (some ⟨b,0,none⟩):=by
  rcases C.2 with J|⟨_,b',A,u⟩
  .grind
  .have q:m.getD i none=some b':=A;rw[y]at q;cases q;exact u
 have u:RepP (Avoid M0 m) w v .nilslice:=F;cases u;have z:w.heap[b]?=some (.cells #[p,.slice none 0 0] 97 (0,0)):=K;refine⟨λw'=>Go.Proofs.enters_of func40 (by kernel_rfl) rfl _ w',(Oc b w p z).mono ?_⟩
 rintro e w' ⟨rfl,rfl⟩
 exact⟨.ret (.p (.str .empty)),_,m,⟨rfl,rfl⟩,Ev.drew _ ⟨m,h,w⟩,HOk.drew E,RepP.str _⟩
set_option maxRecDepth 4000
structure HrKindOk (k:HrKind):Prop where
 lo:1<=k.weight.lo
 le:k.weight.lo<=k.weight.hi
 hi:k.weight.hi<=10000000
 rest:0<=k.rest
 less:k.rest<k.weight.lo
 name:nameOk k.name=true
def gW{α}{f:List ByteArray->α->Int}{q}:∀{l} {i},firstErr f q l i=none->∀(a) (x) (r),l=a++x::r->f (i++a.map q) x=0
 |[],_,_,a,x,r,e=>by simp at e
 |y::l,i,h,a,x,r,e=>by
  rw[firstErr]at h;split at h
  .rename_i u
   cases a with
   |nil=>
    grind
   |cons z a=>
    obtain⟨j,v⟩:=Hb e;subst j;have:=gW h a x r v;grind
  .cases h
def jM{α}{f:List ByteArray->α->Int}{q}:∀{l} {j} {i e},firstErr f q l j=some (i,e)->e≠0
 |[],_,_,_,h=>by cases h
 |y::r,j,i,e,h=>by
  rw[firstErr]at h;split at h
  .exact jM h
  grind
def RY{α:Type}{l:List α}{x}(h:x∈l):∃a r,l=a++x::r:=RB h
def my{s}(h:(hrCheck s).2.2=0):firstErr ck (·.name) s.kinds []=none/\firstErr dz (·.name) s.rules []=none/\0<=s.margin/\s.margin<=500:=by
 unfold hrCheck at h;split at h
 .split at h
  .rename_i q;unfold j4 at h;split at h
   .rename_i i e l;exact absurd h (jM l)
   .rename_i l;split at h
    .rename_i i e j;exact absurd h (jM j)
    .rename_i j;exact⟨l,j,by simpa[aq]using q⟩
  .cases h
 .cases h
def Ib{i}{s}(h:ar i s=0):nameOk s=true/\∀b,b∈i->b≠s:=by
 unfold ar at h;split at h
 .rename_i q;split at h
  .cases h
  .rename_i l;refine⟨q,λb j e=>l ?_⟩;rw[Mu];exact⟨b,j,(qm _ _).2 e⟩
 .cases h
def pm{s}(h:(hrCheck s).2.2=0){k}(i:k∈s.kinds):HrKindOk k:=by
 obtain⟨a,r,e⟩:=RY i;have:=gW (my h).1 a k r e;unfold ck at this;split at this
 .rename_i q;unfold fo at this;split at this
  .rename_i l;split at this
   .cases this
   .rename_i j;simp[aq]at l j;exact⟨by omega,by omega,by omega,by omega,by omega,(Ib q).1⟩
  .cases this
 omega
def yy{s}(h:(hrCheck s).2.2=0){i j:Nat}{a b}(hi:s.kinds[i]?=some a)(q:s.kinds[j]?=some b)(v:a.name=b.name):i=j:=by
 have u:∀(i j:Nat) (a b:HrKind),s.kinds[i]?=some a->s.kinds[j]?=some b->a.name=b.name->i<j->False:=by
  intro i j a b hi q v z;have y:=(aC.1 q).1;have e:s.kinds=s.kinds.take j++b::s.kinds.drop (j+1):=by
   have l:=vY y;rw[(aC.1 q).2]at l;rw[<-l,ja]
  have:=gW (my h).1 _ b _ e;unfold ck at this;split at this
  .rename_i A;refine(Ib A).2 a.name ?_ v;grind
  .contradiction
 grind
def pq{t}(hok:TestOk t):0<=(cC t).1.lo/\0<=(cC t).1.hi/\(cC t).1.lo<=601200000/\(cC t).1.hi<=601200000:=by
 have C:=wD hok;have i:∀p,p∈fU t->p.1.down<=601200000/\p.2.up<=601200000:=by
  intro p j;obtain⟨q,e,rfl⟩:=(lK t p).1 j;have u:=nv hok _ j;obtain⟨G,F⟩:q.1∈t.marks/\q.2∈t.marks:=by
   have i:∀l:List HrMark,∀q,q∈fT l->q.1∈l/\q.2∈l:=by
    intro l
    induction l with
    |nil=>simp[fT]
    |cons x r z=>
     grind[fT]
   exact i _ q e
  have J:=hok.all _ G;have I:=hok.all _ F;have K:=hok.err;have L:0<q.2.minute-q.1.minute:=u.2.2.1;refine⟨?_,(Frac.up_le u.2.2.2 _).2 ?_⟩
  .refine Int.le_of_lt_add_one (Int.lt_of_not_ge λh=>?_);have h:=(Frac.down_le u.2.2.1 _).1 h;simp only[jI]at h;omega
  .grind[jI]
 obtain⟨⟨⟨p,j,E⟩,_⟩,⟨q,e,D⟩,_⟩:=C;have k1:=(i p j).1;have v:=(i q e).2;rw[E]at k1;rw[D]at v;simp only[cC,nC];omega
def Ec{t}(hok:TestOk t)(i:gh t=true):(cC t).1.lo<=(cC t).1.hi:=by
 have e:=Bf hok;have j:(dR t).1.le (dR t).2:=by
  rw[gh,cC]at i;dsimp only at i;rw[DG,Frac.lt_false]at i;exact i
 have y:(dR t).1.down<=(dR t).2.up:=by
  have v:(dR t).1.down*(dR t).1.below<=(dR t).1.top:=(Frac.down_le e.2.2.1 _).1 (lP _);have u:(dR t).2.top<=(dR t).2.up*(dR t).2.below:=(Frac.up_le e.2.2.2 _).1 (lP _);have q:Frac.le ⟨(dR t).1.down,1⟩ (dR t).1:=(Frac.int_le _ _).2 v;have l:Frac.le (dR t).2 ⟨(dR t).2.up,1⟩:=(Frac.le_int _ _).2 u;have:=Frac.le_trans Int.one_pos e.2.2.2 Int.one_pos (Frac.le_trans Int.one_pos e.2.2.1 e.2.2.2 q j) l;simpa[Frac.le]using this
 simp only[cC,nC];omega
structure HrK where
 k:HrKind
 rates:Span
def HrK.pv (x:HrK):PV:=.agg [.str x.k.name,.int .i64 x.k.weight.lo,.int .i64 x.k.weight.hi,.int .i64 x.k.rest,.int .i64 x.rates.lo,.int .i64 x.rates.hi]
attribute [go_sem] HrK.pv
def nL:HrKind:=⟨⟨#[]⟩,⟨0,0⟩,0⟩
def iG (r q:Span):Span:=if r.lo<0 then q else⟨if q.lo<r.lo then q.lo else r.lo,if r.hi<q.hi then q.hi else r.hi⟩
def oA (at':Int):Span->List HrTest->Span
 |r,[]=>r
 |r,t::l=>oA at' (if t.kind=at'/\gh t=true then iG r (cC t).1 else r) l
def eF (s:HrShop) (l:List HrTest) (at':Int):Span:=oA at' ⟨-1,0⟩ l
def fE (m:Int) (r:Span):Span:=⟨Frac.down ⟨r.lo*(1000-m),1000⟩,Frac.up ⟨r.hi*(1000+m),1000⟩⟩
def bk (s:HrShop) (l:List HrTest) (at':Int):HrK×Int:=
 if bY s l=0 then
  match (if aq at' 0 ((s.kinds.length:Int)-1)=true then s.kinds[at'.toNat]? else none) with
  |none=>(⟨nL,⟨0,0⟩⟩,4)
  |some k=>
   if(eF s l at').lo<0 then(⟨k,eF s l at'⟩,9)
   else if(fE s.margin (eF s l at')).hi=0 then(⟨k,fE s.margin (eF s l at')⟩,8)
   else(⟨k,fE s.margin (eF s l at')⟩,0)
 else(⟨nL,⟨0,0⟩⟩,bY s l)
def Dy (r:Span):Prop:=(r=⟨-1,0⟩)\/(0<=r.lo/\0<=r.hi/\r.lo<=601200000/\r.hi<=601200000)
def wR{r q}(e:Dy r)(i:0<=q.lo/\0<=q.hi/\q.lo<=601200000/\q.hi<=601200000):Dy (iG r q):=by
 grind[Dy,iG]
def pM{i}:∀{l},cR i l=0->∀t,t∈l->bm i t=0
 |[],_,_,h=>by cases h
 |x::l,h,t,e=>by
  rw[cR]at h;split at h
  .rename_i j;rcases br.1 e with rfl|e
   .exact j
   .exact pM h t e
  omega
def sL{s}{l}(h:bY s l=0):(hrCheck s).2.2=0/\l.length<=8/\cR s.kinds.length l=0:=by
 unfold bY at h;omega
def N3(s)(l)(at'):af TP 312 [s.pv,.slice 3 (l.map HrTest.pv) false,.int .i64 at'] (.tuple [(bk s l at').1.pv,.int .i64 (bk s l at').2]):=by
 refine ae (ag func312 rfl) rfl (zm ?_);refine aa (af.argless (args':=[s.pv,.nilslice]) (qR s [] false (by simp)) ⟨.inl rfl,.inr ⟨rfl,3,rfl⟩,trivial⟩) rfl (zm ?_);have y:bO s []=(hrCheck s).2.2:=by
  unfold bO;split
  .rename_i h;rw[h];rfl
  .rfl
 cases h0:(bO s []==0)
 .have e:¬(hrCheck s).2.2=0:=by rw[<-y];simpa using h0
  have Y:((hrCheck s).2.2 != 0)=true:=by simpa using e
  have Z:((hrCheck s).2.2==0)=false:=by simpa using e
  have i:bk s l at'=(⟨nL,⟨0,0⟩⟩,(hrCheck s).2.2):=by
   have:bY s l=(hrCheck s).2.2:=by rw[bY,if_neg e]
   rw[bk,this,if_neg e]
  rw[i];simp[y,Y,Z,nL,go_sem]
 have e:(hrCheck s).2.2=0:=by rw[<-y];simpa using h0
 have hk:=gv e;have hm:=my e;have hz:bO s []=0:=by rw[y,e]
 refine zn hz ?_;cases h8:decide ((8:Int)<(l.length:Int));rotate_left
 .have G:8<l.length:=by simp at h8;omega
  have i:bk s l at'=(⟨nL,⟨0,0⟩⟩,3):=by
   have:bY s l=3:=by rw[bY,if_pos e,if_pos G]
   rw[bk,this,if_neg (by decide)]
  rw[i];simp[nL,go_sem]
 have G:¬8<l.length:=by simp at h8;omega
 have D:bY s l=cR s.kinds.length l:=by rw[bY,if_pos e,if_neg G]
 have T:bO s l=cR s.kinds.length l:=by rw[bO,if_pos e]
 refine zm ?_;refine aa (qR s l false (λ_=>by omega)) rfl (zn T ?_);cases h1:(cR s.kinds.length l != 0)
 rotate_left
 .have u:¬cR s.kinds.length l=0:=by simpa using h1
  have i:bk s l at'=(⟨nL,⟨0,0⟩⟩,cR s.kinds.length l):=by rw[bk,D,if_neg u]
  rw[i];simp[nL,go_sem]
 have u:cR s.kinds.length l=0:=by simpa using h1
 have hw:i64.wrap ((s.kinds.length:Int)-1)=(s.kinds.length:Int)-1:=ah;refine zn hw ?_;refine aa (kR 0 _ [_] true (by simp)) rfl ?_;simp only[bZ,cO,dd,go_sem,simprocAttr];cases R:aq at' 0 ((s.kinds.length:Int)-1)
 .have i:bk s l at'=(⟨nL,⟨0,0⟩⟩,4):=by rw[bk,D,if_pos u,R];rfl
  rw[i];simp[nL,go_sem]
 obtain⟨g1,g2⟩:0<=at'/\at'<=(s.kinds.length:Int)-1:=by simpa[aq]using R
 obtain⟨n,rfl⟩:=na g1;have hn:n<s.kinds.length:=by omega
 obtain⟨k,F⟩:∃k,s.kinds[n]?=some k:=⟨_,bL hn⟩
 have a1:=pm e (aB F);have E:(n:Int)<(s.kinds.length:Int):=by omega
 have i:bk s l n=(if(eF s l n).lo<0 then(⟨k,eF s l n⟩,9) else if(fE s.margin (eF s l n)).hi=0 then(⟨k,fE s.margin (eF s l n)⟩,8) else(⟨k,fE s.margin (eF s l n)⟩,0)):=by
  rw[bk,D,if_pos u,if_pos R,gX,F]
 rw[i];refine zo E F ?_
 refine dY [2,3,6,48,49] (σ:=List HrTest×List HrTest×Span×Heap)
  (λq=>l=q.1++q.2.1/\eF s l n=oA n q.2.2.1 q.2.1/\Dy q.2.2.1) (λq=>q.2.1.length)
  (λq=>[(50,.p (.int .i64 q.1.length))]) (λq=>[.row 3 [.p s.pv],.row 6 [.p (HrK.pv ⟨k,q.2.2.1⟩)]]++q.2.2.2) ([],l,⟨-1,0⟩,[]) ⟨rfl,rfl,.inl rfl⟩ (by simp[go_sem]) ?_ ?_
 .simp[go_sem]
 rintro⟨d_,rest,r,g⟩ ⟨v,j,M⟩
 dsimp only at v j M
 cases rest with
 |nil=>
  have E:¬((d_.length:Int)<(l.length:Int)):=by rw[v];simp
  rw[oA]at j;rw[j];refine zo E decide_false ?_;cases h3:decide (r.lo<0);rotate_left
  .have A:r.lo<0:=by simpa using h3
   simp[if_pos A,go_sem]
  have A:¬r.lo<0:=by simpa using h3
  have a0:0<=r.lo/\0<=r.hi/\r.lo<=601200000/\r.hi<=601200000:=M.resolve_left (by grind);have q1:=yu (a:=r.lo) (b:=1000-s.margin) (by omega) (by omega) (by omega) (by omega);have q2:=yu (a:=r.hi) (b:=1000+s.margin) (by omega) (by omega) (by omega) (by omega);have w1:i64.wrap (1000-s.margin)=1000-s.margin:=ah;have w2:i64.wrap (1000+s.margin)=1000+s.margin:=ah;have w3:i64.wrap (r.lo*(1000-s.margin))=r.lo*(1000-s.margin):=ah;have w4:i64.wrap (r.hi*(1000+s.margin))=r.hi*(1000+s.margin):=ah;rw[if_neg A];refine zo w1 w3 ?_;refine aa (od ⟨r.lo*(1000-s.margin),1000⟩ (by simp) q1.1 q1.2) rfl (zo w2 w4 ?_);refine aa (cUp ⟨r.hi*(1000+s.margin),1000⟩ (by simp) q2.1 q2.2) rfl (zm ?_);cases L:((fE s.margin r).hi==0)
  .have J:¬(fE s.margin r).hi=0:=by simpa using L
   rw[if_neg J];simp only[fE]at L;simp[L,fE,go_sem]
  .have J:(fE s.margin r).hi=0:=by simpa using L
   rw[if_pos J];simp only[fE]at L
   simp[L,fE,go_sem]
 |cons t rest=>
  obtain⟨hx,O⟩:=ca v;have K:=congrArg List.length v;simp only[ak,bc]at K;have z:i64.wrap ((d_.length:Int)+1)=(((d_++[t]).length:Nat):Int):=aO (by omega) (by simp[ai];omega) (by simp);have C:=(eY (pM u t (by rw[v];simp))).1;have N:=pq C;rw[oA]at j;have g0:=mA (lo:=g) rfl;have s0:=oG (lo:=g) rfl;have S:=mz (lo:=g) rfl;have ss:=oF (lo:=g) rfl;refine t_ O decide_true hx g0 s0 ?_;refine aa (Df t C) rfl ?_;simp only[g0,S,ss,dD,ak,aK,go_sem,simprocAttr];cases h5:(t.kind != (n:Int))
  rotate_left
  .have X:¬(t.kind=(n:Int)/\gh t=true):=λh=>by grind
   rw[if_neg X]at j;refine zm ?_;refine aZ (d_++[t],rest,r,g++[_,_]) ⟨by rw[v];simp,j,M⟩ (dc _) rfl ?_;simp[z,go_sem]
  have V:t.kind=(n:Int):=by simpa using h5
  refine zm ?_;cases h6:(cC t).2
  .have U:¬(t.kind=(n:Int)/\gh t=true):=λh=>by rw[gh,h6]at h;simp at h
   rw[if_neg U]at j;refine zm ?_;refine aZ (d_++[t],rest,r,g++[_,_]) ⟨by rw[v];simp,j,M⟩ (dc _) rfl ?_;simp[z,go_sem]
  rw[if_pos ⟨V,by rw[gh,h6]⟩]at j;refine zm ?_;cases h7:decide (r.lo<0)
  .have I:¬r.lo<0:=by simpa using h7
   simp only[S,aK,go_sem,simprocAttr];refine aZ (d_++[t],rest,iG r (cC t).1,g++[_,_]) ⟨by rw[v];simp,j,wR M N⟩ (dc _) (by simp only[iG,if_neg I,go_sem,simprocAttr];exact⟨rfl,rfl⟩) ?_;simp[z,go_sem]
  .have I:r.lo<0:=by simpa using h7
   simp only[S,aK,Int.lt_irrefl,go_sem,simprocAttr];refine aZ (d_++[t],rest,iG r (cC t).1,g++[_,_]) ⟨by rw[v];simp,j,wR M N⟩ (dc _) (by simp only[iG,if_pos I,go_sem,simprocAttr];exact⟨rfl,rfl⟩) ?_;simp[z,go_sem]
structure HrKOk (x:HrK):Prop where
 k:HrKindOk x.k
 lo:0<=x.rates.lo
 le:x.rates.lo<=x.rates.hi
 pos:1<=x.rates.hi
 hi:x.rates.hi<=901800000
def zz (r:Span):Prop:=(r=⟨-1,0⟩)\/(0<=r.lo/\r.lo<=r.hi/\r.hi<=601200000)
def Nb{r q}(e:zz r)(i:0<=q.lo/\q.lo<=q.hi/\q.hi<=601200000):zz (iG r q):=by
 grind[zz,iG]
def Io{e at'}:∀{l} {r},cR e l=0->zz r->zz (oA at' r l)
 |[],_,_,h=>h
 |t::l,r,h,i=>by
  have u:=pM h;have q:cR e l=0:=by rw[cR]at h;split at h<;>(omega)
  rw[oA];refine Io q ?_;split
  .rename_i j;have hok:=(eY (u t (by simp))).1;have:=pq hok;exact Nb i ⟨this.1,Ec hok j.2,this.2.2.2⟩
  .exact i
def RI{m}{r}(j:0<=m/\m<=500)(i:0<=r.lo/\r.lo<=r.hi/\r.hi<=601200000):0<=(fE m r).lo/\(fE m r).lo<=(fE m r).hi/\(fE m r).hi<=901800000:=by
 have v:0<=(fE m r).lo:=by
  refine(Frac.down_le (f:=⟨r.lo*(1000-m),1000⟩) (by simp) 0).2 ?_;have:0<=r.lo*(1000-m):=pF (by omega) (by omega);simpa using this
 have u:(fE m r).lo<=r.lo:=by
  have:=(Frac.down_le (f:=⟨r.lo*(1000-m),1000⟩) (by simp) (fE m r).lo).1 (lP _);dsimp only at this;have e:r.lo*(1000-m)<=r.lo*1000:=v6 (by omega) (by omega);omega
 have q:r.hi<=(fE m r).hi:=by
  have:=(Frac.up_le (f:=⟨r.hi*(1000+m),1000⟩) (by simp) (fE m r).hi).1 (lP _);dsimp only at this;have e:r.hi*1000<=r.hi*(1000+m):=v6 (by omega) (by omega);omega
 have l:(fE m r).hi<=901800000:=by
  refine(Frac.up_le (f:=⟨r.hi*(1000+m),1000⟩) (by simp) _).2 ?_;dsimp only;have e:r.hi*(1000+m)<=r.hi*1500:=v6 (by omega) (by omega);omega
 omega
def uw{s}{l}{at'}(h:(bk s l at').2=0):HrKOk (bk s l at').1/\bY s l=0/\aq at' 0 ((s.kinds.length:Int)-1)=true /\
  s.kinds[at'.toNat]?=some (bk s l at').1.k/\(bk s l at').1.rates=fE s.margin (eF s l at')/\0<=(eF s l at').lo:=by
 unfold bk at h |-;split at h
 .rename_i v;have q:=sL v;rw[if_pos v];split at h
  .cases h
  .rename_i k i;split at h
   .cases h
   .rename_i u;split at h
    .cases h
    .rename_i C;have j:aq at' 0 ((s.kinds.length:Int)-1)=true:=by
      cases j:aq at' 0 ((s.kinds.length:Int)-1) with
      |true=>rfl
      |false=>grind
     rw[if_pos j]at i;simp only[j,i,if_neg u,if_neg C];have z:=my q.1;have A:zz (eF s l at'):=Io q.2.2 (.inl rfl);have y:=A.resolve_left (by grind);have hw:=RI z.2.2 y;refine⟨⟨pm q.1 (aB i),hw.1,hw.2.1,?_,hw.2.2⟩,v,trivial,trivial,trivial,by omega⟩;grind
 omega
def HrK.least (x:HrK):Frac:=⟨60*(x.k.weight.lo-x.k.rest),x.rates.hi⟩
def HrK.most (x:HrK):Frac:=if 0<x.rates.lo then⟨60*(x.k.weight.hi-x.k.rest),x.rates.lo⟩ else⟨-1,1⟩
def Ws(x)(hx:HrKOk x):af TP 353 [x.pv] (.tuple [x.least.pv,x.most.pv]):=by
 have i:=hx.k;have D:=i.lo;have C:=i.le;have A:=i.hi;have z:=i.rest;have y:=i.less
 refine ae (dv (by kernel_rfl) rfl ZP) rfl ?_;have v:i64.wrap (x.k.weight.lo-x.k.rest)=x.k.weight.lo-x.k.rest:=ah;have u:i64.wrap (60*(x.k.weight.lo-x.k.rest))=60*(x.k.weight.lo-x.k.rest):=ah;have q:i64.wrap (x.k.weight.hi-x.k.rest)=x.k.weight.hi-x.k.rest:=ah;have l:i64.wrap (60*(x.k.weight.hi-x.k.rest))=60*(x.k.weight.hi-x.k.rest):=ah;refine zo v u ?_;cases j:decide (0<x.rates.lo)
 .have e:¬0<x.rates.lo:=by simpa using j
  simp[TV,aD,HrK.least,HrK.most,if_neg e,go_sem]
 .have e:0<x.rates.lo:=by simpa using j
  simp[q,l,TV,aD,HrK.least,HrK.most,if_pos e,go_sem]
def HrK.promise (x:HrK):Int:=if Frac.down ⟨x.least.top,x.least.below*60⟩<16666 then Frac.down ⟨x.least.top,x.least.below*60⟩ else 16666
def HrKOk.leastB{x}(hx:HrKOk x):60<=x.least.top/\x.least.top<=600000000/\1<=x.least.below/\x.least.below<=901800000:=by
 have e:=hx.k;have y:=e.lo;have v:=e.le;have u:=e.hi;have q:=e.rest;have l:=e.less;have j:=hx.pos;have i:=hx.hi
 grind[HrK.least]
def HrKOk.mostB{x}(hx:HrKOk x):-1<=x.most.top/\x.most.top<=600000000/\1<=x.most.below/\x.most.below<=901800000:=by
 have e:=hx.k;have y:=e.lo;have v:=e.le;have u:=e.hi;have q:=e.rest;have l:=e.less;have j:=hx.le;have i:=hx.hi
 grind[HrK.most]
def FZ(x)(hx:HrKOk x):af TP 313 [x.pv] (.int .i64 x.promise):=by
 have i:=hx.leastB;refine ae (ag func313 rfl) rfl (zm ?_);refine aa (Ws x hx) rfl ?_;have e:i64.wrap (x.least.below*60)=x.least.below*60:=ah;refine zn e ?_;refine aa (od ⟨x.least.top,x.least.below*60⟩ (by grind) (by grind) (by grind)) rfl ?_;simp[HrK.promise,go_sem]
def HrK.short (x:HrK) (r:HrRule):Bool:=x.least.lt ⟨r.minutes.lo,1⟩
def HrK.long (x:HrK) (r:HrRule):Bool:=decide (x.most.top<0)||Frac.lt ⟨r.minutes.hi,1⟩ x.most
def HrK.size (x:HrK) (r:HrRule):Bool:=!aq x.k.weight.lo r.weight.lo r.weight.hi||!aq x.k.weight.hi r.weight.lo r.weight.hi
def aY (s:HrShop) (l:List HrTest) (at':Int):Int×Int:=if(bk s l at').2=0 then((bk s l at').1.promise,0) else(0,(bk s l at').2)
def Tc(s)(l)(at'):af TP 248 [s.pv,.slice 3 (l.map HrTest.pv) false,.int .i64 at'] (.tuple [.int .i64 (aY s l at').1,.int .i64 (aY s l at').2]):=by
 refine ae (ag func248 rfl) rfl (zm ?_);refine aa (N3 s l at') rfl (zm ?_);cases i:((bk s l at').2 != 0)
 .have e:(bk s l at').2=0:=by simpa using i
  refine zm ?_;refine aa (FZ _ (uw e).1) rfl ?_;simp[aY,if_pos e,go_sem]
 .have e:¬(bk s l at').2=0:=by simpa using i
  simp[aY,if_neg e,go_sem]
def HrK.minutes (x:HrK):Span:=⟨if x.least.down<1000000 then x.least.down else 1000000,if aq x.most.up 0 1000000=true then x.most.up else 1000000⟩
def HrK.fits (x:HrK) (r:HrRule):Int:=if x.short r=true then 1 else if x.long r=true then 2 else if x.size r=true then 3 else 0
def LA (p:Int×Int):PV×PV:=(.int .i64 p.1,.int .i64 p.2)
def l5 (k:Int):List (Int×Int)->Option Int
 |[]=>none
 |(q,v)::r=>if k=q then some v else l5 k r
def CF(k):∀es,nD (.int .i64 k) (es.map LA)=some ((l5 k es).map λv=>.int .i64 v)
 |[]=>rfl
 |(q,v)::r=>by
  rw[bf,nD.eq_def];simp only[LA,lf,if_true];cases h:(k==q)
  .rw[l5,if_neg (by simpa using h)];exact CF k r
  simp_all[nD.match_1,nD,LA,l5]
def CE(k v):∀es,l5 k es=none->p4 (.int .i64 k) (.int .i64 v) (es.map LA)=some ((es++[(k,v)]).map LA)
 |[],_=>rfl
 |(q,u)::r,h=>by
  rw[l5]at h;split at h
  .cases h
  .rename_i e;rw[bf,p4.eq_def];simp only[LA,lf,if_true];rw[show (k==q)=false by simpa using e];dsimp only;rw[CE k v r h];rfl
def yv(k)(a):∀es,l5 k (es++[a])=(l5 k es).or (if k=a.1 then some a.2 else none)
 |[]=>by simp[l5]
 |(q,u)::r=>by
  rw[ga,l5,l5];split
  .rfl
  .exact yv k a r
def mE (s:HrShop) (l:List HrTest) (b:HrBox):Int:=
 if aq b.kind 0 ((s.kinds.length:Int)-1)=true then(if aq b.hours 0 1000000=true then(bk s l b.kind).2 else 7) else 4
def bT (s:HrShop) (l:List HrTest):Nat->List HrBox->List Int×Int
 |_,[]=>([],0)
 |i,b::r=>
  if mE s l b=0 then
   (if(bT s l (i+1) r).2=0 then((if(bk s l b.kind).1.promise<b.hours then [(i:Int)] else [])++(bT s l (i+1) r).1,0) else([],(bT s l (i+1) r).2))
  else([],mE s l b)
def bQ (s:HrShop) (l:List HrTest) (boxes:List HrBox):List Int×Int:=
 if bY s l=0 then(if 20<boxes.length then([],3) else bT s l 0 boxes) else([],bY s l)
def fV (out:List Int) (q:List Int×Int):List Int×Int:=if q.2=0 then(out++q.1,0) else([],q.2)
def qJ{s}{l}{out}{i}{b}{r}{e}(h:mE s l b=e)(j:e≠0):fV out (bT s l i (b::r))=([],e):=by
 grind[fV,bT]
def Ea{s}{l}{out}{i}{b}{r}(h:mE s l b=0) :
  fV out (bT s l i (b::r))=fV (out++(if(bk s l b.kind).1.promise<b.hours then [(i:Int)] else [])) (bT s l (i+1) r):=by
 grind[fV,bT,HrK.promise,bk]
def Na(s)(l):bk s l (-1)=(⟨nL,⟨0,0⟩⟩,if bY s l=0 then 4 else bY s l):=by
 rw[bk];split
 .rfl
 .rfl
def Mj{P:Program}{H:Hints}{ops:Array Oper}{rest:List Oper}{Q:Cont}{o:Oper}{A:AAct}{f:FuncId}{args:List AV}{v:AV}{h':Heap}(i:aw P f args A.h (λr h=>r=.ret v/\h=h'))
  (j:@WD ⟨P,H,ops,rest,Q⟩ (A.put o.dst v h').h (A.put o.dst v h')):@Rv ⟨P,H,ops,rest,Q,o⟩ A (.call f args):=
 i.mono λr h e=>by
  obtain⟨rfl,rfl⟩:=e;exact j
def aX (n:Int):List UInt8:=Lib.decDigits n.toNat
def xh:∀(k n:Nat),n<10^(k+1)->(Lib.decDigits n).length<=k+1
 |0,n,h=>by rw[Lib.decDigits,dif_pos (by simpa using h)];simp
 |k+1,n,h=>by
  rw[Lib.decDigits];split
  .simp
  .have:=xh k (n / 10) (by omega);simp;omega
def lC{n:Int}(_:0<=n)(e:n<=10000000):(aX n).length<=8:=xh 7 _ (by omega)
def o8{n:Int}(e:0<=n):CQ n=bs (aX n):=by
 have:Lib.itoa n=aX n:=by rw[Lib.itoa,if_neg (by omega)];rfl
 rw[CQ,this];rfl
def ol:List UInt8:=[116,101,115,116,32]
def sp:List UInt8:=[32]
def nl:List UInt8:=[10]
def j1 (nm:List UInt8) (e:Int):List UInt8:=ol++nm++sp++aX e++nl
def gu (m:HrMark):List UInt8:=aX m.minute++sp++aX m.weight++nl
def gQ (s:HrShop) (t:HrTest):List UInt8:=j1 (((s.kinds[t.kind.toNat]?).map λk=>k.name.data.toList).getD []) t.error++(t.marks.map gu).flatten
def CA{b:ByteArray}(h:nameOk b=true):b.size<=20:=by
 unfold nameOk at h;grind
def mD(a b:ByteArray):iY a++iY b=iY (a++b):=by
 simp[iY]
def Aw{h:Heap}{i:Nat}{s:ByteArray}(hi:h[i]?=some (.bld 97 5 (.p .nilslice)))(v:s.size<=1000000)(u:s.size≠0) :
  aw TP 39 [.ref .bl i,.p (.str s)] h (λr h'=>r=.ret (.p (.tuple [.int .i64 s.size,.niliface])) /\
   h'=(h++[AObj.row 1 (iY s)]).set i (.bld 97 5 (.slice h.length s.size 0 s.size))):=by
 have l:=(aC.1 hi).1;refine FD (x':=.slice h.length s.size 0 s.size) hi (by simp[ai];omega) (.inl rfl) ?_ (by grind) (.inr ⟨_,_,rfl⟩);have j:¬(List.map (λb:UInt8=>AV.p (PV.int .u8 (b.toNat:Int))) s.data.toList=[]):=λh=>u (by have:=congrArg List.length h;simpa using this);have e:s.size<=ai:=by simp[ai];omega
 have q:s.data.size=s.size:=rfl;simp only[j,e,AZ,q,iY,go_sem,simprocAttr];rfl
def qa{h:Heap}{i j n:Nat}{xs:List AV}{s:ByteArray}(hi:h[i]?=some (.bld 97 5 (.slice j n 0 n)))(u:h[j]?=some (.row 1 xs))(q:xs.length=n)(l:i≠j)(y:n+s.size<=1000000) :
  aw TP 39 [.ref .bl i,.p (.str s)] h (λr h'=>r=.ret (.p (.tuple [.int .i64 s.size,.niliface])) /\
   h'=(h.set j (.row 1 (xs++iY s))).set i (.bld 97 5 (.slice j (n+s.size) 0 (n+s.size)))):=by
 refine FD (x':=.slice j (n+s.size) 0 (n+s.size)) hi (by simp[ai];omega) (.inr ⟨j,n,xs,rfl,u,q,by simp[ai];omega⟩) ?_ (by grind) (.inr ⟨_,_,rfl⟩);have e:n+s.size<=ai:=by simp[ai];omega
 have v:s.data.size=s.size:=rfl;simp only[u,q,e,AZ,v,iY,go_sem,simprocAttr];rfl
def zau(s:HrShop)(t:HrTest)(hc:(hrCheck s).2.2=0)(ht:bm s.kinds.length t=0):af TP 291 [s.pv,t.pv] (.str (bs (gQ s t))):=by
 obtain⟨hok,k0,k1⟩:=eY ht;obtain⟨n,M⟩:=na k0;have R:n<s.kinds.length:=by omega
 obtain⟨k,N⟩:∃k,s.kinds[n]?=some k:=⟨_,bL R⟩
 have V:=pm hc (aB N);have U:=CA V.name;obtain⟨e,y⟩:∃e,k.name=bs e:=⟨_,(r6 _).symm⟩
 have F:gQ s t=j1 e t.error++(t.marks.map gu).flatten:=by rw[gQ,M,gX,N,i8,gY,y,io]
 rw[y,al]at U;have T:(n:Int)<(s.kinds.length:Int):=by omega
 have Y:=hok.err;have a0:=lC Y.1 (by omega);have X:=o8 Y.1;have D:ol.length=5:=rfl;have l:sp.length=1:=rfl;have K:nl.length=1:=rfl;have r1:(bs ol).size+(bs e).size<=aM:=by simp[al,aM,D];omega
 have r2:(bs (ol++e)).size+(bs sp).size<=aM:=by simp[al,aM,D,l];omega
 have r3:(bs (ol++e++sp)).size+(bs (aX t.error)).size<=aM:=by simp[al,aM,D,l];omega
 have r4:(bs (ol++e++sp++aX t.error)).size+(bs nl).size<=aM:=by simp[al,aM,D,l,K];omega
 have c1:(⟨#[116,101,115,116,32]⟩:ByteArray)=bs ol:=rfl;have c2:(⟨#[32]⟩:ByteArray)=bs sp:=rfl;have c3:(⟨#[10]⟩:ByteArray)=bs nl:=rfl;have Z:ol++e++sp++aX t.error++nl=j1 e t.error:=rfl;have G:(j1 e t.error).length<=40:=by simp[j1,D,l,K];omega
 have C:(j1 e t.error).length≠0:=by simp[j1,D]
 generalize j1 e t.error=A at F Z G C;refine ae (dv (by kernel_rfl) rfl ZT) rfl ?_;simp only[Zs,aD,M,T,N,y,c1,c2,c3,r1,r2,cc,go_sem,simprocAttr];refine aj (Aa t.error (by omega) (by omega)) rfl (t_ X r3 r4 @cc Z ?_);refine Mj (Aw (s:=bs A) rfl (by rw[al];omega) (by rw[al];exact C)) ?_;refine zn @al ?_
 refine dY [5,24,25] (σ:=List HrMark×List HrMark×List UInt8×Heap)
  (λq=>t.marks=q.1++q.2.1/\gQ s t=q.2.2.1++(q.2.1.map gu).flatten/\q.2.2.1.length<=40+18*q.1.length/\q.2.2.1.length≠0) (λq=>q.2.1.length)
  (λq=>[(26,.p (.int .i64 q.1.length))])
  (λq=>[.row 3 [.p s.pv],.row 3 [.p t.pv],.bld 97 5 (.slice 3 q.2.2.1.length 0 q.2.2.1.length),.row 1 (iY (bs q.2.2.1))]++q.2.2.2) ([],t.marks,A,[]) ⟨rfl,F,G,C⟩ (by simp[M,bI,go_sem]) ?_ ?_
 .simp[go_sem]
 rintro⟨d_,rest,i,g⟩ ⟨u,E,e3,e4⟩
 dsimp only at u E e3 e4
 cases rest with
 |nil=>
  have J:¬((d_.length:Int)<(t.marks.length:Int)):=by rw[u];simp
  rw[bx,List.flatten_nil,bI]at E;have S:=hok.len;have z:=congrArg List.length u;simp only[ak,bS]at z;refine zo J decide_false ?_;have v:=al i;refine cw (xa (j:=3) (s:=bs i) (by rw[v];rfl) rfl (by omega) (by rw[v];omega)) ?_;refine zm ?_
  rw[E]
 |cons m rest=>
  obtain⟨hx,I⟩:=ca u;have S:=hok.len;have z:=congrArg List.length u;simp only[ak,bc]at z;have O:i64.wrap ((d_.length:Int)+1)=(((d_++[m]).length:Nat):Int):=aO (by omega) (by simp[ai];omega) (by simp);have L:=hok.all m (by rw[u];simp);have a2:=lC L.1 (by omega);have a1:=lC L.2.2.1 (by omega);have i1:=o8 L.1;have i2:=o8 L.2.2.1;have q1:(bs (aX m.minute)).size+(bs sp).size<=aM:=by simp[al,aM,l];omega
  have q2:(bs (aX m.minute++sp)).size+(bs (aX m.weight)).size<=aM:=by simp[al,aM,l];omega
  have q3:(bs (aX m.minute++sp++aX m.weight)).size+(bs nl).size<=aM:=by simp[al,aM,l,K];omega
  have hB:aX m.minute++sp++aX m.weight++nl=gu m:=rfl;have a3:(gu m).length<=18:=by simp[gu,l,K];omega
  rw[bf,DD]at E;have g0:=mA (lo:=g) rfl;have s0:=oG (lo:=g) rfl;simp only[I,decide_true,hx,g0,s0,aD,bI,go_sem,simprocAttr];refine aj (Aa m.minute (by omega) (by omega)) rfl ?_;simp only[i1,q1,cc,g0,bI,go_sem,simprocAttr];refine aj (Aa m.weight (by omega) (by omega)) rfl ?_;simp only[i2,q2,q3,cc,hB,bI,go_sem,simprocAttr];refine Mj (qa (s:=bs (gu m)) (j:=3) rfl rfl (by rw[mi,al]) (by decide) (by rw[al];omega)) ?_;refine zp @al @mD @cc ?_;refine aZ (d_++[m],rest,i++gu m,g++[.row 2 [.p m.pv]]) ⟨by rw[u];simp,by rw[E];simp,by grind,by grind⟩ (dc _) (by simp[ak,go_sem]) ?_;simp[O,go_sem]
def js{n:Int}(e:0<=n)(i:n<1000000000):af TP 46 [.int .i64 n] (.str (bs (aX n))):=by
 obtain⟨m,rfl⟩:=na e;exact Wt m (by omega)
def S7(s:HrShop)(t:HrTest)(hc:(hrCheck s).2.2=0)(ht:bm s.kinds.length t=0):af TP 263 [s.pv,t.pv] (.str (bs (gQ s t))):=by
 obtain⟨hok,k0,k1⟩:=eY ht;obtain⟨n,I⟩:=na k0;have M:n<s.kinds.length:=by omega
 obtain⟨k,J⟩:∃k,s.kinds[n]?=some k:=⟨_,bL M⟩
 have R:=pm hc (aB J);have O:=CA R.name;obtain⟨i,u⟩:∃i,k.name=bs i:=⟨_,(r6 _).symm⟩
 have C:gQ s t=j1 i t.error++(t.marks.map gu).flatten:=by rw[gQ,I,gX,J,i8,gY,u,io]
 rw[u,al]at O;have N:(n:Int)<(s.kinds.length:Int):=by omega
 have T:=hok.err;have a1:=lC T.1 (by omega);have y:ol.length=5:=rfl;have j:sp.length=1:=rfl;have F:nl.length=1:=rfl;have r1:(bs ol).size+(bs i).size<=aM:=by simp[al,aM,y];omega
 have Z:(bs (ol++i)).size+(bs sp).size<=aM:=by simp[al,aM,y,j];omega
 have Y:(bs (ol++i++sp)).size+(bs (aX t.error)).size<=aM:=by simp[al,aM,y,j];omega
 have X:(bs (ol++i++sp++aX t.error)).size+(bs nl).size<=aM:=by simp[al,aM,y,j,F];omega
 have c1:(⟨#[116,101,115,116,32]⟩:ByteArray)=bs ol:=rfl;have V:(⟨#[32]⟩:ByteArray)=bs sp:=rfl;have K:(⟨#[10]⟩:ByteArray)=bs nl:=rfl;have U:ol++i++sp++aX t.error++nl=j1 i t.error:=rfl;have D:(j1 i t.error).length<=40:=by simp[j1,y,j,F];omega
 have a0:=hok.len;generalize j1 i t.error=A at C U D;refine ae (ag func263 rfl) rfl ?_;simp only[I,N,J,u,c1,V,K,r1,Z,cc,go_sem,simprocAttr];refine aj (js T.1 (by omega)) rfl (t_ Y X K @cc U ?_)
 refine dl [3] (σ:=List HrMark×List HrMark×List UInt8)
  (λq=>t.marks=q.1++q.2.1/\gQ s t=q.2.2++(q.2.1.map gu).flatten/\q.2.2.length<=40+18*q.1.length) (λq=>q.2.1.length)
  (λq=>[(5,.p (.str (bs q.2.2))),(6,.p (.int .i64 q.1.length))])
  (λq=>[.row 3 [.p s.pv],.row 3 [.p t.pv]]) ([],t.marks,A) ⟨rfl,C,D⟩ ?_ ?_
 .simp[I,go_sem]
 rintro⟨d_,rest,e⟩ ⟨v,z,e3⟩
 dsimp only at v z e3
 cases rest with
 |nil=>
  have E:¬((d_.length:Int)<(t.marks.length:Int)):=by rw[v];simp
  rw[bx,List.flatten_nil,bI]at z
  simp[E,decide_false,z,go_sem]
 |cons m rest=>
  obtain⟨hx,l⟩:=ca v;have S:=congrArg List.length v;simp only[ak,bc]at S;have L:i64.wrap ((d_.length:Int)+1)=(((d_++[m]).length:Nat):Int):=aO (by omega) (by simp[ai];omega) (by simp);have G:=hok.all m (by rw[v];simp);have a3:=lC G.1 (by omega);have a2:=lC G.2.2.1 (by omega);have q0:(bs e).size+(bs (aX m.minute)).size<=aM:=by simp[al,aM];omega
  have q1:(bs (e++aX m.minute)).size+(bs sp).size<=aM:=by simp[al,aM,j];omega
  have q2:(bs (e++aX m.minute++sp)).size+(bs (aX m.weight)).size<=aM:=by simp[al,aM,j];omega
  have q3:(bs (e++aX m.minute++sp++aX m.weight)).size+(bs nl).size<=aM:=by simp[al,aM,j,F];omega
  have hB:e++aX m.minute++sp++aX m.weight++nl=e++gu m:=by simp[gu]
  have a4:(gu m).length<=18:=by simp[gu,j,F];omega
  rw[bf,DD]at z;refine zp l decide_true hx ?_;refine aj (js G.1 (by omega)) rfl ?_;simp only[l,hx,V,q0,q1,cc,go_sem,simprocAttr];refine aj (js G.2.2.1 (by omega)) rfl (t_ K q2 q3 @cc hB ?_);refine aF (d_++[m],rest,e++gu m) ⟨by rw[v];simp,by rw[z];simp,by grind⟩ (dc _) ?_;simp[L,go_sem]
open Go.IntKind (i64)
set_option maxRecDepth 4000
def Nt(l)(c)(h):aw TP 338 [.p (.str (bs l)),.p (.str (bs [c])),.p (.int .i64 0)] h
  (λr h'=>r=.ret (.func (.func 371) [] [.ptr (h.length+1) 1 0 0,.ptr h.length 1 0 0,.ptr (h.length+2) 1 0 0]) /\
   h'=h++[.row 1 [.p (.str (bs l))],.row 1 [.p (.str (bs [c]))],.row 1 [.p (.int .i64 0)]]):=by
 refine au (ag func338 rfl) rfl ?_;simp[dD,ak,aK,go_sem]
def Qd(l)(c)(h):aw TP 288 [.p (.str (bs l)),.p (.str (bs [c]))] h
  (λr h'=>r=.ret (.func (.func 371) [] [.ptr (h.length+1) 1 0 0,.ptr h.length 1 0 0,.ptr (h.length+2) 1 0 0]) /\
   h'=h++[.row 1 [.p (.str (bs l))],.row 1 [.p (.str (bs [c]))],.row 1 [.p (.int .i64 0)]]):=by
 refine au (ag func288 rfl) rfl (zm ?_);refine cw (Nt l c h) ?_;simp[go_sem]
def Mk (c:UInt8) (ns nsep nz:Nat) (x:List UInt8) (h:Heap):Prop:=
 h[ns]?=some (.row 1 [.p (.str (bs x))])/\h[nsep]?=some (.row 1 [.p (.str (bs [c]))])/\h[nz]?=some (.row 1 [.p (.int .i64 0)])
def X3(l)(c)(hl:l.length<1000000000)(id ns j O)(T)(Inv i:List (List UInt8)->List UInt8->Heap->Prop)(I:PV->Heap->Prop)
  (u:∀d_ x h,Inv d_ x h->Mk c ns j O x h) (C:∀d_ x h,i d_ x h->Mk c ns j O x h)
  (hy:∀d_ x h,aA c l=d_++aA c x->Inv d_ x h->ve TP id [.p (.str (bs (aP c x).1))] h (λr h'=>(r=.ret (.p (.bool true))/\i (d_++[(aP c x).1]) x h')\/∃v,r=.panic v/\I v h'))
  (A:∀d_ x y h,i d_ x h->(aP c x).2=some y->Inv d_ y (h.set ns (.row 1 [.p (.str (bs y))]))) (hi:Inv [] l T) :
  aw TP 371 [.ref .yl id,.ptr j 1 0 0,.ptr ns 1 0 0,.ptr O 1 0 0] T
   (λr h'=>(r=.ret (.p (.tuple []))/\∃x,(aP c x).2=none/\i (aA c l) x h')\/∃v,r=.panic v/\I v h'):=by
 refine au (ag func371 rfl) rfl ?_;obtain⟨E,K,N⟩:=u _ _ _ hi;have hz:(((bs [c]).size:Int)==0)=false:=rfl;refine zo K hz ?_
 refine dY [0,1,2,3] (σ:=List (List UInt8)×List UInt8×Heap)
  (λq=>aA c l=q.1++aA c q.2.1/\Inv q.1 q.2.1 q.2.2/\q.2.1.length<1000000000) (λq=>q.2.1.length)
  (λ_=>[]) (λq=>q.2.2) ([],l,T) ⟨rfl,hi,hl⟩ rfl ?_ ?_
 .simp[go_sem]
 clear E K N
 rintro⟨d_,x,h⟩ ⟨M,U,e3⟩
 dsimp only at M U e3;obtain⟨E,K,N⟩:=u _ _ _ U;have z:=hy d_ x h M U;refine zo E K ?_;refine aa (Ji (bs x) c) rfl ?_;rw[io];rcases lA c x with⟨G,S,F⟩|⟨r,G,S,F⟩
 .refine zo F E ?_;have J:aA c l=d_++[x]:=by rw[M,mI G]
  rw[S]at z;refine r9 z (λv h' e=>?_) (λv h' e=>?_)
  .rcases e with⟨e,L⟩|⟨v',e,_⟩
   .cases e;refine zm ?_;grind
   .cases e
  .rcases e with⟨e,_⟩|⟨v',e,R⟩
   .cases e
   .cases e;refine zm ?_;grind
 .have D:=congrArg List.length F;simp only[ak,bc]at D;have q1:decide (((aP c x).1.length:Int)<0)=false:=by simp
  have q2:i64.wrap (((aP c x).1.length:Int)+0)=(((aP c x).1.length:Nat):Int):=by rw[uJ];exact ah
  have q3:(((aP c x).1.length:Int)<=((bs x).size:Int)):=by rw[al];omega
  have q4:(bs x).extract 0 (aP c x).1.length=bs (aP c x).1:=by
   rw[dF,qy]
   congr 1
   have:=congrArg (List.take (aP c x).1.length) F;rw[eX]at this
   .exact this
   .rfl
  have q5:i64.wrap (((aP c x).1.length:Int)+(((bs [c]).size:Nat):Int))=(((aP c x).1.length+1:Nat):Int):=by
   rw[al];exact aO (by omega) (by simp[ai];omega) (by simp)
  have Z:((((aP c x).1.length+1:Nat):Int)<=((bs x).size:Int)):=by rw[al];omega
  have Y:(bs x).extract ((aP c x).1.length+1) (bs x).size=bs r:=by
   rw[dF,al,nS]
   congr 1
   have:=congrArg (List.drop ((aP c x).1.length+1)) F;rw[this];simp
  simp only[S,q1,E,N,q2,q3,q4,go_sem,simprocAttr];refine r9 z (λv h' e=>?_) (λv h' e=>?_);rotate_left
  .rcases e with⟨e,_⟩|⟨v',e,R⟩
   .cases e
   .cases e;refine zm ?_;grind
  rcases e with⟨e,L⟩|⟨v',e,_⟩
  rotate_left
  .cases e
  cases e;obtain⟨X,V,s3⟩:=C _ _ _ L;refine t_ X V q5 Z Y ?_;refine aZ (d_++[(aP c x).1],r,h'.set ns (.row 1 [.p (.str (bs r))])) ⟨by rw[M,mH G];simp,A _ _ _ _ L G,by grind⟩ (by grind) rfl ?_;simp[go_sem]
def vE(a b):∀e,Lib.decFrom e (a++b)=(Lib.decFrom e a).bind λx=>Lib.decFrom x b:=by
 induction a with
 |nil=>intro e;rfl
 |cons x r i=>
  intro e;rw[ga,Lib.decFrom,Lib.decFrom]
  cases Lib.digitVal x with
  |none=>rfl
  |some d=>exact i _
def FN{d}(h:d<10):Lib.digitVal (UInt8.ofNat (48+d))=some d:=by
 have e:(UInt8.ofNat (48+d)).toNat=48+d:=by simp;omega
 rw[Lib.digitVal,e,if_pos (by omega)]
 congr 1;omega
def u2(n):Lib.decFrom 0 (Lib.decDigits n)=some n:=by
 induction n using Nat.strongRecOn with
 |ind n e=>
  rw[Lib.decDigits];split
  .rename_i h;simp only[Lib.decFrom,FN h,GM,gZ]
  .rename_i h;rw[vE,e (n / 10) (by omega)];simp only[iv,Lib.decFrom,FN (zG n (by omega:0<10))]
   congr 1;omega
def xi(n):∀b,b∈Lib.decDigits n->48<=b.toNat/\b.toNat<=57:=by
 induction n using Nat.strongRecOn with
 |ind n j=>
  intro b i;rw[Lib.decDigits]at i;split at i
  .simp_all;omega
  .rename_i h;rw[cn,dW]at i;rcases i with i|rfl
   .grind
   simp;omega
def qf(n):Lib.decDigits n≠[]:=by rw[Lib.decDigits];split<;>simp
def kV (l:List UInt8):Option Int:=match Lib.atoiAll l with|.ok v=>some v|_=>none
def wM{n}(u:0<=n)(v:n<=10000000):kV (aX n)=some n:=by
 obtain⟨m,rfl⟩:=na u;have A:=lC u v;have e:Lib.atoi (aX (m:Int))=some (m:Int):=by
  unfold aX;rw[gX];have j:=xi m;have i:=u2 m
  cases l:Lib.decDigits m with
  |nil=>exact absurd l (qf m)
  |cons b r=>
   rw[l]at j i;have q:=j b (by simp);have z:(b==45)=false:=by
    rw[beq_eq_false_iff_ne];rintro rfl;simp at q
   have y:(b==43)=false:=by
    rw[beq_eq_false_iff_ne];rintro rfl;simp at q
   simp only[Lib.atoi,z,y,fD,if_false,Lib.decNat,List.isEmpty_cons,i,i8]
 rw[kV,Lib.atoiAll_short _ (by omega),e];rfl
def jm:PV:=.iface 43 (.int .i64 6)
def X8(b)(h):aw TP 285 [.p (.bool b)] h (λr h'=>h'=h/\r=if b=true then .ret (.p (.tuple [])) else .panic jm):=by
 refine au (ag func285 rfl) rfl (zm ?_);cases b
 .simp[jm,go_sem]
 .simp[go_sem]
def qY{H}{Q}{ops}{rest}{dst}{A}{b}(j:b=true->@WO ⟨TP,H,ops,rest,Q⟩ (A.put dst (.p (.tuple [])) A.h))
  (i:b=false->@WQ ⟨Q⟩ (.panic jm) A):@WF ⟨TP,H,ops,rest,Q,dst⟩ A 285 [.p (.bool b)]:=by
 refine cZ (X8 b A.h) (λv h e=>?_) (λv h e=>?_)
 .grind
 .obtain⟨rfl,e⟩:=e;cases b
  .simp_all
  .cases e
def YG:af TP 285 [.bool true] (.tuple []):=by
 refine ae (ag func285 rfl) rfl ?_;simp[go_sem]
def vI{l}{n}(j:l.length<=1000000)(h:kV l=some n):af TP 287 [.str (bs l)] (.int .i64 n):=by
 refine ae (ag func287 rfl) rfl ?_;have e:mF (bs l)=.tuple [.int .i64 n,.niliface]:=by
  unfold kV at h;rw[mF,io];cases i:Lib.atoiAll l<;>rw[i]at h<;>first|cases h;done|skip
  cases h;rfl
 refine zm ?_;refine aa (G4 (bs l) (by rw[al];omega)) rfl ?_;refine zn e ?_;refine aa YG rfl ?_;simp[go_sem]
def qb{l}(j:l.length<=1000000)(h:kV l=none)(e):aw TP 287 [.p (.str (bs l))] e (λr h'=>r=.panic jm/\h'=e):=by
 refine au (ag func287 rfl) rfl ?_;have hx:∃v,mF (bs l)=.tuple [.int .i64 v,.iface 345 .any]:=by
  unfold kV at h;rw[mF,io];cases i:Lib.atoiAll l<;>rw[i]at h<;>first|cases h;done|simp
 obtain⟨v,hx⟩:=hx;refine zm ?_;refine aa (G4 (bs l) (by rw[al];omega)) rfl ?_;refine zn hx ?_;refine qY (λh=>by cases h) (λ_=>?_);simp[go_sem]
def qZ{P}{H}{ops}{rest}{Q}{o}{e}{A}{f}{args}{pargs}{v}(i:af P f pargs v)(j:args=pargs.map .p)
  (h:@WD ⟨P,H,ops,rest,Q⟩ e (A.put o.dst (.p v) A.h)):@Rr ⟨P,H,ops,rest,Q,o⟩ e A (.call f args):=by
 subst j;exact .inl ⟨.p v,λ_ _=>sM i,h⟩
def uF{P}{H}{ops}{rest}{Q}{o}{e}{A}{f}{args}{v}(i:aw P f args A.h (λr h'=>r=.panic v/\h'=A.h))
  (h:∀T,@WQ ⟨Q⟩ (.panic v) { A with tmps:=T }):@Rr ⟨P,H,ops,rest,Q,o⟩ e A (.call f args):=.inr ⟨v,i,h⟩
def eM (p:List UInt8):Option HrMark:=
 match (aP 32 p).2 with
 |none=>none
 |some b=>match kV (aP 32 p).1 with
  |none=>none
  |some m=>match kV b with
   |none=>none
   |some w=>some ⟨m,w⟩
def fq:List HrMark->List (List UInt8)->Option (List HrMark)
 |acc,[]=>some acc
 |acc,p::r=>match eM p with
  |none=>none
  |some m=>fq (acc++[m]) r
def rA (all:List UInt8):List (List UInt8):=aA 32 (aP 10 all).1
def wy (all:List UInt8):List UInt8:=rf 10 ((aP 10 all).2.getD [])
def s5 (l:List HrKind) (nm:ByteArray):Int:=an (λk=>k.name==nm) l 0
def pU (s:HrShop) (all:List UInt8):Option HrTest:=
 match rA all with
 |[_,w1,w2]=>match kV w2 with
  |none=>none
  |some e=>(fq [] (aA 10 (wy all))).map λms=>⟨s5 s.kinds (bs w1),e,ms⟩
 |_=>none
def cQ:HrTest:=⟨0,0,[]⟩
def jH (s:HrShop) (all:List UInt8) (t:HrTest):Bool:=(bm s.kinds.length t==0)&&(gQ s t==all)
def aI (s:HrShop) (all:List UInt8):HrTest×Int:=
 if bO s []=0 then
  if 300<all.length then(cQ,3)
  else match pU s all with
   |none=>(cQ,6)
   |some t=>if jH s all t=true then(t,0) else(cQ,6)
 else(cQ,bO s [])
def sd:∀(a) (e) (b),fq e (a++b)=(fq e a).bind λi=>fq i b
 |[],_,_=>rfl
 |p::r,e,b=>by
  rw[ga,fq,fq]
  cases eM p with
  |none=>rfl
  |some m=>exact sd r _ b
def sA:∀(a) (e i),fq e a=some i->i.length=e.length+a.length
 |[],_,_,h=>by cases h;rfl
 |p::r,e,i,h=>by
  rw[fq]at h
  cases j:eM p with
  |none=>grind
  |some m=>
   rw[j]at h;have:=sA r _ _ h;grind
def uj(c):∀(l p),p∈aA c l->p.length<=l.length:=by
 intro l;generalize u:l.length=n
 induction n using Nat.strongRecOn generalizing l with
 |ind n j=>
  intro p e
  cases i:(aP c l).2 with
  |none=>
   rw[mI i,dW]at e
   subst e;omega
  |some r=>
   rw[mH i,br]at e;have q:=xj c l r i;rcases e with rfl|e
   .rcases lA c l with⟨h,_⟩|⟨_,_,_,h⟩
    .grind
    grind
   grind
def OV(c)(l):(rf c l).length<=l.length:=by
 grind[rf]
def tQ(c)(l):((aP c l).2.getD []).length<=l.length:=by
 cases e:(aP c l).2 with
 |none=>simp
 |some r=>have:=xj c l r e;simp;omega
def si(c)(l):(aP c l).1.length<=l.length:=by
 rcases lA c l with⟨_,h,_⟩|⟨r,_,_,h⟩
 .grind
 grind
def oS:PV:=.agg [.int .i64 0,.int .i64 0,.nilslice]
def Yu{i j}{a b c}{q}{h}(hi:h[i]?=some (.row 3 [.p (.agg [a,b,c])]))(v:h[j]?=some (.row 1 [.p (.int .i64 q)]))(l:i≠j) :
  lk TP 284 [.ptr i 1 0 0,.ptr j 1 0 0] (.pan jm) h
  (λr u h'=>r=.ret (.p (.tuple []))/\u=.recd jm/\h'=(h.set i (.row 3 [.p oS])).set j (.row 1 [.p (.int .i64 6)])):=by
 refine ii (dv (by kernel_rfl) rfl M7) rfl ?_;have e:=(aC.1 hi).1;have z:∀x,(h.set i x)[i]?=some x:=λx=>jp e;have y:∀x,(h.set i x)[j]?=some (.row 1 [.p (.int .i64 q)]):=λx=>by grind
 simp[pS,j0,hi,jm,z,y,TW,aD,oS,bI,go_sem]
def uT{rs}{R}{T}{i j}{a b c}{v}{h}(hi:h[i]?=some (.row 3 [.p (.agg [a,b,c])]))(q:h[j]?=some (.row 1 [.p (.int .i64 v)]))(e:i≠j)
  (k:cW TP rs R T [] .ret ((h.set i (.row 3 [.p oS])).set j (.row 1 [.p (.int .i64 6)]))) :
  cW TP rs R T [.fn 284 [.ptr i 1 0 0,.ptr j 1 0 0]] (.pan jm) h:=by
 rw[l7];refine(Yu hi q e).mono λr u h' l=>?_;obtain⟨rfl,rfl,rfl⟩:=l;exact k
def Yv{i j}{a b}{q n}{v}{h}(hi:h[i]?=some (.row 3 [.agg [.p a,.p b,.slice q n 0 n]]))(y:h[j]?=some (.row 1 [.p (.int .i64 v)]))(l:i≠j) :
  lk TP 284 [.ptr i 1 0 0,.ptr j 1 0 0] (.pan jm) h
  (λr u h'=>r=.ret (.p (.tuple []))/\u=.recd jm/\h'=(h.set i (.row 3 [.p oS])).set j (.row 1 [.p (.int .i64 6)])):=by
 refine ii (dv (by kernel_rfl) rfl M7) rfl ?_;have e:=(aC.1 hi).1;have A:∀x,(h.set i x)[i]?=some x:=λx=>jp e;have z:∀x,(h.set i x)[j]?=some (.row 1 [.p (.int .i64 v)]):=λx=>by grind
 simp[pS,j0,hi,jm,A,z,TW,aD,oS,bI,go_sem]
def uU{rs}{R}{T}{i j}{a b}{q n}{y}{h}(hi:h[i]?=some (.row 3 [.agg [.p a,.p b,.slice q n 0 n]]))(v:h[j]?=some (.row 1 [.p (.int .i64 y)]))(e:i≠j)
  (k:cW TP rs R T [] .ret ((h.set i (.row 3 [.p oS])).set j (.row 1 [.p (.int .i64 6)]))) :
  cW TP rs R T [.fn 284 [.ptr i 1 0 0,.ptr j 1 0 0]] (.pan jm) h:=by
 rw[l7];refine(Yv hi v e).mono λr u h' l=>?_;obtain⟨rfl,rfl,rfl⟩:=l;exact k
def VR{i j}{h}:lk TP 284 [.ptr i 1 0 0,.ptr j 1 0 0] .ret h (λr u h'=>r=.ret (.p (.tuple []))/\u=.ret/\h'=h):=by
 refine ii (dv (by kernel_rfl) rfl M7) rfl ?_;simp[pS,j0,go_sem]
def Iq{rs}{R}{T}{i j}{h}(k:cW TP rs R T [] .ret h):cW TP rs R T [.fn 284 [.ptr i 1 0 0,.ptr j 1 0 0]] .ret h:=by
 rw[l7];refine VR.mono λr u h' e=>?_;obtain⟨rfl,rfl,rfl⟩:=e;exact k
def zax(k:HrKind)(j e i):af TP 286 [k.pv,.ptr 1 [bG [j,e,i]] 0 0] (.bool (k.name==bs e)):=by
 refine ae (ag func286 rfl) rfl ?_;simp[bG,bf,go_sem]
def dn (t:HrTest):PV:=.agg [.int .i64 t.kind,.int .i64 t.error,match t.marks with|[]=>.nilslice|m::ms=>.slice 2 ((m::ms).map HrMark.pv) false]
def A5 (k e:Int) (ms:List HrMark):AObj:=match ms with|[]=>.row 3 [.p (.agg [.int .i64 k,.int .i64 e,.nilslice])]|m::r=>.row 3 [.agg [.p (.int .i64 k),.p (.int .i64 e),.slice 9 (m::r).length 0 (m::r).length]]
def gr (ms:List HrMark):Heap:=match ms with|[]=>[]|m::r=>[.row 2 ((m::r).map fI)]
def mr (s:HrShop) (ws:List (List UInt8)) (k e:Int) (d o:AObj) (x:List UInt8) (ms:List HrMark):Heap:=
 [.row 3 [.p s.pv],A5 k e ms,.row 1 [.p (.int .i64 0)],.row 1 [.p (bG ws)],.row 1 [.p (.str (bs x))],.row 1 [.p (.str (bs [10]))],.row 1 [.p (.int .i64 0)],d,o]++gr ms
def L9(s)(all):af TP 225 [s.pv,.str (bs all)] (.tuple [dn (aI s all).1,.int .i64 (aI s all).2]):=by
 refine bX (dv (by kernel_rfl) rfl ZW) rfl (zm ?_);refine aa (af.argless (args':=[s.pv,.nilslice]) (qR s [] false (by simp)) ⟨.inl rfl,.inr ⟨rfl,3,rfl⟩,trivial⟩) rfl (zm ?_);have b6:bO s []=(hrCheck s).2.2:=by
  unfold bO;split
  .rename_i h;rw[h];rfl
  .rfl
 cases h0:(bO s [] != 0)
 rotate_left
 .have I:¬bO s []=0:=by simpa using h0
  have q:aI s all=(cQ,bO s []):=by rw[aI,if_neg I]
  rw[q];simp[zB,aD,dn,cQ,go_sem]
 have I:bO s []=0:=by simpa using h0
 have a7:(hrCheck s).2.2=0:=by rw[<-b6,I]
 have c4:=gv a7;have b2:((bs all).size:Int)=(all.length:Int):=by rw[al]
 refine zn b2 ?_;cases h3:decide ((300:Int)<(all.length:Int));rotate_left
 .have a0:300<all.length:=by simp at h3;omega
  have q:aI s all=(cQ,3):=by rw[aI,if_pos I,if_pos a0]
  rw[q];simp[dn,cQ,I,go_sem]
 have a0:¬300<all.length:=by simp at h3;omega
 have q:aI s all=(match pU s all with|none=>(cQ,6)|some t=>if jH s all t=true then(t,0) else(cQ,6)):=by rw[aI,if_pos I,if_neg a0]
 rw[q];have a2:(⟨#[10]⟩:ByteArray)=bs [10]:=rfl;have a1:(⟨#[32]⟩:ByteArray)=bs [32]:=rfl;refine zo a2 I ?_;refine aa (vH all 10 (by omega)) rfl (zn a1 ?_);have b9:=si 10 all;refine aa (FT (aP 10 all).1 32 (by omega)) rfl ?_;have a3:aA 32 (aP 10 all).1=rA all:=rfl;rw[a3];simp only[bG,go_sem,simprocAttr];refine qY (λA=>?_) (λA=>?_);rotate_left
 .have b4:pU s all=none:=by
   unfold pU;split
   .grind
   .rfl
  rw[b4];refine zm ?_;refine uT rfl rfl (by decide) ?_;simp[oS,dn,cQ,go_sem]
 obtain⟨L,F,G,hw⟩:∃L F G,rA all=[L,F,G]:=by
  have c3:((rA all).length:Int)=3:=by simpa using A
  have hl:(rA all).length=3:=by omega
  match h:rA all,hl with
  |[a,b,c],_=>simp
 have b1:pU s all=(match kV G with|none=>none|some e=>(fq [] (aA 10 (wy all))).map λi=>⟨s5 s.kinds (bs F),e,i⟩):=by
  rw[pU,hw]
 rw[b1,hw];simp only[bf,bx,go_sem,simprocAttr];refine bq (ru (fv:=.func (.func 286) [] [.ptr 1 [bG [L,F,G]] 0 0]) s.kinds (λk=>k.name==bs F) false 4 rfl (by omega) λk _=>⟨_,_,_,rfl,zax k L F G⟩) ?_ (.int _ _) ?_
 .simp[bG,bf,bx,go_sem]
 have b8:an (λk=>k.name==bs F) s.kinds 0=s5 s.kinds (bs F):=rfl;rw[b8];have c2:G.length<=all.length:=fP (uj 32 (aP 10 all).1 G (by grind)) b9;refine zm ?_
 cases a5:kV G with
 |none=>
  refine cZ (qb (by omega) a5 _) (λv h M=>by cases M.1) (λv h M=>?_);obtain⟨M,rfl⟩:=M;cases M;refine zm ?_;refine uT rfl rfl (by decide) ?_
  simp[oS,dn,cQ,go_sem]
 |some e=>
  refine aa (vI (by omega) a5) rfl (zn a2 ?_);refine aa (KP ((aP 10 all).2.getD []) 10 (by have:=tQ 10 all;omega)) rfl ?_;have a4:rf 10 ((aP 10 all).2.getD [])=wy all:=rfl;rw[a4];have b3:(wy all).length<=300:=by
   have h1:=tQ 10 all;have h2:=OV 10 ((aP 10 all).2.getD []);rw[a4]at h2;omega
  generalize s5 s.kinds (bs F)=K;generalize wy all=rest at b3;refine zn a2 ?_;refine cw (Qd rest 10 _) (zm ?_);have a9:∀x i o,(mr s [L,F,G] K e .dblock o x i)[8]?=some o:=λx i o=>by cases i<;>rfl
  refine JQ (f:=371) (args:=[.ref .yl 8,.ptr 5 1 0 0,.ptr 4 1 0 0,.ptr 6 1 0 0])
   (R:=λr h=>(r=.ret (.p (.tuple []))/\∃x i o,fq [] (aA 10 rest)=some i/\h=mr s [L,F,G] K e .dblock o x i)\/∃v,r=.panic v/\v=jm/\fq [] (aA 10 rest)=none/\∃x i o,h=mr s [L,F,G] K e .dblock o x i)
   rfl (by simp[go_sem]) cH (by kernel_rfl) (by kernel_rfl) (by kernel_rfl) (λoR oB oD E=>?_) (λv h M=>?_)
  rotate_left
  .rcases M with⟨M,_⟩|⟨v',M,rfl,J,x,i,o,rfl⟩
   .cases M
   cases M;rw[J]
   cases i with
   |nil=>
    simp only[mr,A5,gr,cB,go_sem,simprocAttr];refine uT rfl rfl (by decide) ?_
    simp[oS,dn,cQ,go_sem]
   |cons m i=>
    simp only[mr,A5,gr,cB,go_sem,simprocAttr];refine uU rfl rfl (by decide) ?_;simp[oS,dn,cQ,go_sem]
  refine(X3 rest 10 (by omega) 8 4 5 6 _ (λd_ x h=>∃i,fq [] d_=some i/\h=mr s [L,F,G] K e .dblock oR x i) (λd_ x h=>∃i,fq [] d_=some i/\h=mr s [L,F,G] K e .dblock oR x i)
   (λv h=>v=jm/\fq [] (aA 10 rest)=none/\∃x i o,h=mr s [L,F,G] K e .dblock o x i) ?_ ?_ ?_ ?_ ?_).mono ?_
  .simp_all[fq,mr,Mk]
  .simp_all[fq,mr,Mk]
  .rintro d_ x h q ⟨i,z,rfl⟩
   have b5:(aP 10 x).1.length<=300:=by
    have:=uj 10 rest (aP 10 x).1 (by rw[q,cn,lW];simp);omega
   obtain⟨N,S⟩:∃N,aA 10 x=(aP 10 x).1::N:=⟨_,lW 10 x⟩
   rw[S]at q;generalize (aP 10 x).1=p at b5 S q;have j:fq [] (aA 10 rest)=(match eM p with|none=>none|some m=>fq (i++[m]) N):=by
    rw[q,sd,z,iv,fq]
   have O:∀m,eM p=some m->fq [] (d_++[p])=some (i++[m]):=λm hm=>by
    rw[sd,z,iv,fq,hm];rfl
   have c5:=si 32 p;have a8:=tQ 32 p;refine E _ _ _ rfl (a9 _ _ _) ?_;clear E;have a6:i.length<=301:=by
    have h1:=sA _ _ _ z;have h2:=pc 10 rest;have h3:=congrArg List.length q;simp at h1 h3;omega
   cases i with
   |nil=>
    have X:(1:Nat)<=ai:=by simp[ai]
    simp only[mr,A5,gr,a1,go_sem,simprocAttr];refine aa (vH p 32 (by omega)) rfl (zm ?_);refine qY (λA=>?_) (λA=>?_);rotate_left
    .have l:eM p=none:=by
      unfold eM
      cases hq:(aP 32 p).2 with
      |none=>rfl
      |some b=>grind
     rw[l]at j;refine zm ?_;exact⟨rfl,_,rfl,rfl,j,x,[],oB,rfl⟩
    obtain⟨b,D⟩:=iM.1 A;rw[D,gY]at a8 |-;simp only[zB,aD,go_sem,simprocAttr]
    cases u:kV (aP 32 p).1 with
    |none=>
     have l:eM p=none:=by simp only[eM,D,u]
     rw[l]at j;refine uF (qb (by omega) u _) λT=>?_;refine zm ?_
     exact⟨rfl,_,rfl,rfl,j,x,[],oB,rfl⟩
    |some a=>
     refine qZ (vI (by omega) u) rfl ?_;simp only[zB,go_sem,simprocAttr]
     cases C:kV b with
     |none=>
      have l:eM p=none:=by simp only[eM,D,u,C]
      rw[l]at j;refine uF (qb (by omega) C _) λT=>?_;refine zm ?_
      exact⟨rfl,_,rfl,rfl,j,x,[],oB,rfl⟩
     |some w=>
      have l:eM p=some ⟨a,w⟩:=by simp only[eM,D,u,C]
      have Y:=O _ l;refine qZ (vI (by omega) C) rfl ?_;simp only[zB,X,aK,go_sem,simprocAttr]
      exact⟨rfl,.inl ⟨_,Y,rfl⟩⟩
   |cons m0 i=>
    simp only[bc]at a6;have X:i.length+1+1<=ai:=by simp[ai];omega
    simp only[mr,A5,gr,a1,go_sem,simprocAttr];refine aa (vH p 32 (by omega)) rfl (zm ?_);refine qY (λA=>?_) (λA=>?_);rotate_left
    .have l:eM p=none:=by
      unfold eM
      cases hq:(aP 32 p).2 with
      |none=>rfl
      |some b=>grind
     rw[l]at j;refine zm ?_;exact⟨rfl,_,rfl,rfl,j,x,m0::i,oB,rfl⟩
    obtain⟨b,D⟩:=iM.1 A;rw[D,gY]at a8 |-;simp only[zB,aD,go_sem,simprocAttr]
    cases u:kV (aP 32 p).1 with
    |none=>
     have l:eM p=none:=by simp only[eM,D,u]
     rw[l]at j;refine uF (qb (by omega) u _) λT=>?_;refine zm ?_
     exact⟨rfl,_,rfl,rfl,j,x,m0::i,oB,rfl⟩
    |some a=>
     refine qZ (vI (by omega) u) rfl ?_;simp only[zB,go_sem,simprocAttr]
     cases C:kV b with
     |none=>
      have l:eM p=none:=by simp only[eM,D,u,C]
      rw[l]at j;refine uF (qb (by omega) C _) λT=>?_;refine zm ?_
      exact⟨rfl,_,rfl,rfl,j,x,m0::i,oB,rfl⟩
     |some w=>
      have l:eM p=some ⟨a,w⟩:=by simp only[eM,D,u,C]
      have Y:=O _ l;refine qZ (vI (by omega) C) rfl ?_;simp only[zB,X,aK,go_sem,simprocAttr];refine⟨rfl,.inl ⟨_,Y,?_⟩⟩;simp[mr,A5,gr,HrMark.pv,fI,HrShop.pv]
  .grind[fq,mr,aP,bs]
  .exact⟨[],rfl,rfl⟩
  .rintro r h (⟨rfl,x,hx,i,z,rfl⟩|⟨v,rfl,rfl,J,hh⟩)
   rotate_left
   .exact⟨.inr ⟨_,rfl,rfl,J,hh⟩,λv hv=>by cases hv⟩
   refine⟨.inl ⟨rfl,x,i,oR,z,rfl⟩,λv hv=>.inl ⟨a9 _ _ _,?_⟩⟩;rw[z];clear E;have a6:i.length<=301:=by
    have h1:=sA _ _ _ z;have h2:=pc 10 rest;simp at h1;omega
   have b7:i≠[]:=by
    rintro rfl
    have h1:=sA _ _ _ z;have h2:=lV 10 rest;simp at h1;omega
   cases i with
   |nil=>exact absurd rfl b7
   |cons m0 i=>
   have Z:∀n h,aE (bi n h) (i.map fI)=some (i.map HrMark.pv):=λn h=>aW (bH n h) HrMark.pv i;have U:List.take (i.length+1) (.agg [.int .i64 m0.minute,.int .i64 m0.weight]::List.map HrMark.pv i)=.agg [.int .i64 m0.minute,.int .i64 m0.weight]::List.map HrMark.pv i:=dt (by simp);simp only[mr,A5,gr,go_sem,simprocAttr];refine bq (F0 s ⟨K,e,m0::i⟩ (by omega)) ?_ (.int _ _) ?_
   .simp[Z,U,go_sem]
   refine zm ?_;cases V:(bm s.kinds.length ⟨K,e,m0::i⟩==0)
   .have hg:jH s all ⟨K,e,m0::i⟩=false:=by rw[jH,V];rfl
    refine zm ?_;refine qY (λA=>by cases A) (λ_=>?_);refine zn @cB ?_;refine uU rfl rfl (by decide) ?_;simp[oS,dn,cQ,hg,go_sem]
   have b0:bm s.kinds.length ⟨K,e,m0::i⟩=0:=by simpa using V
   refine zm ?_;refine bq (zau s ⟨K,e,m0::i⟩ a7 b0) ?_ (.str _) ?_
   .simp[Z,U,go_sem]
   refine zn @cF ?_;have hg:jH s all ⟨K,e,m0::i⟩=(gQ s ⟨K,e,m0::i⟩==all):=by rw[jH,V];rfl
   refine qY (λA=>?_) (λA=>?_)
   .rw[A]at hg;refine zn @cB ?_;refine Iq ?_;simp[Z,U,dn,hg,go_sem]
   .rw[A]at hg;refine zn @cB ?_;refine uU rfl rfl (by decide) ?_;simp[oS,dn,cQ,hg,go_sem]
def lv (l:List UInt8):Int:=if aq (l.length:Int) 1 8=true then(match Lib.decFrom 0 l with|some n=>(n:Int)|none=>-1) else -1
def Di(l:List UInt8):af TP 261 [.str (bs l)] (.int .i64 (lv l)):=by
 refine ae (ag func261 rfl) rfl ?_;have j:((bs l).size:Int)=(l.length:Int):=by rw[al]
 refine zn j ?_;refine aa (vb _ _ _) rfl (zm ?_);cases C:aq (l.length:Int) 1 8
 .simp[lv,C,go_sem]
 have T:l.length<=8:=by simp[aq]at C;omega
 refine zm ?_
 refine mR [0] (σ:=List UInt8×List UInt8×Nat) (λq=>l=q.1++q.2.1/\Lib.decFrom 0 l=Lib.decFrom q.2.2 q.2.1/\q.2.2<10^q.1.length) (λq=>q.2.1.length)
  (λq=>[(3,.p (.int .i64 q.2.2)),(4,.p (.int .i64 q.1.length))]) ([],l,0) ⟨rfl,rfl,by simp⟩ ?_ ?_
 .simp[go_sem]
 rintro⟨d_,rest,e⟩ ⟨y,v,N⟩
 dsimp only at y v N
 cases rest with
 |nil=>
  have i:¬((d_.length:Int)<(l.length:Int)):=by rw[y];simp
  have D:Lib.decFrom 0 l=some e:=by rw[v];rfl
  simp[j,i,decide_false,lv,C,D,go_sem]
 |cons b r=>
  obtain⟨hx,i⟩:=ca y;have A:=congrArg List.length y;simp only[ak,bc]at A;have z:(bs l)[d_.length]?=some b:=by rw[tU];exact hx
  have G:i64.wrap ((d_.length:Int)+1)=(((d_++[b]).length:Nat):Int):=aO (by omega) (by simp[ai];omega) (by simp);have U:b.toNat<256:=b.toNat_lt;have I:i64.wrap ((b.toNat:Nat):Int)=((b.toNat:Nat):Int):=ah;have u:decide ((d_.length:Int)<(l.length:Int))=true:=by simpa using i
  refine t_ j i u z I ?_;refine aa (vb _ _ _) rfl (zm ?_);rw[Lib.decFrom]at v;cases F:aq ((b.toNat:Nat):Int) 48 57
  .have E:Lib.digitVal b=none:=by
    rw[Lib.digitVal,if_neg];intro h;simp[aq]at F;omega
   have D:Lib.decFrom 0 l=none:=by rw[v,E]
   simp[lv,C,D,go_sem]
  .have E:Lib.digitVal b=some (b.toNat-48):=by
    rw[Lib.digitVal,if_pos];simp[aq]at F;omega
   rw[E]at v;have R:48<=b.toNat/\b.toNat<=57:=by simp[aq]at F;omega
   have S:10^d_.length<=10^7:=mX (by omega) (by omega);have O:(10:Nat)^7=10000000:=rfl;have M:i64.wrap (10*(e:Int))=10*(e:Int):=ah;have L:IntKind.u8.wrap (((b.toNat:Nat):Int)-48)=((b.toNat-48:Nat):Int):=by
    simp[IntKind.wrap,IntKind.signed,IntKind.bits];omega
   have K:i64.wrap (((b.toNat-48:Nat):Int))=((b.toNat-48:Nat):Int):=ah;have J:i64.wrap (10*(e:Int)+((b.toNat-48:Nat):Int))=((e*10+(b.toNat-48):Nat):Int):=by
    rw[ah];simp;omega
   simp only[j,i,u,z,M,L,K,J,go_sem,simprocAttr];refine aF (d_++[b],r,e*10+(b.toNat-48)) ⟨by rw[y];simp,v,?_⟩ (dc _) ?_
   .grind
   simp[G,go_sem]
def C9 (a b:HrTest):Bool:=(a.kind==b.kind)&&(a.error==b.error)&&decide (a.marks=b.marks)
def VJ(a b):C9 a b=true↔a=b:=by
 cases a;cases b;grind[C9]
def Vn(x y:HrMark):((x.minute==y.minute)&&(x.weight==y.weight))=decide (x=y):=by
 cases x;cases y;rw[km];simp
def YQ(a b)(T:a.marks.length<1000000000):af TP 33 [a.pv,b.pv] (.bool (C9 a b)):=by
 refine ae (ag func33 rfl) rfl (zm ?_);cases O:(a.kind != b.kind)
 rotate_left
 .have e:(a.kind==b.kind)=false:=by simpa[bne]using O
  simp[C9,e,go_sem]
 have e:(a.kind==b.kind)=true:=by simpa[bne]using O
 refine zm ?_;cases N:(a.error != b.error)
 rotate_left
 .have i:(a.error==b.error)=false:=by simpa[bne]using N
  simp[C9,e,i,go_sem]
 have i:(a.error==b.error)=true:=by simpa[bne]using N
 refine zm ?_;cases J:((a.marks.length:Int) != (b.marks.length:Int))
 rotate_left
 .have E:¬a.marks=b.marks:=by
   intro h;rw[h]at J;simp at J
  simp[C9,e,i,E,decide_false,go_sem]
 have E:a.marks.length=b.marks.length:=by
  have:((a.marks.length:Int))=(b.marks.length:Int):=by simpa using J
  omega
 have K:C9 a b=decide (a.marks=b.marks):=by rw[C9,e,i];rfl
 rw[K];refine zm ?_
 refine dl [2,3] (σ:=List HrMark×List HrMark×List HrMark) (λq=>a.marks=q.1++q.2.1/\b.marks=q.1++q.2.2) (λq=>q.2.1.length)
  (λq=>[(5,.p (.int .i64 q.1.length))]) (λ_=>[.row 3 [.p a.pv],.row 3 [.p b.pv]]) ([],a.marks,b.marks) ⟨rfl,rfl⟩ ?_ ?_
 .simp[go_sem]
 rintro⟨d_,G,A⟩ ⟨l,j⟩
 dsimp only at l j;have v:=congrArg List.length l;have D:=congrArg List.length j;simp only[ak]at v D
 cases G with
 |nil=>
  have C:A=[]:=by
   have:A.length=0:=by simp at v;omega
   exact pJ.1 this
  have u:¬((d_.length:Int)<(a.marks.length:Int)):=by rw[l];simp
  have I:a.marks=b.marks:=by rw[l,j,C]
  have R:¬((d_.length:Int)<(b.marks.length:Int)):=by rw[j,C];simp
  rw[show decide (a.marks=b.marks)=true by simpa using I]
  simp[u,decide_false,go_sem]
 |cons x G=>
  cases A with
  |nil=>simp at v D;omega
  |cons y A=>
   obtain⟨hx,u⟩:=ca l;obtain⟨S,F⟩:=ca j;have L:i64.wrap ((d_.length:Int)+1)=(((d_++[x]).length:Nat):Int):=aO (by omega) (by simp[ai];omega) (by simp);simp only[u,decide_true,hx,S,F,Vn,go_sem,simprocAttr];cases M:decide (x=y)
   .have z:¬x=y:=by simpa using M
    have I:¬a.marks=b.marks:=by
     rw[l,j];intro h;have:=List.append_cancel_left h;exact z (Hb this).1
    rw[show decide (a.marks=b.marks)=false by simpa using I];simp[go_sem]
   .have z:x=y:=by simpa using M
    subst z;refine zm ?_;refine aF (d_++[x],G,A) ⟨by rw[l];simp,by rw[j];simp⟩ (dc _) ?_;simp[L,go_sem]
def af.arglessD{P}{f}{args args'}{v}(z:af P f args v)(h:vT args' args):af P f args' v:=by
 intro M0 w e A y l;obtain⟨u,C⟩:=h.get;refine z M0 w e A y ⟨by rw[l.1,u],λi c hi=>?_⟩;obtain⟨q,j⟩:∃q,args'[i]?=some q:=⟨_,bL (by grind)⟩
 exact(C i q c j hi).rep (l.2 i q j)
def Lw(k e):PL (.agg [.int .i64 k,.int .i64 e,.nilslice]) (HrTest.pv ⟨k,e,[]⟩):=.aggL rfl ⟨.refl _,.refl _,.nil 2,trivial⟩
def jQ (nm:ByteArray):List HrKind->Nat->Int->Int
 |[],_,acc=>acc
 |k::r,i,acc=>jQ nm r (i+1) (if k.name==nm then(i:Int) else acc)
def jA (s:HrShop) (first:Bool) (t:HrTest) (p:List UInt8):HrTest:=
 match first,aA 32 p with
 |true,[_,w1,w2]=>⟨jQ (bs w1) s.kinds 0 t.kind,lv w2,t.marks⟩
 |false,[w0,w1]=>⟨t.kind,t.error,t.marks++[⟨lv w0,lv w1⟩]⟩
 |_,_=>t
def oQ (s:HrShop):Bool->HrTest->List (List UInt8)->HrTest
 |_,t,[]=>t
 |_,t,[_]=>t
 |f,t,p::q::r=>oQ s false (jA s f t p) (q::r)
def ox (s:HrShop) (all:List UInt8):HrTest:=oQ s true ⟨-1,0,[]⟩ (aA 10 all)
def kp (s:HrShop) (all:List UInt8):HrTest×Int:=
 if(hrCheck s).2.2=0 then
  if 300<all.length then(cQ,3) else if jH s all (ox s all)=true then(ox s all,0) else(cQ,6)
 else(cQ,(hrCheck s).2.2)
def kg (t:HrTest):AObj:=match t.marks with|[]=>.row 3 [.p (.agg [.int .i64 t.kind,.int .i64 t.error,.nilslice])]|m::r=>.row 3 [.agg [.p (.int .i64 t.kind),.p (.int .i64 t.error),.slice 3 (m::r).length 0 (m::r).length]]
def jD (s:HrShop) (t:HrTest):Heap:=[.row 3 [.p s.pv],.row 3 [.p (.agg [.int .i64 0,.int .i64 0,.nilslice])],kg t]++gr t.marks
def QL(s:HrShop)(all:List UInt8):af TP 196 [s.pv,.str (bs all)] (.tuple [dn (kp s all).1,.int .i64 (kp s all).2]):=by
 refine bX (ag func196 rfl) rfl (zm ?_);refine aa (rq s) rfl ?_;simp only[ao,go_sem,simprocAttr];cases h0:((hrCheck s).2.2==0)
 .have z:¬(hrCheck s).2.2=0:=by simpa using h0
  have E:kp s all=(cQ,(hrCheck s).2.2):=by rw[kp,if_neg z]
  have b3:((hrCheck s).2.2 != 0)=true:=by simpa using z
  rw[E];simp[b3,dn,cQ,go_sem]
 have z:(hrCheck s).2.2=0:=by simpa using h0
 have b5:=gv z;have a8:((bs all).size:Int)=(all.length:Int):=by rw[al]
 refine zn a8 ?_;cases h3:decide ((300:Int)<(all.length:Int));rotate_left
 .have Z:300<all.length:=by simp at h3;omega
  have E:kp s all=(cQ,3):=by rw[kp,if_pos z,if_pos Z]
  rw[E];simp[dn,cQ,go_sem]
 have Z:¬300<all.length:=by simp at h3;omega
 have E:kp s all=if jH s all (ox s all)=true then(ox s all,0) else(cQ,6):=by rw[kp,if_pos z,if_neg Z]
 rw[E];have b8:PV.int .u8 10=.int .u8 ((10:UInt8).toNat:Int):=rfl;have b7:PV.int .u8 32=.int .u8 ((32:UInt8).toNat:Int):=rfl;refine zn z ?_;refine aa (pB all 10 (by omega)) rfl ?_;have a9:=pc 10 all;have T:=lV 10 all;have O:=uj 10 all;have M:ox s all=oQ s true ⟨-1,0,[]⟩ (aA 10 all):=rfl;generalize aA 10 all=v at a9 T O M;simp only[bG,go_sem,simprocAttr]
 refine dY [1,2,4,9,10] (σ:=List (List UInt8)×List (List UInt8)×HrTest)
  (λq=>v=q.1++q.2.1/\q.2.1≠[]/\ox s all=oQ s (q.1.length==0) q.2.2 q.2.1/\q.2.2.marks.length<=q.1.length) (λq=>q.2.1.length)
  (λq=>[(11,.p (.int .i64 q.1.length))]) (λq=>jD s q.2.2) ([],v,⟨-1,0,[]⟩) ⟨rfl,by grind,M,ba _⟩ (by simp[jD,kg,gr,go_sem]) ?_ ?_
 .simp[go_sem]
 rintro⟨d_,rest,t⟩ ⟨e1,e2,e3,e4⟩
 dsimp only at e1 e2 e3 e4;have X:=congrArg List.length e1;simp only[ak]at X;have i:∀(p:List UInt8),i64.wrap ((d_.length:Int)+1)=(((d_++[p]).length:Nat):Int):=λp=>aO (by omega) (by simp[ai];omega) (by simp)
 match rest,e2 with
 |[F],_=>
  have N:decide ((((d_++[F]).length:Nat):Int)<(v.length:Int))=false:=by simp at X |-;omega
  rw[oQ]at e3;rw[e3];obtain⟨e,j,l⟩:=t
  cases l with
  |nil=>
   simp only[i F,N,jD,kg,gr,go_sem,simprocAttr];refine aa ((sQ s ⟨e,j,[]⟩ (by omega)).arglessD (args':=[s.pv,.agg [.int .i64 e,.int .i64 j,.nilslice]]) ⟨.refl _,Lw e j,trivial⟩) rfl (zm ?_);have D:(bm s.kinds.length ⟨e,j,[]⟩ != 0)=true:=by
    simp only[bm];split<;>simp[aq]
   have K:jH s all ⟨e,j,[]⟩=false:=by
    rw[jH,show (bm s.kinds.length ⟨e,j,[]⟩==0)=false by grind];rfl
   simp[D,K,dn,cQ,go_sem]
  |cons m0 l=>
   have Y:∀n h,aE (bi n h) (l.map fI)=some (l.map HrMark.pv):=λn h=>aW (bH n h) HrMark.pv l;have S:List.take (l.length+1) (.agg [.int .i64 m0.minute,.int .i64 m0.weight]::List.map HrMark.pv l)=.agg [.int .i64 m0.minute,.int .i64 m0.weight]::List.map HrMark.pv l:=dt (by simp);simp only[i F,N,jD,kg,gr,go_sem,simprocAttr];refine bq (sQ s ⟨e,j,m0::l⟩ (by omega)) ?_ (.int _ _) ?_
   .simp[Y,S,go_sem]
   refine zm ?_;cases D:(bm s.kinds.length ⟨e,j,m0::l⟩ != 0)
   rotate_left
   .have K:jH s all ⟨e,j,m0::l⟩=false:=by
     rw[jH,show (bm s.kinds.length ⟨e,j,m0::l⟩==0)=false by grind];rfl
    simp[K,dn,cQ,go_sem]
   have a6:bm s.kinds.length ⟨e,j,m0::l⟩=0:=by simpa using D
   refine zm ?_;refine bq (S7 s ⟨e,j,m0::l⟩ z a6) ?_ (.str _) ?_
   .simp[Y,S,go_sem]
   refine zn @cF ?_;have K:jH s all ⟨e,j,m0::l⟩=(gQ s ⟨e,j,m0::l⟩==all):=by
    rw[jH,show (bm s.kinds.length ⟨e,j,m0::l⟩==0)=true by grind];rfl
   cases a1:(gQ s ⟨e,j,m0::l⟩==all)
   .rw[a1]at K;simp[K,dn,cQ,go_sem]
   .rw[a1]at K
    simp[K,dn,Y,S,go_sem]
 |p::q::r,_=>
  obtain⟨hx,V⟩:=ca e1;simp only[bc]at X;have I:decide ((((d_++[p]).length:Nat):Int)<(v.length:Int))=true:=by simp;omega
  have b4:=O p (by rw[e1];simp);have a0:v=(d_++[p])++(q::r):=by rw[e1];simp
  have b2:((d_++[p]).length==0)=false:=by simp
  rw[show oQ s (d_.length==0) t (p::q::r)=oQ s false (jA s (d_.length==0) t p) (q::r) from rfl,<-b2]at e3;have keep:∀t',jA s (d_.length==0) t p=t'->t'.marks.length<=d_.length+1->v=(d_++[p])++(q::r)/\q::r≠[]/\ox s all=oQ s ((d_++[p]).length==0) t' (q::r)/\t'.marks.length<=(d_++[p]).length:=λt' h1 h2=>
   ⟨a0,by simp,by rw[e3,h1],by grind⟩
  obtain⟨e,j,l⟩:=t;dsimp only at e4;by_cases hz:d_.length=0
  .have b0:l=[]:=pJ.1 (by omega);subst b0;have R:((d_.length:Int)==0)=true:=by simp[hz]
   have J:decide ((0:Int)<(d_.length:Int))=false:=by simp[hz]
   have z3:(d_.length==0)=true:=by simp[hz]
   rw[z3]at keep;simp only[i p,I,jD,kg,gr,hx,V,go_sem,simprocAttr];refine aa (pB p 32 (by omega)) rfl ?_;cases C:(((aA 32 p).length:Int)==3)
   .have u:jA s true ⟨e,j,[]⟩ p=⟨e,j,[]⟩:=by
     unfold jA;split
     .grind
     .grind
     .rfl
    simp only[bG,R,J,C,go_sem,simprocAttr];refine aZ (d_++[p],q::r,⟨e,j,[]⟩) (keep _ u (by simp)) (by simp) (by simp only[jD,kg,gr,go_sem,simprocAttr]) ?_;simp[i p,go_sem]
   .obtain⟨A,y,w2,hw⟩:∃A y w2,aA 32 p=[A,y,w2]:=by
     have a3:((aA 32 p).length:Int)=3:=by simpa using C
     have hl:(aA 32 p).length=3:=by omega
     match h:aA 32 p,hl with
     |[a,b,c],_=>simp
    have u:jA s true ⟨e,j,[]⟩ p=⟨jQ (bs y) s.kinds 0 e,lv w2,[]⟩:=by simp only[jA,hw]
    simp only[bG,R,J,hw,bf,bx,go_sem,simprocAttr];refine aa (Di w2) rfl (zm ?_)
    refine dY [1,2,4,9,10,11,12] (σ:=List HrKind×List HrKind×Int)
     (λq=>s.kinds=q.1++q.2.1/\jQ (bs y) s.kinds 0 e=jQ (bs y) q.2.1 q.1.length q.2.2) (λq=>q.2.1.length)
     (λq=>[(13,.p (.int .i64 q.1.length))]) (λq=>jD s ⟨q.2.2,lv w2,[]⟩) ([],s.kinds,e) ⟨rfl,rfl⟩ (by simp[jD,kg,gr,go_sem]) ?_ ?_
    .simp[go_sem]
    rintro⟨dk,rk,a5⟩ ⟨f1,L⟩
    dsimp only at f1 L
    cases rk with
    |nil=>
     have G:¬((dk.length:Int)<(s.kinds.length:Int)):=by rw[f1];simp
     rw[jQ]at L;rw[L]at u;simp only[G,decide_false,jD,kg,gr,J,go_sem,simprocAttr];refine aZ (d_++[p],q::r,⟨a5,lv w2,[]⟩) (keep _ u (by simp)) (by simp) (by simp only[jD,kg,gr,go_sem,simprocAttr]) ?_
     simp[i p,go_sem]
    |cons k rk=>
     obtain⟨a7,G⟩:=ca f1;have b1:=congrArg List.length f1;simp only[ak,bc]at b1;have a2:i64.wrap ((dk.length:Int)+1)=(((dk++[k]).length:Nat):Int):=aO (by omega) (by simp[ai];omega) (by simp);have a4:(dk++[k]).length=dk.length+1:=by simp
     rw[jQ]at L;simp only[G,decide_true,jD,kg,gr,a7,go_sem,simprocAttr];cases hk:(k.name==bs y)
     .rw[hk]at L;refine zm ?_;refine aZ (dk++[k],rk,a5) ⟨by rw[f1];simp,by rw[L,a4];rfl⟩ (dc _) (by simp[jD,kg,gr,go_sem]) ?_;simp[a2,go_sem]
     .rw[hk]at L;refine zm ?_;refine aZ (dk++[k],rk,(dk.length:Int)) ⟨by rw[f1];simp,by rw[L,a4];rfl⟩ (dc _) (by simp[jD,kg,gr,go_sem]) ?_;simp[a2,go_sem]
  .have R:((d_.length:Int)==0)=false:=by rw[beq_eq_false_iff_ne];omega
   have J:decide ((0:Int)<(d_.length:Int))=true:=by rw[decide_eq_true_eq];omega
   have z3:(d_.length==0)=false:=by rw[beq_eq_false_iff_ne];omega
   rw[z3]at keep;have b6:d_.length<=301:=by omega
   cases l with
   |nil=>
    have U:(1:Nat)<=ai:=by simp[ai]
    simp only[i p,I,jD,kg,gr,hx,V,go_sem,simprocAttr];refine aa (pB p 32 (by omega)) rfl ?_;cases C:(((aA 32 p).length:Int)==2)
    .have u:jA s false ⟨e,j,[]⟩ p=⟨e,j,[]⟩:=by
      unfold jA;split
      .grind
      .grind
      .rfl
     simp only[bG,R,J,C,go_sem,simprocAttr];refine aZ (d_++[p],q::r,⟨e,j,[]⟩) (keep _ u (by simp)) (by simp) (by simp only[jD,kg,gr,go_sem,simprocAttr]) ?_;simp[i p,go_sem]
    .obtain⟨A,y,hw⟩:∃A y,aA 32 p=[A,y]:=by
      have a3:((aA 32 p).length:Int)=2:=by simpa using C
      have hl:(aA 32 p).length=2:=by omega
      match h:aA 32 p,hl with
      |[a,b],_=>simp
     have u:jA s false ⟨e,j,[]⟩ p=⟨e,j,[]++[⟨lv A,lv y⟩]⟩:=by simp only[jA,hw]
     simp only[bG,R,J,hw,bf,bx,go_sem,simprocAttr];refine aj (Di A) rfl (zm ?_);refine aj (Di y) rfl (zn U ?_);refine aZ (d_++[p],q::r,⟨e,j,[]++[⟨lv A,lv y⟩]⟩) (keep _ u (by simp)) (by simp) (by simp only[jD,kg,gr,go_sem,simprocAttr]) ?_
     simp[i p,go_sem]
   |cons m0 l=>
    simp only[bc]at e4;have U:l.length+1+1<=ai:=by simp[ai];omega
    simp only[i p,I,jD,kg,gr,hx,V,go_sem,simprocAttr];refine aa (pB p 32 (by omega)) rfl ?_;cases C:(((aA 32 p).length:Int)==2)
    .have u:jA s false ⟨e,j,m0::l⟩ p=⟨e,j,m0::l⟩:=by
      unfold jA;split
      .grind
      .grind
      .rfl
     simp only[bG,R,J,C,go_sem,simprocAttr];refine aZ (d_++[p],q::r,⟨e,j,m0::l⟩) (keep _ u (by simp;omega)) (by simp) (by simp[jD,kg,gr,go_sem]) ?_;simp[i p,go_sem]
    .obtain⟨A,y,hw⟩:∃A y,aA 32 p=[A,y]:=by
      have a3:((aA 32 p).length:Int)=2:=by simpa using C
      have hl:(aA 32 p).length=2:=by omega
      match h:aA 32 p,hl with
      |[a,b],_=>simp
     have u:jA s false ⟨e,j,m0::l⟩ p=⟨e,j,m0::(l++[⟨lv A,lv y⟩])⟩:=by simp only[jA,hw,ga]
     simp only[bG,R,J,hw,bf,bx,go_sem,simprocAttr];refine aj (Di A) rfl (zm ?_);refine aj (Di y) rfl (zn U ?_);refine aZ (d_++[p],q::r,⟨e,j,m0::(l++[⟨lv A,lv y⟩])⟩) (keep _ u (by simp;omega)) (by simp) (by simp[jD,kg,gr,aS,ak,go_sem]) ?_;simp[i p,go_sem]
end Abs
end Go.Proofs.YtgafommgcfhkkaaGreatDoor
