/- LAWS: operations of the abstract machine and the model's: append, make. -/
import Derived.Test.YtmndpldajflenaaGreatDoorAbsOpsC
import Derived.Lib.AppendStr
set_option linter.all false
namespace Go.Proofs.YtmndpldajflenaaGreatDoor
namespace Abs
variable {P:Program} {M0:Nat->Prop} {S:Mem}
theorem yb(need):∀(r c),c<=2*need+512->Builtin.growBy need r c<=2*need+512
 |0,c,h=>h
 |r+1,c,h=>by
  unfold Builtin.growBy;split
  .exact h
  .rename_i h';exact yb need r _ (by omega)
theorem vg(need old)(h:old<=need):Builtin.nextslicecap need old<=2*need+512:=by
 unfold Builtin.nextslicecap;split
 .omega
 .split
  .omega
  .exact yb need 4 old (by omega)
theorem Ir{need old bytes}(h:old<=need)(hn:need<=ai)(hb:bytes<=256):¬Builtin.nextslicecap need old*bytes > 2^48:=by
 have h1:=vg need old h;have h2:Builtin.nextslicecap need old*bytes<=(2*ai+512)*256:=Nat.mul_le_mul (by omega) hb;have h3:(2*ai+512)*256<=2^48:=by decide
 omega
theorem jK(hS:HOk P M0 S){sz}{y}{v}{ys}(hy:Rep M0 S v y)(h:eY S.h sz y=some ys) :
  ∃D,(Builtin.lenOf v).run P S.w=.ok ys.length S.w/\(∀w,w.heap=S.w.heap->(Builtin.firstCells sz ys.length v).run P w=.ok D w)/\D.size=ys.length*sz/\cA M0 S sz D ys:=by
 unfold eY at h;split at h
 .cases h;have h':RepP (Avoid M0 S.m) S.w v .nilslice:=hy;cases h';exact⟨#[],rfl,λw _=>rfl,by simp,λi x hx=>by simp at hx⟩
 .rename_i sz' xs full;split at h
  .rename_i hsz;subst hsz;cases h;have h':RepP (Avoid M0 S.m) S.w v (.slice sz' xs full):=hy
   cases h' with
   |slice f hlen hcap hfull hs hM hcell hr=>
    rename_i b off len cap;subst hlen;refine⟨((List.range (xs.length*sz')).map f).toArray,by simp[Builtin.lenOf],λw hw=>?_,by simp,λi x hx=>?_⟩
    .have:=run_loadCells (P:=P) w ⟨b,off,none⟩ (xs.length*sz') f (λj hj=>by
      rw[dg,<-hcell j hj];simp only[World.cell?,hw])
     simpa[Builtin.firstCells]using this
    .simp only[bU,bx]at hx;obtain⟨q,hq,rfl⟩:=hx;have hsq:=hs q (aV hq);refine⟨_,un hsq,by simpa using hsq.1,λj c hc=>?_⟩;simp only[bU,bx]at hc;obtain⟨d,hd,rfl⟩:=hc;have hjl:=(aA.1 hd).1;rw[fH _ _ _ (fS (aA.1 hq).1 (by omega))]
     exact⟨hsq.2 d (aV hd),hr i j q d hq hd⟩
   |@empty a cap _ _ hf=>
    refine⟨#[],rfl,λw _=>?_,by simp,λi x hx=>by simp at hx⟩;simp only[zi,gz]
    cases a with
    |none=>rfl
    |some a=>simp[Builtin.firstCells,loadCells,loadCellsFrom]
  .cases h
 .rename_i s;split at h
  .rename_i hsz;subst hsz;cases h;have h':RepP (Avoid M0 S.m) S.w v (.str s):=hy;cases h';refine⟨(Lib.strCells s).toArray,by simp[Builtin.lenOf],λw _=>?_,by simp[Lib.strCells_length],λi x hx=>?_⟩
   .have:=Lib.run_firstCells_string (P:=P) (w:=w) 1 s;simpa using this
   .simp only[bU,bx]at hx;obtain⟨b,hb,rfl⟩:=hx;refine⟨[.p (.int .u8 b.toNat)],rfl,rfl,λj c hj=>?_⟩
    cases j with
    |zero=>
     cases hj;refine⟨rfl,?_⟩;have:(Lib.strCells s).toArray.getD (i*1+0) undef=.int .u8 b.toNat:=by
      simp[Lib.strCells,gG,hb]
     rw[this]
     exact .int _ _
    |succ j=>cases hj
  .cases h
 .rename_i id ver off len;split at h
  .rename_i sz' xs hid;split at h
   .rename_i hc;obtain⟨rfl,hv,hle⟩:=hc;cases h;have hsl:=uS off len xs hle;rcases bK hy.2 hid hv with⟨rfl,hv0,hoff,ad,cap,rfl⟩|⟨b,cap,T',n,hm,rfl,hcap,hsh,hroom,hreach⟩|⟨hmn,rfl,rfl⟩
    .refine⟨#[],by rw[hsl];rfl,λw _=>?_,by simp[hsl],λi x hx=>by simp[sub]at hx⟩;rw[hsl]
     cases ad with
     |none=>rfl
     |some a=>simp[Builtin.firstCells,loadCells,loadCellsFrom]
    .obtain⟨C,T,hb,hsize,hel⟩:=dU hS hid hm;have hmul:(off+len)*sz'<=C.size:=iZ (eO sz' hle) hsize;rw[cG]at hmul;refine⟨((List.range (len*sz')).map λk=>C.getD (off*sz'+k) undef).toArray,by rw[hsl];rfl,λw hw=>?_,by simp[hsl],λi x hx=>?_⟩
     .have:=run_loadCells (P:=P) w ⟨b,off*sz',none⟩ (len*sz') (λk=>C.getD (off*sz'+k) undef) (λj hj=>by
       rw[dg]
       exact gU (by rw[hw];exact hb) _ (by omega))
      simpa[Builtin.firstCells,hsl]using this
     .have hil:=(aA.1 hx).1;rw[hsl]at hil;have hx':xs[off+i]?=some x:=by
       unfold sub at hx;rw[kh,if_pos hil,nn]at hx;exact hx
      obtain⟨cs,h1,h2,h3⟩:=hel _ x hx';refine⟨cs,h1,h2,λj c hc=>?_⟩;have hjl:=(aA.1 hc).1;rw[fH _ _ _ (fS hil (by omega))];have:=h3 j c hc;rwa [cG,fX]at this
    .have hsl0:(sub off 0 xs).length=0:=hsl;exact⟨#[],by rw[hsl0];rfl,λw _=>by rw[hsl0];rfl,by simp[hsl0],λi x hx=>by simp[sub]at hx⟩
   .cases h
  .cases h
 .cases h
theorem sD{sz n1 n2}{O D R}{xs ys}(hO:O.size=n1*sz)(hD:D.size=n2*sz)(h1:xs.length=n1)(h2:ys.length=n2)
  (hx:cA M0 S sz O xs) (hy:cA M0 S sz D ys):cA M0 S sz (O++D++R) (xs++ys):=by
 intro i x hi;have hget:∀k,k<O.size->(O++D++R).getD k undef=O.getD k undef:=by
  intro k hk;simp[gG,IY,hk]
 have hget2:∀k,k<D.size->(O++D++R).getD (O.size+k) undef=D.getD k undef:=by
  intro k hk;simp[gG,IY,hk,show ¬(O.size+k<O.size) by omega]
 rcases aw i xs.length with h|h
 .rw[br h]at hi;obtain⟨cs,a1,a2,a3⟩:=hx i x hi;refine⟨cs,a1,a2,λj c hc=>?_⟩;have hjl:=(aA.1 hc).1;rw[hget _ (by rw[hO];exact fS (by omega) (by omega))];exact a3 j c hc
 .rw[ca h]at hi;obtain⟨cs,a1,a2,a3⟩:=hy _ x hi;refine⟨cs,a1,a2,λj c hc=>?_⟩;have hjl:=(aA.1 hc).1;have hil:=(aA.1 hi).1;have e:i*sz+j=O.size+((i-xs.length)*sz+j):=by
   rw[hO,<-h1,<-fX,<-cG,show xs.length+(i-xs.length)=i by omega]
  rw[e,hget2 _ (by rw[hD];exact fS (by omega) (by omega))];exact a3 j c hc
theorem i7{T U e}{ty}{sz bytes}{base}{len cap n}{y}{O D}(hT:P.underlying T=some (.slice e))(hU:(∃f,P.underlying U=some (.slice f))\/P.underlying U=some .string)
  (hsz:bj P e=some sz) (hby:iP P e=some bytes) (hb:bytes<=256) (hz:fJ P e sz=true) (hn:len+n<=ai) (hlt:cap<len+n) (w)
  (hlen:(Builtin.lenOf y).run P w=.ok n w) (hO:(Builtin.firstCells sz len (.slice base len cap)).run P w.drew=.ok O w.drew) (hD:(Builtin.firstCells sz n y).run P w.drew=.ok D w.drew) :
  ∃(newCap:Nat) (R:Array Value),len+n<=newCap/\R.size=(newCap-(len+n))*sz /\
   (Builtin.append_ #[T,U] ty #[.slice base len cap,y]).run P w=.ok (.slice (some ⟨w.heap.size,0,none⟩) (len+n) newCap) (w.drew.alloc (.cells (O++D++R) e)):=by
 obtain⟨i,hi,hib⟩:=qy hby w;obtain⟨z,hzr,hzs⟩:=sC hz w.drew;have hi2:(typeInfo e).run P w.drew=.ok i w.drew:=by
  obtain⟨i',hi',_⟩:=qy hby w.drew;have:∃j,P.info? e=some j:=by
   unfold iP at hby
   cases hq:P.info? e with
   |none=>simp[hq]at hby
   |some j=>exact⟨j,rfl⟩
  obtain⟨j,hj⟩:=this;simp[typeInfo,hj]at hi |-;exact hi
 refine⟨(Question.appendCap (len+n) cap e).cut (w.tape w.drawn (.appendCap (len+n) cap e)),Builtin.zeroCells z.cells ((Question.appendCap (len+n) cap e).cut (w.tape w.drawn (.appendCap (len+n) cap e))-(len+n)),?_,?_,?_⟩
 .simp[Question.cut]
 .simp[Builtin.zeroCells,hzs]
 .have hmax:¬(((len+n:Nat):Int) > IntKind.i64.max):=by
   have:IntKind.i64.max=9223372036854775807:=by decide
   rw[this];unfold ai at hn;omega
  have hfit:=Ir (old:=cap) (bytes:=bytes) (Nat.le_of_lt hlt) hn hb;rcases hU with⟨_,hU⟩|hU
  all_goals
   unfold Builtin.append_;simp only[zq,zw,wB,Sem.run_bind,run_underlying hT,run_underlying hU,aU hsz,aG,Sem.run_pure];simp only[gZ,if_false,Sem.run_bind,hlen,aG];rw[if_neg (by omega)];simp only[hi,aG,Sem.run_bind];rw[if_neg (by intro h;exact hmax h.1)];simp only[Sem.run_bind,hi,aG,hib];rw[if_neg hfit];simp only[Sem.run_bind,run_choose,Question.forced,gZ,if_false,aG,World.drew_eq,hi2,run_askRoom,hO];simp[newRow,hD,hzr]
theorem kV{T U e}{ty}{sz}{b len cap n}{y}{C D}{T'}(hT:P.underlying T=some (.slice e))(hU:(∃f,P.underlying U=some (.slice f))\/P.underlying U=some .string)
  (hsz:bj P e=some sz) (hle:len+n<=cap) (w) (hlen:(Builtin.lenOf y).run P w=.ok n w) (hD:(Builtin.firstCells sz n y).run P w=.ok D w)
  (hb:w.heap[b]?=some (.cells C T' (0,0))) (hfit:len*sz+D.size<=C.size) (hone:∀v∈D.toList,v.oneCell'=true) :
  (Builtin.append_ #[T,U] ty #[.slice (some ⟨b,0,none⟩) len cap,y]).run P w=.ok (.slice (some ⟨b,0,none⟩) (len+n) cap) (w.setRow b (iq C (len*sz) D.toList)):=by
 have hst:=gK (P:=P) b T' D.toList (len*sz) 0 C w hb (by simpa using hfit) hone;rcases hU with⟨_,hU⟩|hU
 all_goals
  unfold Builtin.append_;simp only[zq,zw,wB,Sem.run_bind,run_underlying hT,run_underlying hU,aU hsz,aG,Sem.run_pure];simp only[gZ,if_false,Sem.run_bind,hlen,aG];rw[if_pos hle];simp only[lw,if_true,Sem.run_bind,hD,aG,dg,eN,hst,Sem.run_pure,j5]
theorem jA{T U e}{ty}{sz}{y}{D}(hT:P.underlying T=some (.slice e))(hU:(∃f,P.underlying U=some (.slice f))\/P.underlying U=some .string)
  (hsz:bj P e=some sz) (w) (hlen:(Builtin.lenOf y).run P w=.ok 0 w) (hD:(Builtin.firstCells sz 0 y).run P w=.ok D w) :
  (Builtin.append_ #[T,U] ty #[.slice none 0 0,y]).run P w=.ok (.slice none 0 0) w:=by
 rcases hU with⟨_,hU⟩|hU
 all_goals
  unfold Builtin.append_;simp only[zq,zw,wB,Sem.run_bind,run_underlying hT,run_underlying hU,aU hsz,aG,Sem.run_pure];simp only[gZ,if_false,Sem.run_bind,hlen,aG];rw[if_pos (by omega)];simp only[lw,if_true,Sem.run_bind,hD,aG,Sem.run_pure,j5]
theorem mB{sz n}{D}{ys}(hn:ys.length=n)(hD:D.size=n*sz)(h:cA M0 S sz D ys):∀v∈D.toList,v.oneCell'=true:=by
 intro v hv;obtain⟨k,hk⟩:=eL hv;have hkl:k<n*sz:=by
  have:=(aA.1 hk).1;simp at this;omega
 have hsz:0<sz:=by
  rcases ow sz with h0|h0
  .subst h0;simp at hkl
  .exact h0
 have hi:k / sz<ys.length:=by rw[hn];exact(Nat.div_lt_iff_lt_mul hsz).2 hkl
 obtain⟨cs,h1,h2,h3⟩:=h (k / sz) ys[k / sz] (by simp[hi]);have hj:k%sz<cs.length:=by rw[h2];exact kN _ hsz
 obtain⟨h4,h5⟩:=h3 (k%sz) cs[k%sz] (by simp[hj]);have e:k / sz*sz+k%sz=k:=by rw[s7];exact Nat.div_add_mod k sz
 rw[e]at h5;have:D.getD k undef=v:=by rw[<-e6,bB,hk];rfl
 rw[this]at h5;exact kZ h4 h5
theorem ji{α:Type}{l:List α}{i}{x}(h:l[i]?=some x):l.set i x=l:=by
 apply iv;intro k;rw[zt];split
 .rename_i hk;subst hk;split
  .exact h.symm
  .rename_i hn;have:=(aA.1 h).1;omega
 .rfl
theorem uC{Q:Sem (Array Value)}{D}(h:∀w,w.heap=S.w.heap->Q.run P w=.ok D w):Q.run P S.w.drew=.ok D S.w.drew:=h _ rfl
theorem rb{C D}{xs ys}{p sz}(hel:cA M0 S sz C xs)(hC:xs.length*sz<=C.size)(hD:D.size=ys.length*sz)(hDel:cA M0 S sz D ys)(hp:p+ys.length<=xs.length) :
  cA M0 S sz (iq C (p*sz) D.toList) (xs.take p++ys++xs.drop (p+ys.length)):=by
 have hdl:D.toList.length=ys.length*sz:=by simpa using hD
 have hfit:p*sz+D.toList.length<=C.size:=by
  rw[hdl,<-cG];exact iZ (eO sz hp) hC
 have htl:(xs.take p).length=p:=by simp;omega
 intro i z hi;rw[bJ]at hi;rcases aw i p with h|h
 .rw[br (by omega),kh,if_pos h]at hi;obtain⟨cs,a1,a2,a3⟩:=hel i z hi;refine⟨cs,a1,a2,λj c hc=>?_⟩;have hjl:=(aA.1 hc).1;have:=fS (i:=i) (n:=p) (sz:=sz) (j:=j) h (by omega);rw[fU _ _ _ _ hfit,if_neg (by omega)];exact a3 j c hc
 .rw[ca (by omega),htl]at hi;rcases aw (i-p) ys.length with h2|h2
  .rw[br h2]at hi;obtain⟨cs,a1,a2,a3⟩:=hDel _ z hi;refine⟨cs,a1,a2,λj c hc=>?_⟩;have hjl:=(aA.1 hc).1;have e1:i*sz=p*sz+(i-p)*sz:=by rw[<-cG];congr 1;omega
   have:=fS (i:=i-p) (n:=ys.length) (sz:=sz) (j:=j) h2 (by omega);rw[fU _ _ _ _ hfit,if_pos (by omega),e6,show i*sz+j-p*sz=(i-p)*sz+j by omega];exact a3 j c hc
  .rw[ca h2,nn,show p+ys.length+(i-p-ys.length)=i by omega]at hi;obtain⟨cs,a1,a2,a3⟩:=hel i z hi;refine⟨cs,a1,a2,λj c hc=>?_⟩;have hjl:=(aA.1 hc).1;have e1:(p+ys.length)*sz<=i*sz:=eO sz (by omega);rw[cG]at e1;rw[fU _ _ _ _ hfit,if_neg (by omega)];exact a3 j c hc
theorem yk(hS:HOk P M0 S){T U}{ty}{x y}{v u}(hx:Rep M0 S v x)(hy:Rep M0 S u y):aB P M0 S (Builtin.append_ #[T,U] ty #[v,u]) (iX P T U x y S.h):=by
 unfold iX;split
 .rename_i e he;split
  .exact trivial
  .rename_i hU;have hTu:=bA he;have hUu:(∃f,P.underlying U=some (.slice f))\/P.underlying U=some .string:=by
    cases hq:aH P U with
    |some f=>exact .inl ⟨f,bA hq⟩
    |none=>
     refine .inr (dV ?_);simpa[hq]using hU
   split
   .rename_i sz bytes hsz hby;split
    .rename_i ys hys;obtain⟨D,hlen,hD,hDs,hDel⟩:=jK (P:=P) hS hy hys;split
     .rename_i hc;obtain⟨hsz0,hb,hz⟩:=hc;split
      .
       split
       .rename_i hroom;have h':RepP (Avoid M0 S.m) S.w v .nilslice:=hx;cases h';split
        .rename_i h0;subst h0;exact aB.pure hS (jA hTu hUu hsz S.w hlen (hD _ rfl)) (ar .nilslice)
        .rename_i h0;have hpos:0<ys.length:=wy.2 h0;obtain⟨nc,R,hnc,hR,hrun⟩:=i7 (ty:=ty) (base:=none) (len:=0) (cap:=0) (O:=#[]) hTu hUu hsz hby hb hz (by omega) (by omega) S.w hlen rfl (uC hD);have hSd:=HOk.drew hS;have ed:=Ev.drew S.h.length S;have hel:cA M0 S.drew sz (#[]++D++R) ys:=by
          have:=sD (M0:=M0) (S:=S.drew) (R:=R) (n1:=0) (O:=#[]) (xs:=[]) (by simp) hDs rfl rfl (λi x hx=>by simp at hx) (hDel.keep ed);simpa using this
         have hsize:(#[]++D++R).size=nc*sz:=by
          simp[hDs,hR];rw[<-cG]
          congr 1
          omega
         have en:=Ev.new S.drew.h.length M0 hSd (aJ _) (.row sz ys) (.cells (#[]++D++R) e);refine⟨S.drew.new (.row sz ys) (.cells (#[]++D++R) e),_,rfl,by simpa[Mem.new,Mem.drew]using hrun,ed.trans en,HOk.new hSd (.inr ⟨_,e,_,rfl,bf _ _,?_,hel.keep en⟩),⟨_,_,_,rfl⟩,.inr ⟨sz,ys,by simp[Mem.new,Mem.drew],by omega,λ_=>.inr (.inl ⟨S.w.heap.size,nc,e,nc*sz,?_,by simp,⟨by omega,by omega⟩,?_,by simp,by omega⟩)⟩⟩
         .rw[hsize];exact eO sz (by omega)
         .have:=hS.len;show (S.m++[some S.w.heap.size]).getD S.h.length none=_;rw[<-this];simp
         .show (S.w.drew.alloc _).shape? S.w.drew.heap.size=_;unfold World.shape?;rw[bf];simp only[hsize]
       .exact trivial
      .
       rename_i sz' xs;split
       .rename_i hc2;obtain⟨rfl,hroom⟩:=hc2;obtain⟨O,hlo,hO,hOs,hOel⟩:=jK (P:=P) (ys:=xs.map .p) (sz:=sz') hS hx (by simp[eY]);have h':RepP (Avoid M0 S.m) S.w v (.slice sz' xs true):=hx;have hv:∃base,v=.slice base xs.length xs.length:=by
         cases h' with
         |slice f hl hcap hfull=>have:=hfull rfl;subst hl;subst this;exact⟨_,rfl⟩
         |empty hfull=>have:=hfull rfl;subst this;exact⟨_,rfl⟩
        obtain⟨base,rfl⟩:=hv;split
        .rename_i h0;subst h0;refine aB.pure hS (v':=.slice base xs.length xs.length) ?_ hx;rcases hUu with⟨_,hUu⟩|hUu
         all_goals
          unfold Builtin.append_;simp only[zq,zw,wB,Sem.run_bind,run_underlying hTu,run_underlying hUu,aU hsz,aG,Sem.run_pure];simp only[gZ,if_false,Sem.run_bind,hlen,aG,gz,j5];rw[if_pos (aJ _)];have hD0:D=#[]:=zB.1 (by simpa using hDs);subst hD0;have:=hD S.w rfl;simp only[gz]at this;simp only[lw,if_true,Sem.run_bind,this,aG]
          cases base with
          |none=>rfl
          |some a=>rfl
        .rename_i h0;have hpos:0<ys.length:=wy.2 h0;have hO2:=hO S.w.drew rfl;simp only[qj]at hO2 hOs;obtain⟨nc,R,hnc,hR,hrun⟩:=i7 (ty:=ty) (base:=base) (len:=xs.length) (cap:=xs.length) hTu hUu hsz hby hb hz (by omega) (by omega) S.w hlen hO2 (uC hD);have hSd:=HOk.drew hS;have ed:=Ev.drew S.h.length S;have hel:cA M0 S.drew sz' (O++D++R) (xs.map .p++ys):=sD (R:=R) hOs hDs (by simp) rfl (hOel.keep ed) (hDel.keep ed);have hsize:(O++D++R).size=nc*sz':=by
          simp[hDs,hR,hOs];rw[<-cG,<-cG]
          congr 1
          omega
         have hxl:(xs.map AV.p++ys).length=xs.length+ys.length:=by simp
         have en:=Ev.new S.drew.h.length M0 hSd (aJ _) (.row sz' (xs.map AV.p++ys)) (.cells (O++D++R) e);refine⟨S.drew.new (.row sz' (xs.map AV.p++ys)) (.cells (O++D++R) e),_,rfl,hrun,ed.trans en,HOk.new hSd (.inr ⟨_,e,_,rfl,bf _ _,?_,hel.keep en⟩),⟨_,_,_,rfl⟩,.inr ⟨sz',_,by simp[Mem.new,Mem.drew];rfl,by omega,λ_=>.inr (.inl ⟨S.w.heap.size,nc,e,nc*sz',?_,by simp,⟨by omega,by omega⟩,?_,by simp,by omega⟩)⟩⟩
         .rw[hsize,hxl];exact eO sz' (by omega)
         .have:=hS.len;show (S.m++[some S.w.heap.size]).getD S.h.length none=_;rw[<-this];simp
         .show (S.w.drew.alloc _).shape? S.w.drew.heap.size=_;unfold World.shape?;rw[bf];simp only[hsize]
       .exact trivial
      .
       rename_i id ver off len;split
       .rename_i sz' xs hid;split
        .rename_i hc2;obtain⟨rfl,hv,rfl,rfl,hroom⟩:=hc2;obtain⟨O,hlo,hO,hOs,hOel⟩:=jK (P:=P) (ys:=xs) (sz:=sz') hS hx (by simp[eY,hid,hv,sub,dz (yN hv)]);have hxl:(xs++ys).length=xs.length+ys.length:=by simp
         have grow:∀(base:Option Addr) (cap:Nat),v=.slice base len cap->cap<len+ys.length ->
           aB P M0 S (Builtin.append_ #[T,U] ty #[v,u]) (.val (.slice id (xs.length+ys.length) 0 (xs.length+ys.length)) (S.h.set id (.row sz' (xs++ys)))):=by
          intro base cap hvv hlt;subst hvv;have hcap:len<=cap:=by
           rcases bK hx.2 hid hv with⟨h1,_⟩|⟨b,cap',T',n,hm,h2,hcap,_⟩|⟨_,h2,_⟩
           .omega
           .cases h2;exact hcap.1
           .cases h2;omega
          have hO2:=hO S.w.drew rfl;rw[hv]at hO2;obtain⟨nc,R,hnc,hR,hrun⟩:=i7 (ty:=ty) (base:=base) (len:=len) (cap:=cap) hTu hUu hsz hby hb hz (by omega) hlt S.w hlen hO2 (uC hD);have hSd:=HOk.drew hS;have ed:=Ev.drew S.h.length S;have hel:cA M0 S.drew sz' (O++D++R) (xs++ys):=sD (R:=R) hOs hDs rfl rfl (hOel.keep ed) (hDel.keep ed);have hsize:(O++D++R).size=nc*sz':=by
           simp[hDs,hR,hOs];rw[<-cG,<-cG]
           congr 1
           omega
          have hlonger:xs.length<(xs++ys).length:=by omega
          have en:=Ev.regrow S.drew.h.length (S:=S.drew) (ob:=.cells (O++D++R) e) hid hlonger
          refine⟨S.drew.regrow id (.row sz' (xs++ys)) (.cells (O++D++R) e),_,rfl,hrun,ed.trans en,HOk.regrow hSd hid hlonger (by rw[hsize,hxl];exact eO sz' (by omega)) hel,⟨_,_,_,rfl⟩,
           .inr ⟨sz',_,by simp[Mem.regrow,Mem.drew,(aA.1 hid).1];rfl,by omega,λ_=>.inr (.inl ⟨S.w.heap.size,nc,e,nc*sz',?_,by simp[hv],⟨by omega,by omega⟩,?_,by simp,by omega⟩)⟩⟩
          .have:=hS.len;have hidl:=(aA.1 hid).1;show (S.m.set id (some S.w.heap.size)).getD id none=_;rw[bB,fp (by omega)];rfl
          .show (S.w.drew.alloc _).shape? S.w.drew.heap.size=_;unfold World.shape?;rw[bf];simp only[hsize]
         rcases bK hx.2 hid hv with⟨h1,h2,_⟩|⟨b,cap,T',n,hm,rfl,hcap,hsh,hfit,hreach⟩|⟨hmn,rfl,h0⟩
         .omega
         .rcases aw cap (len+ys.length) with hlt|hge
          .exact grow _ cap rfl hlt
          .obtain⟨C,T2,hb2,hsize2,hel2⟩:=dU hS hid hm;have hsh2:n=C.size:=by
            unfold World.shape? at hsh;rw[hb2]at hsh;simp at hsh;exact hsh.2.symm
           have hfit2:len*sz'+D.size<=C.size:=by
            rw[hDs,<-cG];refine iZ (eO sz' ?_) (hsh2▸hfit);omega
           have hone:=mB rfl hDs hDel;have hrun:=kV (ty:=ty) (cap:=cap) hTu hUu hsz hge S.w hlen (hD _ rfl) hb2 hfit2 hone;have hov:(iq C (len*sz') D.toList).size=C.size:=fO _ _ _;have en:=Ev.set S.h.length hid hm hb2 hov (xs':=xs++ys) (by omega);have hdl:D.toList.length=ys.length*sz':=by simpa using hDs
           refine⟨S.set id (.row sz' (xs++ys)) b (iq C (len*sz') D.toList),.slice (some ⟨b,0,none⟩) (len+ys.length) cap,rfl,?_,en,HOk.set hS hid hm hb2 hov (by omega) ?_ ?_,⟨_,_,_,rfl⟩,
            .inr ⟨sz',_,by simp[Mem.set,(aA.1 hid).1];rfl,by omega,λ_=>.inr (.inl ⟨b,cap,T',n,hm,by simp[hv],⟨by omega,by omega⟩,?_,by simpa using hfit,by omega⟩)⟩⟩
           .simpa[Mem.set]using hrun
           .rw[hov,hxl,<-hsh2];refine iZ (eO sz' ?_) hfit;omega
           .intro i z hi;rcases aw i xs.length with h|h
            .rw[br h]at hi;obtain⟨cs,a1,a2,a3⟩:=hel2 i z hi;refine⟨cs,a1,a2,λj c hc=>?_⟩;have hjl:=(aA.1 hc).1;have:=fS (i:=i) (n:=len) (sz:=sz') (j:=j) (by omega) (by omega);rw[fU _ _ _ _ (by simpa using hfit2),if_neg (by omega)];exact a3 j c hc
            .rw[ca h]at hi;obtain⟨cs,a1,a2,a3⟩:=hDel _ z hi;refine⟨cs,a1,a2,λj c hc=>?_⟩;have hjl:=(aA.1 hc).1;have hil:=(aA.1 hi).1;have e1:i*sz'=len*sz'+(i-xs.length)*sz':=by rw[<-cG];congr 1;omega
             have:=fS (i:=i-xs.length) (n:=ys.length) (sz:=sz') (j:=j) hil (by omega);rw[fU _ _ _ _ (by simpa using hfit2),if_pos (by omega),e6,show i*sz'+j-len*sz'=(i-xs.length)*sz'+j by omega];exact a3 j c hc
           .exact(nE _ _ _ _ _ _ hb2 hov b).trans hsh
         .rcases ow ys.length with hy0|hy0
          .have hys0:ys=[]:=wA.1 hy0;subst hys0;refine⟨S,.slice none 0 0,?_,jA hTu hUu hsz S.w hlen (hD _ rfl),Ev.refl _ _,hS,⟨_,_,_,rfl⟩,.inr ⟨sz',xs,hid,by simp,λ_=>.inr (.inr ⟨hmn,rfl,by rw[gz];omega⟩)⟩⟩;simp only[co];exact(ji hid).symm
          .exact grow none 0 (by rw[h0]) (by omega)
        .split
         .rename_i hc3;obtain⟨rfl,hv,rfl,hle⟩:=hc3;have hnew:(xs.take len++ys++xs.drop (len+ys.length)).length=xs.length:=by simp;omega
          rcases bK hx.2 hid hv with⟨h1,h2,h3,_⟩|⟨b,cap,T',n,hm,rfl,hcap,hsh,hfit,hreach⟩|⟨hmn,rfl,h0⟩
          .omega
          .obtain⟨C,T2,hb2,hsize2,hel2⟩:=dU hS hid hm;have hfit2:len*sz'+D.size<=C.size:=by
            rw[hDs,<-cG];exact iZ (eO sz' (by omega)) hsize2
           have hone:=mB rfl hDs hDel;have hrun:=kV (ty:=ty) (cap:=cap) hTu hUu hsz (by omega) S.w hlen (hD _ rfl) (by simpa using hb2) hfit2 hone;have hov:(iq C (len*sz') D.toList).size=C.size:=fO _ _ _;have en:=Ev.set S.h.length hid hm hb2 hov (xs':=xs.take len++ys++xs.drop (len+ys.length)) (by omega)
           refine⟨S.set id (.row sz' (xs.take len++ys++xs.drop (len+ys.length))) b (iq C (len*sz') D.toList),.slice (some ⟨b,0,none⟩) (len+ys.length) cap,rfl,?_,en,HOk.set hS hid hm hb2 hov (by omega) (by rw[hov,hnew];exact hsize2) (rb hel2 hsize2 hDs hDel (by omega)),⟨_,_,_,rfl⟩,
            .inr ⟨sz',xs.take len++ys++xs.drop (len+ys.length),by show (S.h.set id _)[id]?=_;rw[fp (aA.1 hid).1],by omega,λ_=>.inr (.inl ⟨b,cap,T',n,hm,by simp,⟨by omega,by omega⟩,?_,by simpa using hfit,by omega⟩)⟩⟩
           .simpa[Mem.set]using hrun
           .exact(nE _ _ _ _ _ _ hb2 hov b).trans hsh
          .have h0':=hS.obj id _ hid;rw[hmn]at h0';rcases h0' with⟨_,rfl⟩|⟨b,_,_,h,_⟩
           .have hys0:ys=[]:=wA.1 (by simp at hv;omega);subst hys0;refine⟨S,.slice none 0 0,?_,jA hTu hUu hsz S.w hlen (hD _ rfl),Ev.refl _ _,hS,⟨_,_,_,rfl⟩,.inr ⟨sz',[],hid,by simp at hv |-;omega,λ_=>.inr (.inr ⟨hmn,rfl,by simp at hv |-;omega⟩)⟩⟩;simp only[co,List.take_nil,List.drop_nil];exact(ji hid).symm
           .cases h
         .exact trivial
       .exact trivial
      .exact trivial
     .exact trivial
    .exact trivial
   .exact trivial
 .exact trivial
theorem iz{i:Int}(h0:0<=i)(h:i<=ai):IntKind.i64.wrap i=i:=by
 unfold ai at h;exact IntWalk.i64_in _ ⟨by omega,by omega⟩
theorem AD(hS:HOk P M0 S){T}{l c}{vl vc}(hl:Rep M0 S vl l)(hc:Rep M0 S vc c):aB P M0 S (Instr.makeSlice T vl vc) (mZ P T l c S.h):=by
 unfold mZ;split
 .rename_i e l c he;have:=fI hl;subst this;have:=fI hc;subst this;split
  .rename_i sz bytes z hsz hby hz;split
   .rename_i hcond;obtain⟨hsz0,hb,hzl,hzc,h0,hlc,hroom⟩:=hcond;obtain⟨i,hi,hib⟩:=qy hby S.w;obtain⟨zv,hzr,hzp⟩:=gH hz S.w;have hu:=bA he;obtain⟨zs,hzs⟩:=ec.1 hzc;have hrep:Rep M0 S zv (.p z):=eb hzp;obtain⟨hzn,hzcr⟩:=gL hrep hzs;have hzsl:zs.length=sz:=by
     cases z with
     |tuple l=>simp[AV.cells]at hzs
     |_=>(simp[AV.cells]at hzs;subst hzs;simpa using hzl)
    have hwl:=iz h0 (nt hlc hroom);have hwc:=iz (nt h0 hlc) hroom;have hbig:(bytes:Int)*c<=2^48:=by
     have h1:(bytes:Int)*c<=512*ai:=Int.mul_le_mul (by omega) hroom (by omega) (by omega);have h2:(512:Int)*(ai:Nat)<=2^48:=by decide
     omega
    generalize hC:((Array.range (c.toNat*sz)).map (zv.cells[·%zv.cells.size]!):Array Value)=C;have hCs:C.size=c.toNat*sz:=by rw[<-hC];simp
    have hrun:(Instr.makeSlice T (.int .i64 l) (.int .i64 c)).run P S.w=.ok (.slice (some ⟨S.w.heap.size,0,none⟩) l.toNat c.toNat) (S.w.alloc (.cells C e)):=by
     unfold Instr.makeSlice;simp only[Sem.run_bind,run_underlying hu,aG,asInt,asIntOf,Sem.run_pure,hi,hib,hwl,hwc];rw[if_neg (by simp;omega)];simp only[Sem.run_bind,run_askRoom,aG,aU hsz];by_cases hn:c.toNat*sz=0
     .rw[if_pos hn];have:C=#[]:=zB.1 (by omega);subst this;have hr:∀f:Nat->Value,(Array.range 0).map f=#[]:=λf=>zB.1 (by simp);simp only[Sem.run_bind,Sem.run_pure,aG,newRow,run_newObj,hn,hr,World.alloc_eq]
     .rw[if_neg hn];simp only[Sem.run_bind,hzr,aG,Sem.run_pure,newRow,run_newObj,hC,World.alloc_eq]
    have hget:∀k,k<c.toNat*sz->C.getD k undef=zv.cells.getD (k%sz) undef:=by
     intro k hk;rw[<-hC];have hm:k%sz<zv.cells.size:=by rw[hzn,hzsl];exact kN _ (by omega)
     simp[hk,hzn,hzsl];rw[getElem!_pos _ _ (by simpa[hzn,hzsl]using kN k (by omega:0<sz))];simp[show k%sz<zv.cells.size from hm]
    have hll:l.toNat<=c.toNat:=by omega
    have hel:cA M0 S sz C (List.replicate l.toNat (.p z)):=by
     intro i x hx;have hil:=(aA.1 hx).1;rw[List.length_replicate]at hil;rw[zu,if_pos hil]at hx;cases hx;refine⟨zs,hzs,hzsl,λj c' hj=>?_⟩;have hjl:=(aA.1 hj).1;rw[hget _ (hP (fS hil (by omega)) (eO sz hll)),show (i*sz+j)%sz=j by rw[Nat.add_comm,Nat.add_mul_mod_self_right];exact DH (by omega)];exact hzcr j c' hj
    have en:=Ev.new S.h.length M0 hS (aJ _) (.row sz (List.replicate l.toNat (.p z))) (.cells C e);refine⟨S.new (.row sz (List.replicate l.toNat (.p z))) (.cells C e),_,rfl,hrun,en,HOk.new hS (.inr ⟨_,e,C,rfl,bf _ _,?_,hel.keep en⟩),⟨_,_,_,rfl⟩,.inr ⟨sz,_,by simp[Mem.new];rfl,by simp,λ_=>.inr (.inl ⟨S.w.heap.size,c.toNat,e,C.size,?_,by simp,⟨hll,by omega⟩,?_,by simp;omega,by simp;omega⟩)⟩⟩
    .simp;rw[hCs];exact eO sz hll
    .have:=hS.len;show (S.m++[some S.w.heap.size]).getD S.h.length none=_;rw[<-this];simp
    .show (S.w.alloc (.cells C e)).shape? S.w.heap.size=_;unfold World.shape?;rw[bf]
   .exact trivial
  .exact trivial
 .exact trivial
end Abs
end Go.Proofs.YtmndpldajflenaaGreatDoor
