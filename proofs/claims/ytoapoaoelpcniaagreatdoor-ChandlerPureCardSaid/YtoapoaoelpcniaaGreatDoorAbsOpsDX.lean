/- CONTRACTS of the program's functions, and laws on what they return. No conditions but those in the theorems' heads. -/
import Derived.Test.YtoapoaoelpcniaaGreatDoorAbsOpsBX
import Derived.Lib.AppendStr
set_option linter.all false
namespace Go.Proofs.YtoapoaoelpcniaaGreatDoor
namespace Abs
variable {P:Program} {M0:Nat->Prop} {S:Mem}
theorem DV(need):∀(r c),c<=2*need+512->Builtin.growBy need r c<=2*need+512
 |0,c,h=>h
 |r+1,c,h=>by
  unfold Builtin.growBy;split
  .exact h
  .rename_i h';exact DV need r _ (by omega)
theorem A5(need old)(h:old<=need):Builtin.nextslicecap need old<=2*need+512:=by
 unfold Builtin.nextslicecap;split
 .omega
 .split
  .omega
  .exact DV need 4 old (by omega)
theorem QL{need old bytes}(h:old<=need)(hn:need<=aw)(hb:bytes<=256):¬Builtin.nextslicecap need old*bytes > 2^48:=by
 have h1:=A5 need old h;have h2:Builtin.nextslicecap need old*bytes<=(2*aw+512)*256:=Nat.mul_le_mul (by omega) hb;have h3:(2*aw+512)*256<=2^48:=by decide
 omega
theorem my(hS:HOk P M0 S){sz}{y}{v}{ys}(hy:Rep M0 S v y)(h:kO S.h sz y=some ys) :
  ∃D,(Builtin.lenOf v).run P S.w=.ok ys.length S.w/\(∀w,w.heap=S.w.heap->(Builtin.firstCells sz ys.length v).run P w=.ok D w)/\D.size=ys.length*sz/\dW M0 S sz D ys:=by
 unfold kO at h;split at h
 .cases h;have h':RepP (Avoid M0 S.m) S.w v .nilslice:=hy;cases h';exact⟨#[],rfl,λw _=>rfl,by simp,λi x hx=>by simp at hx⟩
 .rename_i sz' xs full;split at h
  .rename_i hsz;subst hsz;cases h;have h':RepP (Avoid M0 S.m) S.w v (.slice sz' xs full):=hy
   cases h' with
   |slice f hlen hcap hfull hs hM hcell hr=>
    rename_i b off len cap;subst hlen;refine⟨((List.range (xs.length*sz')).map f).toArray,by simp[Builtin.lenOf],λw hw=>?_,by simp,λi x hx=>?_⟩
    .have:=run_loadCells (P:=P) w ⟨b,off,none⟩ (xs.length*sz') f (λj hj=>by
      rw[fD,<-hcell j hj];simp only[World.cell?,hw])
     simpa[Builtin.firstCells]using this
    .simp only[cO,cg]at hx;obtain⟨q,hq,rfl⟩:=hx;have hsq:=hs q (aG hq);refine⟨_,zM hsq,by simpa using hsq.1,λj c hc=>?_⟩;simp only[cO,cg]at hc;obtain⟨d,hd,rfl⟩:=hc;have hjl:=(aF.1 hd).1;rw[iG _ _ _ (iT (aF.1 hq).1 (by omega))]
     exact⟨hsq.2 d (aG hd),hr i j q d hq hd⟩
   |@empty a cap _ _ hf=>
    refine⟨#[],rfl,λw _=>?_,by simp,λi x hx=>by simp at hx⟩;simp only[ck,cw]
    cases a with
    |none=>rfl
    |some a=>simp[Builtin.firstCells,loadCells,loadCellsFrom]
  .cases h
 .rename_i s;split at h
  .rename_i hsz;subst hsz;cases h;have h':RepP (Avoid M0 S.m) S.w v (.str s):=hy;cases h';refine⟨(Lib.strCells s).toArray,by simp[Builtin.lenOf],λw _=>?_,by simp[Lib.strCells_length],λi x hx=>?_⟩
   .have:=Lib.run_firstCells_string (P:=P) (w:=w) 1 s;simpa using this
   .simp only[cO,cg]at hx;obtain⟨b,hb,rfl⟩:=hx;refine⟨[.p (.int .u8 b.toNat)],rfl,rfl,λj c hj=>?_⟩
    cases j with
    |zero=>
     cases hj;refine⟨rfl,?_⟩;have:(Lib.strCells s).toArray.getD (i*1+0) undef=.int .u8 b.toNat:=by
      simp[Lib.strCells,fQ,hb]
     rw[this]
     exact .int _ _
    |succ j=>cases hj
  .cases h
 .rename_i id ver off len;split at h
  .rename_i sz' xs hid;split at h
   .rename_i hc;obtain⟨rfl,hv,hle⟩:=hc;cases h;have hsl:=AD off len xs hle;rcases di hy.2 hid hv with⟨rfl,hv0,hoff,ad,cap,rfl⟩|⟨b,cap,T',n,hm,rfl,hcap,hsh,hroom,hreach⟩|⟨hmn,rfl,rfl⟩
    .refine⟨#[],by rw[hsl];rfl,λw _=>?_,by simp[hsl],λi x hx=>by simp[sub]at hx⟩;rw[hsl]
     cases ad with
     |none=>rfl
     |some a=>simp[Builtin.firstCells,loadCells,loadCellsFrom]
    .obtain⟨C,T,hb,hsize,hel⟩:=fF hS hid hm;have hmul:(off+len)*sz'<=C.size:=lH (jN sz' hle) hsize;rw[fM]at hmul;refine⟨((List.range (len*sz')).map λk=>C.getD (off*sz'+k) undef).toArray,by rw[hsl];rfl,λw hw=>?_,by simp[hsl],λi x hx=>?_⟩
     .have:=run_loadCells (P:=P) w ⟨b,off*sz',none⟩ (len*sz') (λk=>C.getD (off*sz'+k) undef) (λj hj=>by
       rw[fD]
       exact jE (by rw[hw];exact hb) _ (by omega))
      simpa[Builtin.firstCells,hsl]using this
     .have hil:=(aF.1 hx).1;rw[hsl]at hil;have hx':xs[off+i]?=some x:=by
       unfold sub at hx;rw[pg,if_pos hil,nb]at hx;exact hx
      obtain⟨cs,h1,h2,h3⟩:=hel _ x hx';refine⟨cs,h1,h2,λj c hc=>?_⟩;have hjl:=(aF.1 hc).1;rw[iG _ _ _ (iT hil (by omega))];have:=h3 j c hc;rwa [fM,jW]at this
    .have hsl0:(sub off 0 xs).length=0:=hsl;exact⟨#[],by rw[hsl0];rfl,λw _=>by rw[hsl0];rfl,by simp[hsl0],λi x hx=>by simp[sub]at hx⟩
   .cases h
  .cases h
 .cases h
theorem xB{sz n1 n2}{O D R}{xs ys}(hO:O.size=n1*sz)(hD:D.size=n2*sz)(h1:xs.length=n1)(h2:ys.length=n2)
  (hx:dW M0 S sz O xs) (hy:dW M0 S sz D ys):dW M0 S sz (O++D++R) (xs++ys):=by
 intro i x hi;have hget:∀k,k<O.size->(O++D++R).getD k undef=O.getD k undef:=by
  intro k hk;simp[fQ,E3,hk]
 have hget2:∀k,k<D.size->(O++D++R).getD (O.size+k) undef=D.getD k undef:=by
  intro k hk;simp[fQ,E3,hk,show ¬(O.size+k<O.size) by omega]
 rcases dF i xs.length with h|h
 .rw[aX h]at hi;obtain⟨cs,a1,a2,a3⟩:=hx i x hi;refine⟨cs,a1,a2,λj c hc=>?_⟩;have hjl:=(aF.1 hc).1;rw[hget _ (by rw[hO];exact iT (by omega) (by omega))];exact a3 j c hc
 .rw[bW h]at hi;obtain⟨cs,a1,a2,a3⟩:=hy _ x hi;refine⟨cs,a1,a2,λj c hc=>?_⟩;have hjl:=(aF.1 hc).1;have hil:=(aF.1 hi).1;have e:i*sz+j=O.size+((i-xs.length)*sz+j):=by
   rw[hO,<-h1,<-jW,<-fM,show xs.length+(i-xs.length)=i by omega]
  rw[e,hget2 _ (by rw[hD];exact iT (by omega) (by omega))];exact a3 j c hc
theorem lv{T U e}{ty}{sz bytes}{base}{len cap n}{y}{O D}(hT:P.underlying T=some (.slice e))(hU:(∃f,P.underlying U=some (.slice f))\/P.underlying U=some .string)
  (hsz:ce P e=some sz) (hby:l8 P e=some bytes) (hb:bytes<=256) (hz:gD P e sz=true) (hn:len+n<=aw) (hlt:cap<len+n) (w)
  (hlen:(Builtin.lenOf y).run P w=.ok n w) (hO:(Builtin.firstCells sz len (.slice base len cap)).run P w.drew=.ok O w.drew) (hD:(Builtin.firstCells sz n y).run P w.drew=.ok D w.drew) :
  ∃(newCap:Nat) (R:Array Value),len+n<=newCap/\R.size=(newCap-(len+n))*sz /\
   (Builtin.append_ #[T,U] ty #[.slice base len cap,y]).run P w=.ok (.slice (some ⟨w.heap.size,0,none⟩) (len+n) newCap) (w.drew.alloc (.cells (O++D++R) e)):=by
 obtain⟨i,hi,hib⟩:=vh hby w;obtain⟨z,hzr,hzs⟩:=xA hz w.drew;have hi2:(typeInfo e).run P w.drew=.ok i w.drew:=by
  obtain⟨i',hi',_⟩:=vh hby w.drew;have:∃j,P.info? e=some j:=by
   unfold l8 at hby
   cases hq:P.info? e with
   |none=>simp[hq]at hby
   |some j=>exact⟨j,rfl⟩
  obtain⟨j,hj⟩:=this;simp[typeInfo,hj]at hi |-;exact hi
 refine⟨(Question.appendCap (len+n) cap e).cut (w.tape w.drawn (.appendCap (len+n) cap e)),Builtin.zeroCells z.cells ((Question.appendCap (len+n) cap e).cut (w.tape w.drawn (.appendCap (len+n) cap e))-(len+n)),?_,?_,?_⟩
 .simp[Question.cut]
 .simp[Builtin.zeroCells,hzs]
 .have hmax:¬(((len+n:Nat):Int) > IntKind.i64.max):=by
   have:IntKind.i64.max=9223372036854775807:=by decide
   rw[this];unfold aw at hn;omega
  have hfit:=QL (old:=cap) (bytes:=bytes) (Nat.le_of_lt hlt) hn hb;rcases hU with⟨_,hU⟩|hU
  all_goals
   unfold Builtin.append_;simp only[Fz,My,yh,Sem.run_bind,run_underlying hT,run_underlying hU,bP hsz,dl,Sem.run_pure];simp only[jc,if_false,Sem.run_bind,hlen,dl];rw[if_neg (by omega)];simp only[hi,dl,Sem.run_bind];rw[if_neg (by intro h;exact hmax h.1)];simp only[Sem.run_bind,hi,dl,hib];rw[if_neg hfit];simp only[Sem.run_bind,run_choose,Question.forced,jc,if_false,dl,World.drew_eq,hi2,run_askRoom,hO];simp[newRow,hD,hzr]
theorem oh{T U e}{ty}{sz}{b len cap n}{y}{C D}{T'}(hT:P.underlying T=some (.slice e))(hU:(∃f,P.underlying U=some (.slice f))\/P.underlying U=some .string)
  (hsz:ce P e=some sz) (hle:len+n<=cap) (w) (hlen:(Builtin.lenOf y).run P w=.ok n w) (hD:(Builtin.firstCells sz n y).run P w=.ok D w)
  (hb:w.heap[b]?=some (.cells C T' (0,0))) (hfit:len*sz+D.size<=C.size) (hone:∀v∈D.toList,v.oneCell'=true) :
  (Builtin.append_ #[T,U] ty #[.slice (some ⟨b,0,none⟩) len cap,y]).run P w=.ok (.slice (some ⟨b,0,none⟩) (len+n) cap) (w.setRow b (kw C (len*sz) D.toList)):=by
 have hst:=jr (P:=P) b T' D.toList (len*sz) 0 C w hb (by simpa using hfit) hone;rcases hU with⟨_,hU⟩|hU
 all_goals
  unfold Builtin.append_;simp only[Fz,My,yh,Sem.run_bind,run_underlying hT,run_underlying hU,bP hsz,dl,Sem.run_pure];simp only[jc,if_false,Sem.run_bind,hlen,dl];rw[if_pos hle];simp only[uV,if_true,Sem.run_bind,hD,dl,fD,iq,hst,Sem.run_pure,pk]
theorem ml{T U e}{ty}{sz}{y}{D}(hT:P.underlying T=some (.slice e))(hU:(∃f,P.underlying U=some (.slice f))\/P.underlying U=some .string)
  (hsz:ce P e=some sz) (w) (hlen:(Builtin.lenOf y).run P w=.ok 0 w) (hD:(Builtin.firstCells sz 0 y).run P w=.ok D w) :
  (Builtin.append_ #[T,U] ty #[.slice none 0 0,y]).run P w=.ok (.slice none 0 0) w:=by
 rcases hU with⟨_,hU⟩|hU
 all_goals
  unfold Builtin.append_;simp only[Fz,My,yh,Sem.run_bind,run_underlying hT,run_underlying hU,bP hsz,dl,Sem.run_pure];simp only[jc,if_false,Sem.run_bind,hlen,dl];rw[if_pos (by omega)];simp only[uV,if_true,Sem.run_bind,hD,dl,Sem.run_pure,pk]
theorem qG{sz n}{D}{ys}(hn:ys.length=n)(hD:D.size=n*sz)(h:dW M0 S sz D ys):∀v∈D.toList,v.oneCell'=true:=by
 intro v hv;obtain⟨k,hk⟩:=dX hv;have hkl:k<n*sz:=by
  have:=(aF.1 hk).1;simp at this;omega
 have hsz:0<sz:=by
  rcases tN sz with h0|h0
  .subst h0;simp at hkl
  .exact h0
 have hi:k / sz<ys.length:=by rw[hn];exact(Nat.div_lt_iff_lt_mul hsz).2 hkl
 obtain⟨cs,h1,h2,h3⟩:=h (k / sz) ys[k / sz] (by simp[hi]);have hj:k%sz<cs.length:=by rw[h2];exact uQ _ hsz
 obtain⟨h4,h5⟩:=h3 (k%sz) cs[k%sz] (by simp[hj]);have e:k / sz*sz+k%sz=k:=by rw[KA];exact Nat.div_add_mod k sz
 rw[e]at h5;have:D.getD k undef=v:=by rw[<-gI,cd,hk];rfl
 rw[this]at h5;exact ot h4 h5
theorem jP{α:Type}{l:List α}{i}{x}(h:l[i]?=some x):l.set i x=l:=by
 apply uS;intro k;rw[EY];split
 .rename_i hk;subst hk;split
  .exact h.symm
  .rename_i hn;have:=(aF.1 h).1;omega
 .rfl
theorem Ae{Q:Sem (Array Value)}{D}(h:∀w,w.heap=S.w.heap->Q.run P w=.ok D w):Q.run P S.w.drew=.ok D S.w.drew:=h _ rfl
theorem vZ{C D}{xs ys}{p sz}(hel:dW M0 S sz C xs)(hC:xs.length*sz<=C.size)(hD:D.size=ys.length*sz)(hDel:dW M0 S sz D ys)(hp:p+ys.length<=xs.length) :
  dW M0 S sz (kw C (p*sz) D.toList) (xs.take p++ys++xs.drop (p+ys.length)):=by
 have hdl:D.toList.length=ys.length*sz:=by simpa using hD
 have hfit:p*sz+D.toList.length<=C.size:=by
  rw[hdl,<-fM];exact lH (jN sz hp) hC
 have htl:(xs.take p).length=p:=by simp;omega
 intro i z hi;rw[cF]at hi;rcases dF i p with h|h
 .rw[aX (by omega),pg,if_pos h]at hi;obtain⟨cs,a1,a2,a3⟩:=hel i z hi;refine⟨cs,a1,a2,λj c hc=>?_⟩;have hjl:=(aF.1 hc).1;have:=iT (i:=i) (n:=p) (sz:=sz) (j:=j) h (by omega);rw[iV _ _ _ _ hfit,if_neg (by omega)];exact a3 j c hc
 .rw[bW (by omega),htl]at hi;rcases dF (i-p) ys.length with h2|h2
  .rw[aX h2]at hi;obtain⟨cs,a1,a2,a3⟩:=hDel _ z hi;refine⟨cs,a1,a2,λj c hc=>?_⟩;have hjl:=(aF.1 hc).1;have e1:i*sz=p*sz+(i-p)*sz:=by rw[<-fM];congr 1;omega
   have:=iT (i:=i-p) (n:=ys.length) (sz:=sz) (j:=j) h2 (by omega);rw[iV _ _ _ _ hfit,if_pos (by omega),gI,show i*sz+j-p*sz=(i-p)*sz+j by omega];exact a3 j c hc
  .rw[bW h2,nb,show p+ys.length+(i-p-ys.length)=i by omega]at hi;obtain⟨cs,a1,a2,a3⟩:=hel i z hi;refine⟨cs,a1,a2,λj c hc=>?_⟩;have hjl:=(aF.1 hc).1;have e1:(p+ys.length)*sz<=i*sz:=jN sz (by omega);rw[fM]at e1;rw[iV _ _ _ _ hfit,if_neg (by omega)];exact a3 j c hc
theorem Ei(hS:HOk P M0 S){T U}{ty}{x y}{v u}(hx:Rep M0 S v x)(hy:Rep M0 S u y):aM P M0 S (Builtin.append_ #[T,U] ty #[v,u]) (uL P T U x y S.h):=by
 unfold uL;split
 .rename_i e he;split
  .exact trivial
  .rename_i hU;have hTu:=cB he;have hUu:(∃f,P.underlying U=some (.slice f))\/P.underlying U=some .string:=by
    cases hq:bv P U with
    |some f=>exact .inl ⟨f,cB hq⟩
    |none=>
     refine .inr (fH ?_);simpa[hq]using hU
   split
   .rename_i sz bytes hsz hby;split
    .rename_i ys hys;obtain⟨D,hlen,hD,hDs,hDel⟩:=my (P:=P) hS hy hys;split
     .rename_i hc;obtain⟨hsz0,hb,hz⟩:=hc;split
      .
       split
       .rename_i hroom;have h':RepP (Avoid M0 S.m) S.w v .nilslice:=hx;cases h';split
        .rename_i h0;subst h0;exact aM.pure hS (ml hTu hUu hsz S.w hlen (hD _ rfl)) (aH .nilslice)
        .rename_i h0;have hpos:0<ys.length:=s7.2 h0;obtain⟨nc,R,hnc,hR,hrun⟩:=lv (ty:=ty) (base:=none) (len:=0) (cap:=0) (O:=#[]) hTu hUu hsz hby hb hz (by omega) (by omega) S.w hlen rfl (Ae hD);have hSd:=HOk.drew hS;have ed:=Ev.drew S.h.length S;have hel:dW M0 S.drew sz (#[]++D++R) ys:=by
          have:=xB (M0:=M0) (S:=S.drew) (R:=R) (n1:=0) (O:=#[]) (xs:=[]) (by simp) hDs rfl rfl (λi x hx=>by simp at hx) (hDel.keep ed);simpa using this
         have hsize:(#[]++D++R).size=nc*sz:=by
          simp[hDs,hR];rw[<-fM]
          congr 1
          omega
         have en:=Ev.new S.drew.h.length M0 hSd (bB _) (.row sz ys) (.cells (#[]++D++R) e);refine⟨S.drew.new (.row sz ys) (.cells (#[]++D++R) e),_,rfl,by simpa[Mem.new,Mem.drew]using hrun,ed.trans en,HOk.new hSd (.inr ⟨_,e,_,rfl,bK _ _,?_,hel.keep en⟩),⟨_,_,_,rfl⟩,.inr ⟨sz,ys,by simp[Mem.new,Mem.drew],by omega,λ_=>.inr (.inl ⟨S.w.heap.size,nc,e,nc*sz,?_,by simp,⟨by omega,by omega⟩,?_,by simp,by omega⟩)⟩⟩
         .rw[hsize];exact jN sz (by omega)
         .have:=hS.len;show (S.m++[some S.w.heap.size]).getD S.h.length none=_;rw[<-this];simp
         .show (S.w.drew.alloc _).shape? S.w.drew.heap.size=_;unfold World.shape?;rw[bK];simp only[hsize]
       .exact trivial
      .
       rename_i sz' xs;split
       .rename_i hc2;obtain⟨rfl,hroom⟩:=hc2;obtain⟨O,hlo,hO,hOs,hOel⟩:=my (P:=P) (ys:=xs.map .p) (sz:=sz') hS hx (by simp[kO]);have h':RepP (Avoid M0 S.m) S.w v (.slice sz' xs true):=hx;have hv:∃base,v=.slice base xs.length xs.length:=by
         cases h' with
         |slice f hl hcap hfull=>have:=hfull rfl;subst hl;subst this;exact⟨_,rfl⟩
         |empty hfull=>have:=hfull rfl;subst this;exact⟨_,rfl⟩
        obtain⟨base,rfl⟩:=hv;split
        .rename_i h0;subst h0;refine aM.pure hS (v':=.slice base xs.length xs.length) ?_ hx;rcases hUu with⟨_,hUu⟩|hUu
         all_goals
          unfold Builtin.append_;simp only[Fz,My,yh,Sem.run_bind,run_underlying hTu,run_underlying hUu,bP hsz,dl,Sem.run_pure];simp only[jc,if_false,Sem.run_bind,hlen,dl,cw,pk];rw[if_pos (bB _)];have hD0:D=#[]:=E4.1 (by simpa using hDs);subst hD0;have:=hD S.w rfl;simp only[cw]at this;simp only[uV,if_true,Sem.run_bind,this,dl]
          cases base with
          |none=>rfl
          |some a=>rfl
        .rename_i h0;have hpos:0<ys.length:=s7.2 h0;have hO2:=hO S.w.drew rfl;simp only[eF]at hO2 hOs;obtain⟨nc,R,hnc,hR,hrun⟩:=lv (ty:=ty) (base:=base) (len:=xs.length) (cap:=xs.length) hTu hUu hsz hby hb hz (by omega) (by omega) S.w hlen hO2 (Ae hD);have hSd:=HOk.drew hS;have ed:=Ev.drew S.h.length S;have hel:dW M0 S.drew sz' (O++D++R) (xs.map .p++ys):=xB (R:=R) hOs hDs (by simp) rfl (hOel.keep ed) (hDel.keep ed);have hsize:(O++D++R).size=nc*sz':=by
          simp[hDs,hR,hOs];rw[<-fM,<-fM]
          congr 1
          omega
         have hxl:(xs.map AV.p++ys).length=xs.length+ys.length:=by simp
         have en:=Ev.new S.drew.h.length M0 hSd (bB _) (.row sz' (xs.map AV.p++ys)) (.cells (O++D++R) e);refine⟨S.drew.new (.row sz' (xs.map AV.p++ys)) (.cells (O++D++R) e),_,rfl,hrun,ed.trans en,HOk.new hSd (.inr ⟨_,e,_,rfl,bK _ _,?_,hel.keep en⟩),⟨_,_,_,rfl⟩,.inr ⟨sz',_,by simp[Mem.new,Mem.drew];rfl,by omega,λ_=>.inr (.inl ⟨S.w.heap.size,nc,e,nc*sz',?_,by simp,⟨by omega,by omega⟩,?_,by simp,by omega⟩)⟩⟩
         .rw[hsize,hxl];exact jN sz' (by omega)
         .have:=hS.len;show (S.m++[some S.w.heap.size]).getD S.h.length none=_;rw[<-this];simp
         .show (S.w.drew.alloc _).shape? S.w.drew.heap.size=_;unfold World.shape?;rw[bK];simp only[hsize]
       .exact trivial
      .
       rename_i id ver off len;split
       .rename_i sz' xs hid;split
        .rename_i hc2;obtain⟨rfl,hv,rfl,rfl,hroom⟩:=hc2;obtain⟨O,hlo,hO,hOs,hOel⟩:=my (P:=P) (ys:=xs) (sz:=sz') hS hx (by simp[kO,hid,hv,sub,eD (EX hv)]);have hxl:(xs++ys).length=xs.length+ys.length:=by simp
         have grow:∀(base:Option Addr) (cap:Nat),v=.slice base len cap->cap<len+ys.length ->
           aM P M0 S (Builtin.append_ #[T,U] ty #[v,u]) (.val (.slice id (xs.length+ys.length) 0 (xs.length+ys.length)) (S.h.set id (.row sz' (xs++ys)))):=by
          intro base cap hvv hlt;subst hvv;have hcap:len<=cap:=by
           rcases di hx.2 hid hv with⟨h1,_⟩|⟨b,cap',T',n,hm,h2,hcap,_⟩|⟨_,h2,_⟩
           .omega
           .cases h2;exact hcap.1
           .cases h2;omega
          have hO2:=hO S.w.drew rfl;rw[hv]at hO2;obtain⟨nc,R,hnc,hR,hrun⟩:=lv (ty:=ty) (base:=base) (len:=len) (cap:=cap) hTu hUu hsz hby hb hz (by omega) hlt S.w hlen hO2 (Ae hD);have hSd:=HOk.drew hS;have ed:=Ev.drew S.h.length S;have hel:dW M0 S.drew sz' (O++D++R) (xs++ys):=xB (R:=R) hOs hDs rfl rfl (hOel.keep ed) (hDel.keep ed);have hsize:(O++D++R).size=nc*sz':=by
           simp[hDs,hR,hOs];rw[<-fM,<-fM]
           congr 1
           omega
          have hlonger:xs.length<(xs++ys).length:=by omega
          have en:=Ev.regrow S.drew.h.length (S:=S.drew) (ob:=.cells (O++D++R) e) hid hlonger
          refine⟨S.drew.regrow id (.row sz' (xs++ys)) (.cells (O++D++R) e),_,rfl,hrun,ed.trans en,HOk.regrow hSd hid hlonger (by rw[hsize,hxl];exact jN sz' (by omega)) hel,⟨_,_,_,rfl⟩,
           .inr ⟨sz',_,by simp[Mem.regrow,Mem.drew,(aF.1 hid).1];rfl,by omega,λ_=>.inr (.inl ⟨S.w.heap.size,nc,e,nc*sz',?_,by simp[hv],⟨by omega,by omega⟩,?_,by simp,by omega⟩)⟩⟩
          .have:=hS.len;have hidl:=(aF.1 hid).1;show (S.m.set id (some S.w.heap.size)).getD id none=_;rw[cd,jf (by omega)];rfl
          .show (S.w.drew.alloc _).shape? S.w.drew.heap.size=_;unfold World.shape?;rw[bK];simp only[hsize]
         rcases di hx.2 hid hv with⟨h1,h2,_⟩|⟨b,cap,T',n,hm,rfl,hcap,hsh,hfit,hreach⟩|⟨hmn,rfl,h0⟩
         .omega
         .rcases dF cap (len+ys.length) with hlt|hge
          .exact grow _ cap rfl hlt
          .obtain⟨C,T2,hb2,hsize2,hel2⟩:=fF hS hid hm;have hsh2:n=C.size:=by
            unfold World.shape? at hsh;rw[hb2]at hsh;simp at hsh;exact hsh.2.symm
           have hfit2:len*sz'+D.size<=C.size:=by
            rw[hDs,<-fM];refine lH (jN sz' ?_) (hsh2▸hfit);omega
           have hone:=qG rfl hDs hDel;have hrun:=oh (ty:=ty) (cap:=cap) hTu hUu hsz hge S.w hlen (hD _ rfl) hb2 hfit2 hone;have hov:(kw C (len*sz') D.toList).size=C.size:=iO _ _ _;have en:=Ev.set S.h.length hid hm hb2 hov (xs':=xs++ys) (by omega);have hdl:D.toList.length=ys.length*sz':=by simpa using hDs
           refine⟨S.set id (.row sz' (xs++ys)) b (kw C (len*sz') D.toList),.slice (some ⟨b,0,none⟩) (len+ys.length) cap,rfl,?_,en,HOk.set hS hid hm hb2 hov (by omega) ?_ ?_,⟨_,_,_,rfl⟩,
            .inr ⟨sz',_,by simp[Mem.set,(aF.1 hid).1];rfl,by omega,λ_=>.inr (.inl ⟨b,cap,T',n,hm,by simp[hv],⟨by omega,by omega⟩,?_,by simpa using hfit,by omega⟩)⟩⟩
           .simpa[Mem.set]using hrun
           .rw[hov,hxl,<-hsh2];refine lH (jN sz' ?_) hfit;omega
           .intro i z hi;rcases dF i xs.length with h|h
            .rw[aX h]at hi;obtain⟨cs,a1,a2,a3⟩:=hel2 i z hi;refine⟨cs,a1,a2,λj c hc=>?_⟩;have hjl:=(aF.1 hc).1;have:=iT (i:=i) (n:=len) (sz:=sz') (j:=j) (by omega) (by omega);rw[iV _ _ _ _ (by simpa using hfit2),if_neg (by omega)];exact a3 j c hc
            .rw[bW h]at hi;obtain⟨cs,a1,a2,a3⟩:=hDel _ z hi;refine⟨cs,a1,a2,λj c hc=>?_⟩;have hjl:=(aF.1 hc).1;have hil:=(aF.1 hi).1;have e1:i*sz'=len*sz'+(i-xs.length)*sz':=by rw[<-fM];congr 1;omega
             have:=iT (i:=i-xs.length) (n:=ys.length) (sz:=sz') (j:=j) hil (by omega);rw[iV _ _ _ _ (by simpa using hfit2),if_pos (by omega),gI,show i*sz'+j-len*sz'=(i-xs.length)*sz'+j by omega];exact a3 j c hc
           .exact(sb _ _ _ _ _ _ hb2 hov b).trans hsh
         .rcases tN ys.length with hy0|hy0
          .have hys0:ys=[]:=yi.1 hy0;subst hys0;refine⟨S,.slice none 0 0,?_,ml hTu hUu hsz S.w hlen (hD _ rfl),Ev.refl _ _,hS,⟨_,_,_,rfl⟩,.inr ⟨sz',xs,hid,by simp,λ_=>.inr (.inr ⟨hmn,rfl,by rw[cw];omega⟩)⟩⟩;simp only[bC];exact(jP hid).symm
          .exact grow none 0 (by rw[h0]) (by omega)
        .split
         .rename_i hc3;obtain⟨rfl,hv,rfl,hle⟩:=hc3;have hnew:(xs.take len++ys++xs.drop (len+ys.length)).length=xs.length:=by simp;omega
          rcases di hx.2 hid hv with⟨h1,h2,h3,_⟩|⟨b,cap,T',n,hm,rfl,hcap,hsh,hfit,hreach⟩|⟨hmn,rfl,h0⟩
          .omega
          .obtain⟨C,T2,hb2,hsize2,hel2⟩:=fF hS hid hm;have hfit2:len*sz'+D.size<=C.size:=by
            rw[hDs,<-fM];exact lH (jN sz' (by omega)) hsize2
           have hone:=qG rfl hDs hDel;have hrun:=oh (ty:=ty) (cap:=cap) hTu hUu hsz (by omega) S.w hlen (hD _ rfl) (by simpa using hb2) hfit2 hone;have hov:(kw C (len*sz') D.toList).size=C.size:=iO _ _ _;have en:=Ev.set S.h.length hid hm hb2 hov (xs':=xs.take len++ys++xs.drop (len+ys.length)) (by omega)
           refine⟨S.set id (.row sz' (xs.take len++ys++xs.drop (len+ys.length))) b (kw C (len*sz') D.toList),.slice (some ⟨b,0,none⟩) (len+ys.length) cap,rfl,?_,en,HOk.set hS hid hm hb2 hov (by omega) (by rw[hov,hnew];exact hsize2) (vZ hel2 hsize2 hDs hDel (by omega)),⟨_,_,_,rfl⟩,
            .inr ⟨sz',xs.take len++ys++xs.drop (len+ys.length),by show (S.h.set id _)[id]?=_;rw[jf (aF.1 hid).1],by omega,λ_=>.inr (.inl ⟨b,cap,T',n,hm,by simp,⟨by omega,by omega⟩,?_,by simpa using hfit,by omega⟩)⟩⟩
           .simpa[Mem.set]using hrun
           .exact(sb _ _ _ _ _ _ hb2 hov b).trans hsh
          .have h0':=hS.obj id _ hid;rw[hmn]at h0';rcases h0' with⟨_,rfl⟩|⟨b,_,_,h,_⟩
           .have hys0:ys=[]:=yi.1 (by simp at hv;omega);subst hys0;refine⟨S,.slice none 0 0,?_,ml hTu hUu hsz S.w hlen (hD _ rfl),Ev.refl _ _,hS,⟨_,_,_,rfl⟩,.inr ⟨sz',[],hid,by simp at hv |-;omega,λ_=>.inr (.inr ⟨hmn,rfl,by simp at hv |-;omega⟩)⟩⟩;simp only[bC,List.take_nil,List.drop_nil];exact(jP hid).symm
           .cases h
         .exact trivial
       .exact trivial
      .exact trivial
     .exact trivial
    .exact trivial
   .exact trivial
 .exact trivial
theorem cA{i:Int}(h0:0<=i)(h:i<=aw):IntKind.i64.wrap i=i:=by
 unfold aw at h;exact IntWalk.i64_in _ ⟨by omega,by omega⟩
theorem GB(hS:HOk P M0 S){T}{l c}{vl vc}(hl:Rep M0 S vl l)(hc:Rep M0 S vc c):aM P M0 S (Instr.makeSlice T vl vc) (rN P T l c S.h):=by
 unfold rN;split
 .rename_i e l c he;have:=iJ hl;subst this;have:=iJ hc;subst this;split
  .rename_i sz bytes z hsz hby hz;split
   .rename_i hcond;obtain⟨hsz0,hb,hzl,hzc,h0,hlc,hroom⟩:=hcond;obtain⟨i,hi,hib⟩:=vh hby S.w;obtain⟨zv,hzr,hzp⟩:=kz hz S.w;have hu:=cB he;obtain⟨zs,hzs⟩:=j6.1 hzc;have hrep:Rep M0 S zv (.p z):=gP hzp;obtain⟨hzn,hzcr⟩:=js hrep hzs;have hzsl:zs.length=sz:=by
     cases z with
     |tuple l=>simp[AV.cells]at hzs
     |_=>(simp[AV.cells]at hzs;subst hzs;simpa using hzl)
    have hwl:=cA h0 (s8 hlc hroom);have hwc:=cA (s8 h0 hlc) hroom;have hbig:(bytes:Int)*c<=2^48:=by
     have h1:(bytes:Int)*c<=256*aw:=s9 (by omega) hroom (by omega) (by omega);have h2:(256:Int)*(aw:Nat)<=2^48:=by decide
     omega
    generalize hC:((Array.range (c.toNat*sz)).map (zv.cells[·%zv.cells.size]!):Array Value)=C;have hCs:C.size=c.toNat*sz:=by rw[<-hC];simp
    have hrun:(Instr.makeSlice T (.int .i64 l) (.int .i64 c)).run P S.w=.ok (.slice (some ⟨S.w.heap.size,0,none⟩) l.toNat c.toNat) (S.w.alloc (.cells C e)):=by
     unfold Instr.makeSlice;simp only[Sem.run_bind,run_underlying hu,dl,asInt,asIntOf,Sem.run_pure,hi,hib,hwl,hwc];rw[if_neg (by simp;omega)];simp only[Sem.run_bind,run_askRoom,dl,bP hsz];by_cases hn:c.toNat*sz=0
     .rw[if_pos hn];have:C=#[]:=E4.1 (by omega);subst this;have hr:∀f:Nat->Value,(Array.range 0).map f=#[]:=λf=>E4.1 (by simp);simp only[Sem.run_bind,Sem.run_pure,dl,newRow,run_newObj,hn,hr,World.alloc_eq]
     .rw[if_neg hn];simp only[Sem.run_bind,hzr,dl,Sem.run_pure,newRow,run_newObj,hC,World.alloc_eq]
    have hget:∀k,k<c.toNat*sz->C.getD k undef=zv.cells.getD (k%sz) undef:=by
     intro k hk;rw[<-hC];have hm:k%sz<zv.cells.size:=by rw[hzn,hzsl];exact uQ _ (by omega)
     simp[hk,hzn,hzsl];rw[getElem!_pos _ _ (by simpa[hzn,hzsl]using uQ k (by omega:0<sz))];simp[show k%sz<zv.cells.size from hm]
    have hll:l.toNat<=c.toNat:=by omega
    have hel:dW M0 S sz C (List.replicate l.toNat (.p z)):=by
     intro i x hx;have hil:=(aF.1 hx).1;rw[List.length_replicate]at hil;rw[KP,if_pos hil]at hx;cases hx;refine⟨zs,hzs,hzsl,λj c' hj=>?_⟩;have hjl:=(aF.1 hj).1;rw[hget _ (jM (iT hil (by omega)) (jN sz hll)),show (i*sz+j)%sz=j by rw[Nat.add_comm,Nat.add_mul_mod_self_right];exact O8 (by omega)];exact hzcr j c' hj
    have en:=Ev.new S.h.length M0 hS (bB _) (.row sz (List.replicate l.toNat (.p z))) (.cells C e);refine⟨S.new (.row sz (List.replicate l.toNat (.p z))) (.cells C e),_,rfl,hrun,en,HOk.new hS (.inr ⟨_,e,C,rfl,bK _ _,?_,hel.keep en⟩),⟨_,_,_,rfl⟩,.inr ⟨sz,_,by simp[Mem.new];rfl,by simp,λ_=>.inr (.inl ⟨S.w.heap.size,c.toNat,e,C.size,?_,by simp,⟨hll,by omega⟩,?_,by simp;omega,by simp;omega⟩)⟩⟩
    .simp;rw[hCs];exact jN sz hll
    .have:=hS.len;show (S.m++[some S.w.heap.size]).getD S.h.length none=_;rw[<-this];simp
    .show (S.w.alloc (.cells C e)).shape? S.w.heap.size=_;unfold World.shape?;rw[bK]
   .exact trivial
  .exact trivial
 .exact trivial
end Abs
end Go.Proofs.YtoapoaoelpcniaaGreatDoor
namespace Go.Proofs.YtoapoaoelpcniaaGreatDoor
namespace Abs
variable {P:Program} {M0:Nat->Prop} {S:Mem}
theorem ul(hS:HOk P M0 S){s}{r}(h:∀q,r=some q->∃v',s.run P S.w=.ok v' S.w/\RepP (Avoid M0 S.m) S.w v' q):aM P M0 S s (tS S.h r):=by
 cases r with
 |none=>exact trivial
 |some q=>obtain⟨v',h1,h2⟩:=h q rfl;exact aM.pure hS h1 (aH h2)
theorem yU{op}{T}{x y}{a b}(w)(h1:∀C D,¬(a=.agg C/\b=.agg D))(h2:¬(a=.nilIface/\b=.nilIface)):(eqGuard op T x y a b).run P w=.ok () w:=by
 cases op<;>first
  |rfl
  |(unfold eqGuard
    cases a<;>first
     |rfl
     |(cases b<;>first
       |rfl
       |exact absurd ⟨rfl,rfl⟩ (h1 _ _)
       |exact absurd ⟨rfl,rfl⟩ h2))
theorem NV{op}{T}{k}{a b}{q}(hs:yx op=false)(h:uq op k a b=some q)(w)(M) :
  ∃v',(binOp op T (.int k a) (.int k b)).run P w=.ok v' w/\RepP M w v' q:=by
 cases op<;>simp only[uq,yx,reduceCtorEq,jO]at h hs
 case add=>subst h;exact⟨_,by simp[binOp,Op.intArith],.int _ _⟩
 case sub=>subst h;exact⟨_,by simp[binOp,Op.intArith],.int _ _⟩
 case mul=>subst h;exact⟨_,by simp[binOp,Op.intArith],.int _ _⟩
 case quo=>
  split at h
  .cases h
  .rename_i hb;cases h;exact⟨_,by simp[binOp,Op.intDiv,hb],.int _ _⟩
 case rem=>
  split at h
  .cases h
  .rename_i hb;cases h;exact⟨_,by simp[binOp,Op.intDiv,hb],.int _ _⟩
 case and=>
  subst h;refine⟨_,?_,.int _ _⟩;show (if k≠k then stuck "BinOp: operands of different kinds" else Op.intBits .and k a b:Sem Value).run P w=_;rw[if_neg (by simp)];rfl
 case or=>
  subst h;refine⟨_,?_,.int _ _⟩;show (if k≠k then stuck "BinOp: operands of different kinds" else Op.intBits .or k a b:Sem Value).run P w=_;rw[if_neg (by simp)];rfl
 case andNot=>
  subst h;refine⟨_,?_,.int _ _⟩;show (if k≠k then stuck "BinOp: operands of different kinds" else Op.intBits .andNot k a b:Sem Value).run P w=_;rw[if_neg (by simp)];rfl
 case eql=>subst h;exact⟨_,by simp[binOp,Op.intCmp],.bool _⟩
 case neq=>subst h;exact⟨_,by simp[binOp,Op.intCmp],.bool _⟩
 case lss=>subst h;exact⟨_,by simp[binOp,Op.intCmp],.bool _⟩
 case leq=>subst h;exact⟨_,by simp[binOp,Op.intCmp],.bool _⟩
 case gtr=>subst h;exact⟨_,by simp[binOp,Op.intCmp],.bool _⟩
 case geq=>subst h;exact⟨_,by simp[binOp,Op.intCmp],.bool _⟩
theorem IE{op}{T}{k k'}{a b}{q}(h:fB op k a b=some q)(w)(M) :
  ∃v',(binOp op T (.int k a) (.int k' b)).run P w=.ok v' w/\RepP M w v' q:=by
 unfold fB at h;split at h
 .cases h
 .rename_i hb;cases op<;>simp only[reduceCtorEq,jO]at h
  .subst h;exact⟨_,by simp[binOp,Op.shift,hb],.int _ _⟩
  .subst h;exact⟨_,by simp[binOp,Op.shift,hb],.int _ _⟩
theorem MQ{op}{T}{a b}{q}(h:AE op a b=some q)(w)(M) :
  ∃v',(binOp op T (.string a) (.string b)).run P w=.ok v' w/\RepP M w v' q:=by
 cases op<;>simp only[AE,reduceCtorEq,jO]at h
 .split at h
  .rename_i hsz;cases h;refine⟨.string (a++b),?_,.str _⟩;have hm:IntKind.i64.max=9223372036854775807:=by decide
   have:¬(((a.size+b.size:Nat):Int) > IntKind.i64.max):=by rw[hm];unfold bG at hsz;omega
   simp only[binOp,Op.stringOp];rw[if_neg this];rfl
  .cases h
 .subst h;exact⟨.bool (a==b),by simp[binOp,Op.stringOp,beq_toListBytes],.bool _⟩
 .subst h;exact⟨.bool !(a==b),by simp[binOp,Op.stringOp,beq_toListBytes],.bool _⟩
 .subst h;exact⟨_,by simp[binOp,Op.stringOp],.bool _⟩
def kt (M:Nat->Prop) (w:World) (X:Array Value) (a:List PV):Prop:=X.size=a.length/\∀(i:Nat) (c:PV),a[i]?=some c->RepP M w (X.getD i undef) c
def kB (P:Program) (T:TypeId) (X:Array Value):Value:=if bZ P T=some true then .agg X else X.getD 0 undef
theorem zl:∀{k1 k2} {a b} {t},eK (k1++k2) a b=some t ->
  ∃s u,eK k1 (a.take k1.length) (b.take k1.length)=some s/\eK k2 (a.drop k1.length) (b.drop k1.length)=some u/\t=(s&&u)
 |[],k2,a,b,t,h=>⟨true,t,rfl,by simpa using h,by simp⟩
 |k::k1,k2,a,b,t,h=>by
  cases a with
  |nil=>simp[eK]at h
  |cons x a=>
   cases b with
   |nil=>simp[eK]at h
   |cons y b=>
    simp only[eu,eK]at h;split at h
    .rename_i s1 t1 h1 h2;cases h;obtain⟨s,u,g1,g2,rfl⟩:=zl h2;refine⟨s1&&s,u,?_,g2,by rw[Bool.and_assoc]⟩;simp[eK,h1,g1]
    .cases h
theorem mW:∀{ks} {a b} {t},eK ks a b=some t->a.length=ks.length/\b.length=ks.length
 |[],[],[],_,_=>⟨rfl,rfl⟩
 |[],_::_,_,_,h=>by simp[eK]at h
 |[],[],_::_,_,h=>by simp[eK]at h
 |k::ks,[],_,_,h=>by simp[eK]at h
 |k::ks,_::_,[],_,h=>by simp[eK]at h
 |k::ks,x::a,y::b,t,h=>by
  simp only[eK]at h;split at h
  .rename_i s u h1 h2;obtain⟨g1,g2⟩:=mW h2;exact⟨by simp[g1],by simp[g2]⟩
  .cases h
theorem wY{T}{ks n}{X}(hsz:ce P T=some ks)(hag:(bZ P T).isSome=true)(hle:n+ks<=X.size)(hpos:bZ P T=some false->ks≠0)(w) :
  (part T X n).run P w=.ok (kB P T (X.extract n (n+ks))) w:=by
 obtain⟨g,hg⟩:=j6.1 hag
 cases g with
 |true=>simp[part,kE hg,bP hsz,kB,hg]
 |false=>
  have hk:=hpos hg;simp[part,kE hg,kB,hg,show n<X.size by omega,fQ,show 0<min (n+ks) X.size-n by omega]
theorem uH{M}{w}{X}{a}(h:kt M w X a)(n k)(hle:n+k<=a.length):kt M w (X.extract n (n+k)) ((a.drop n).take k):=by
 refine⟨by have:=h.1;simp;omega,λi c hi=>?_⟩;have hil:=(aF.1 hi).1;have hik:i<k:=by simp at hil;omega
 rw[pg,if_pos hik,nb]at hi;have:=h.2 (n+i) c hi;have hs:=h.1;have:(X.extract n (n+k)).getD i undef=X.getD (n+i) undef:=by
  simp[fQ,show i<min (n+k) X.size-n by omega,show n+i<X.size by omega]
 rw[this];assumption
theorem NG:∀{d} {T} {ks},mO P d T=some ks->bZ P T=some false->ks.length≠0:=by
 intro d T ks h hag
 cases d with
 |zero=>simp[mO]at h
 |succ d=>
  simp only[mO]at h;unfold bZ at hag;split at h
  .cases h;simp
  .cases h;simp
  .cases h;simp
  .rename_i fs hu;simp[hu]at hag
  .cases h
theorem t6{M}{w}{d e} (hrec:∀(T) (ks),mO P d T=some ks->ce P T=some ks.length->(bZ P T).isSome=true->∀(X Y) (a b) (t),kt M w X a->kt M w Y b ->
   eK ks a b=some t->(Op.equalIn e T (kB P T X) (kB P T Y)).run P w=.ok t w) :
  ∀(fs) (n) (ks),xp P (mO P d) fs n=some ks->∀(X Y) (a b) (t),kt M w X a->kt M w Y b->eK ks (a.drop n) (b.drop n)=some t ->
   (Op.eqFields e X Y fs).run P w=.ok t w
 |[],n,ks,h,X,Y,a,b,t,hX,hY,ht=>by
  simp[xp]at h;subst h;have:=mW ht;have:t=true:=by
   cases ha:a.drop n with
   |cons _ _=>rw[ha]at this;simp at this
   |nil=>
    cases hb:b.drop n with
    |cons _ _=>rw[hb]at this;simp at this
    |nil=>rw[ha,hb]at ht;simpa[eK]using ht.symm
  subst this
  rfl
 |f::fs,n,ks,h,X,Y,a,b,t,hX,hY,ht=>by
  simp only[xp]at h;split at h
  .rename_i hname;obtain⟨hname,hoff⟩:=hname;split at h
   .rename_i k1 hk1;split at h
    .rename_i hsz;obtain⟨hsz,hag⟩:=hsz;split at h
     .rename_i r hr;cases h;obtain⟨s,u,h1,h2,rfl⟩:=zl ht;rw[wE,wE]at h2;have hla:=(mW ht).1;have hlb:=(mW ht).2;have hp:=NG hk1;have hsa:=hX.1;have hsb:=hY.1;have hna:k1.length=0\/n+k1.length<=a.length:=by simp at hla;omega
      have hnb:k1.length=0\/n+k1.length<=b.length:=by simp at hlb;omega
      by_cases hk0:k1.length=0
      .
       have hagt:bZ P f.type=some true:=by
        obtain⟨g,hg⟩:=j6.1 hag
        cases g with
        |true=>exact hg
        |false=>exact absurd hk0 (hp hg)
       have hpx:∀Z:Array Value,(part f.type Z n).run P w=.ok (kB P f.type #[]) w:=by
        intro Z;have he:Z.extract n (n+0)=#[]:=E4.1 (by simp;omega);simp only[part,Sem.run_bind,kE hagt,dl,if_true,bP hsz,hk0,Sem.run_pure,he,kB,hagt]
       have hk1n:k1=[]:=yi.1 hk0;subst hk1n;have hs1:s=true:=by simpa[eK]using h1.symm
       subst hs1;have hempty:kt M w #[] []:=⟨rfl,λi c hi=>by simp at hi⟩
       have heq:=hrec f.type [] hk1 hsz hag #[] #[] [] [] true hempty hempty rfl;have ih:=t6 hrec fs (n+0) r hr X Y a b u hX hY h2;simp only[Op.eqFields];rw[if_pos hname,hoff];simp only[Sem.run_bind,hpx,dl,heq,Bool.not_true,jc,if_false];simpa using ih
      .have hna':n+k1.length<=a.length:=by omega
       have hnb':n+k1.length<=b.length:=by omega
       have hX1:=uH hX n k1.length hna';have hY1:=uH hY n k1.length hnb';have heq:=hrec f.type k1 hk1 hsz hag _ _ _ _ s hX1 hY1 h1;have ih:=t6 hrec fs (n+k1.length) r hr X Y a b u hX hY h2;have px:=wY (n:=n) (X:=X) hsz hag (by omega) hp w;have py:=wY (n:=n) (X:=Y) hsz hag (by omega) hp w;simp only[Op.eqFields];rw[if_pos hname];rw[hoff];simp only[Sem.run_bind,px,py,dl,heq]
       cases s with
       |true=>simpa using ih
       |false=>simp
     .cases h
    .cases h
   .cases h
  .cases h
theorem GJ{M}{w}:∀(d e),d<=e->∀(T) (ks),mO P d T=some ks->(bZ P T).isSome=true->∀(X Y) (a b) (t),kt M w X a->kt M w Y b ->
   eK ks a b=some t->(Op.equalIn e T (kB P T X) (kB P T Y)).run P w=.ok t w
 |0,_,_,T,ks,h,_,_,_,_,_,_,_,_,_=>by simp[mO]at h
 |d+1,0,hde,_,_,_,_,_,_,_,_,_,_,_,_=>by omega
 |d+1,e+1,hde,T,ks,h,hag,X,Y,a,b,t,hX,hY,ht=>by
  have hl:=mW ht;have one:∀(k:CK),ks=[k]->∃x y,a=[x]/\b=[y]/\ph k x y=some t/\RepP M w (X.getD 0 undef) x/\RepP M w (Y.getD 0 undef) y:=by
   intro k hk;subst hk;obtain⟨x,rfl⟩:=E1.1 hl.1;obtain⟨y,rfl⟩:=E1.1 hl.2;refine⟨x,y,rfl,rfl,?_,hX.2 0 x rfl,hY.2 0 y rfl⟩;simp only[eK]at ht;split at ht
   .rename_i s u h1 h2;cases h2;cases ht;simpa using h1
   .cases ht
  simp only[mO]at h;split at h
  .rename_i hu;cases h;obtain⟨x,y,rfl,rfl,h1,h2,h3⟩:=one _ rfl;have hv:∀Z:Array Value,kB P T Z=Z.getD 0 undef:=λZ=>by simp[kB,bZ,hu]
   rw[hv,hv];generalize X.getD 0 undef=vx at h2 |-;generalize Y.getD 0 undef=vy at h3 |-;cases x<;>cases y<;>simp only[ph,reduceCtorEq,jO]at h1;cases h2;cases h3;rw[run_equalIn_bool' w e T _ _ hu,h1]
  .rename_i k hu;cases h;obtain⟨x,y,rfl,rfl,h1,h2,h3⟩:=one _ rfl;have hv:∀Z:Array Value,kB P T Z=Z.getD 0 undef:=λZ=>by simp[kB,bZ,hu]
   rw[hv,hv];generalize X.getD 0 undef=vx at h2 |-;generalize Y.getD 0 undef=vy at h3 |-;cases x<;>cases y<;>simp only[ph,reduceCtorEq]at h1;split at h1
   .rename_i hk;subst hk;cases h1;cases h2;cases h3;rw[run_equalIn_int w e T _ _ _ _ hu]
   .cases h1
  .rename_i hu;cases h;obtain⟨x,y,rfl,rfl,h1,h2,h3⟩:=one _ rfl;have hv:∀Z:Array Value,kB P T Z=Z.getD 0 undef:=λZ=>by simp[kB,bZ,hu]
   rw[hv,hv];generalize X.getD 0 undef=vx at h2 |-;generalize Y.getD 0 undef=vy at h3 |-;cases x<;>cases y<;>simp only[ph,reduceCtorEq,jO]at h1;cases h2;cases h3;rw[run_equalIn_string w e T _ _ hu,<-beq_toListBytes,h1]
  .rename_i fs hu;split at h
   .cases h
   .rename_i hst;have hv:∀Z:Array Value,kB P T Z=.agg Z:=λZ=>by simp[kB,bZ,hu]
    rw[hv,hv];have hfo:P.fieldsOf T=fs:=by simp[Program.fieldsOf,hu]
    rw[run_equalIn_struct w e T X Y (by rw[hfo];exact hu) (by simpa using hst),hfo];exact t6 (λT' ks' h1 _ h3 X' Y' a' b' t' h4 h5 h6=>GJ d e (by omega) T' ks' h1 h3 X' Y' a' b' t' h4 h5 h6) fs.toList 0 ks h X Y a b t hX hY (by simpa using ht)
  .cases h
theorem Ls{T}(h:bX P T=.bool):P.underlying T=some .bool:=by
 unfold bX at h;split at h<;>first|assumption|(cases h;done)|(split at h<;>cases h)
theorem tX{T}(h:bX P T=.iface):∃ms,P.underlying T=some (.interface ms):=by
 unfold bX at h;split at h<;>first|exact⟨_,by assumption⟩|(cases h;done)|(split at h<;>cases h)
theorem tW{T}(h:bX P T=.slice):∃ms,P.underlying T=some (.slice ms):=by
 unfold bX at h;split at h<;>first|exact⟨_,by assumption⟩|(cases h;done)|(split at h<;>cases h)
theorem vO{T}(h:bX P T=.func):∃a b c,P.underlying T=some (.func a b c):=by
 unfold bX at h;split at h<;>first|exact⟨_,_,_,by assumption⟩|(cases h;done)|(split at h<;>cases h)
theorem xq{T}(h:bX P T=.ptr):∃e n,P.underlying T=some (.pointer e)/\ce P e=some n/\n≠0:=by
 unfold bX at h;split at h
 .cases h
 .cases h
 .cases h
 .cases h
 .rename_i e hu;split at h
  .cases h
  .rename_i hn
   cases hs:ce P e with
   |none=>exact absurd (.inl hs) hn
   |some n=>exact⟨e,n,hu,hs,λh0=>hn (.inr (by rw[hs,h0]))⟩
 .cases h
def Sc (P:Program) (T:TypeId) (a b:Value) (t:Bool) (w:World):Prop:=
 (binOp .eql T a b).run P w=.ok (.bool t) w/\(binOp .neq T a b).run P w=.ok (.bool !t) w
theorem fX{T}{a b}{t}{w}(h:(Op.equal T a b).run P w=.ok t w)
  (h1:binOp .eql T a b=(do pure (.bool (<-Op.equal T a b)))) (h2:binOp .neq T a b=(do pure (.bool (!(<-Op.equal T a b))))):Sc P T a b t w:=by
 refine⟨?_,?_⟩
 .rw[h1];simp[h]
 .rw[h2];simp[h]
theorem fu{T}{a b}{t}{w}(h:∀d,(Op.equalIn (d+1) T a b).run P w=.ok t w):(Op.equal T a b).run P w=.ok t w:=h 9999
theorem RT{T}{cst}{x y}{a b}{t}(hx:Rep M0 S a x)(hy:Rep M0 S b y)(h:HO P T cst x y=some t) :
  Sc P T a b t S.w/\((∀C D,¬(a=.agg C/\b=.agg D))\/P.eqGuardType P.depth T=false)/\(¬(a=.nilIface/\b=.nilIface)\/cst=true):=by
 unfold HO at h;split at h
 .rename_i p q;split at h
  .rename_i hk;cases h;have:=nJ hx;subst this;have:=nJ hy;subst this;exact⟨fX (run_equal_bool S.w T _ _ (Ls hk)) rfl rfl,.inl (by simp),.inl (by simp)⟩
  .cases h
 .rename_i p q;split at h
  .rename_i ks hks;unfold d6 at hks;split at hks
   .rename_i hg;obtain⟨hg1,hg2⟩:=hg;have h1:RepP (Avoid M0 S.m) S.w a (.agg p):=hx;have h2:RepP (Avoid M0 S.m) S.w b (.agg q):=hy
    cases h1 with
    |@agg C _ hn1 _ hr1=>
     cases h2 with
     |@agg D _ hn2 _ hr2=>
      have hv:∀Z:Array Value,kB P T Z=.agg Z:=λZ=>by simp[kB,hg2]
      have:=GJ 20 Op.maxDepth (by decide) T ks hks (by simp[hg2]) C D p q t ⟨hn1,hr1⟩ ⟨hn2,hr2⟩ h;rw[hv,hv]at this;exact⟨fX this rfl rfl,.inr hg1,.inl (by simp)⟩
   .cases hks
  .cases h
 .split at h
  .rename_i hc;obtain⟨hc,hk⟩:=hc;cases h;obtain⟨ms,hu⟩:=tX hk;have h1:RepP (Avoid M0 S.m) S.w a .niliface:=hx;have h2:RepP (Avoid M0 S.m) S.w b .niliface:=hy;cases h1;cases h2;refine⟨fX (fu λd=>by simp[Op.equalIn,run_underlying hu]) rfl rfl,.inl (by simp),.inr hc⟩
  .cases h
 .split at h
  .rename_i hk;cases h;obtain⟨ms,hu⟩:=tX hk;have h1:RepP (Avoid M0 S.m) S.w a .niliface:=hx;have h2:RepP (Avoid M0 S.m) S.w b (.iface _ _):=hy;cases h1;cases h2;refine⟨fX (fu λd=>by simp[Op.equalIn,run_underlying hu]) rfl rfl,.inl (by simp),.inl (by simp)⟩
  .cases h
 .split at h
  .rename_i hk;cases h;obtain⟨ms,hu⟩:=tX hk;have h1:RepP (Avoid M0 S.m) S.w a (.iface _ _):=hx;have h2:RepP (Avoid M0 S.m) S.w b .niliface:=hy;cases h1;cases h2;refine⟨fX (fu λd=>by simp[Op.equalIn,run_underlying hu]) rfl rfl,.inl (by simp),.inl (by simp)⟩
  .cases h
 .split at h
  .rename_i hk;cases h;obtain⟨ms,hu⟩:=tW hk;have h1:RepP (Avoid M0 S.m) S.w a .nilslice:=hx;have h2:RepP (Avoid M0 S.m) S.w b .nilslice:=hy;cases h1;cases h2;refine⟨fX (fu λd=>by simp[Op.equalIn,run_underlying hu]) rfl rfl,.inl (by simp),.inl (by simp)⟩
  .cases h
 .split at h
  .rename_i hk;obtain⟨hk,hne⟩:=hk;cases h;obtain⟨ms,hu⟩:=tW hk;have h1:RepP (Avoid M0 S.m) S.w a .nilslice:=hx;have h2:RepP (Avoid M0 S.m) S.w b (.slice _ _ _):=hy;cases h1
   cases h2 with
   |slice=>exact⟨fX (fu λd=>by simp[Op.equalIn,run_underlying hu]) rfl rfl,.inl (by simp),.inl (by simp)⟩
   |empty=>exact absurd rfl hne
  .cases h
 .split at h
  .rename_i hk;obtain⟨hk,hne⟩:=hk;cases h;obtain⟨ms,hu⟩:=tW hk;have h1:RepP (Avoid M0 S.m) S.w a (.slice _ _ _):=hx;have h2:RepP (Avoid M0 S.m) S.w b .nilslice:=hy;cases h2
   cases h1 with
   |slice=>exact⟨fX (fu λd=>by simp[Op.equalIn,run_underlying hu]) rfl rfl,.inl (by simp),.inl (by simp)⟩
   |empty=>exact absurd rfl hne
  .cases h
 .split at h
  .rename_i hk;cases h;obtain⟨e,n,hu,hs,hn⟩:=xq hk;have h1:RepP (Avoid M0 S.m) S.w a .nilptr:=hx;have h2:RepP (Avoid M0 S.m) S.w b .nilptr:=hy;cases h1;cases h2;refine⟨fX (fu λd=>by simp[Op.equalIn,run_underlying hu]) rfl rfl,.inl (by simp),.inl (by simp)⟩
  .cases h
 .split at h
  .rename_i hk;cases h;obtain⟨e,n,hu,hs,hn⟩:=xq hk;have h1:RepP (Avoid M0 S.m) S.w a .nilptr:=hx;have h2:RepP (Avoid M0 S.m) S.w b (.ptr _ _ _ _):=hy;cases h1;cases h2;refine⟨fX (fu λd=>by simp[Op.equalIn,run_underlying hu]) rfl rfl,.inl (by simp),.inl (by simp)⟩
  .cases h
 .split at h
  .rename_i hk;cases h;obtain⟨e,n,hu,hs,hn⟩:=xq hk;have h1:RepP (Avoid M0 S.m) S.w a (.ptr _ _ _ _):=hx;have h2:RepP (Avoid M0 S.m) S.w b .nilptr:=hy;cases h1;cases h2;refine⟨fX (fu λd=>by simp[Op.equalIn,run_underlying hu]) rfl rfl,.inl (by simp),.inl (by simp)⟩
  .cases h
 .split at h
  .rename_i hk;cases h;obtain⟨e,n,m,hu⟩:=vO hk;have h1:RepP (Avoid M0 S.m) S.w a .nilfunc:=hx;have h2:RepP (Avoid M0 S.m) S.w b .nilfunc:=hy;cases h1;cases h2;refine⟨fX (fu λd=>by simp[Op.equalIn,run_underlying hu]) rfl rfl,.inl (by simp),.inl (by simp)⟩
  .cases h
 .split at h
  .rename_i hk;cases h;obtain⟨e,n,m,hu⟩:=vO hk;have h1:RepP (Avoid M0 S.m) S.w a (.func _ _ _):=hx;have h2:RepP (Avoid M0 S.m) S.w b .nilfunc:=hy;cases h1;cases h2;refine⟨fX (fu λd=>by simp[Op.equalIn,run_underlying hu]) rfl rfl,.inl (by simp),.inl (by simp)⟩
  .cases h
 .split at h
  .rename_i hk;cases h;obtain⟨e,n,m,hu⟩:=vO hk;obtain⟨F,C,rfl,_,_⟩:=hx;have h2:RepP (Avoid M0 S.m) S.w b .nilfunc:=hy;cases h2;refine⟨fX (fu λd=>by simp[Op.equalIn,run_underlying hu]) rfl rfl,.inl (by simp),.inl (by simp)⟩
  .cases h
 .cases h
end Abs
end Go.Proofs.YtoapoaoelpcniaaGreatDoor
