/- LAWS: operations of the abstract machine and the model's: variables, fields, indexes. -/
import Derived.Test.YtmndpldajflenaaGreatDoorAbsMemX
set_option linter.all false
namespace Go.Proofs.YtmndpldajflenaaGreatDoor
namespace Abs
variable {P:Program} {M0:Nat->Prop} {S:Mem}
def aB (P:Program) (M0:Nat->Prop) (S:Mem) (s:Sem Value):OR->Prop
 |.val v h=>∃(S':Mem) (v':Value),S'.h=h/\s.run P S.w=.ok v' S'.w/\Ev S.h.length S S'/\HOk P M0 S'/\Rep M0 S' v' v
 |.stuck=>True
 |_=>False
def wh (P:Program) (M0:Nat->Prop) (S:Mem) (s:Sem Unit):OR->Prop
 |.skip h=>∃S':Mem,S'.h=h/\s.run P S.w=.ok () S'.w/\Ev S.h.length S S'/\HOk P M0 S'
 |.stuck=>True
 |_=>False
theorem aB.pure(hS:HOk P M0 S){s}{v}{v'}(hr:s.run P S.w=.ok v' S.w)(h:Rep M0 S v' v):aB P M0 S s (.val v S.h):=
 ⟨S,v',rfl,hr,Ev.refl _ _,hS,h⟩
theorem aB.opt(hS:HOk P M0 S){s}{v}(h:∀x,v=some x->∃v',s.run P S.w=.ok v' S.w/\Rep M0 S v' x):aB P M0 S s (fP S.h v):=by
 cases v with
 |none=>exact trivial
 |some x=>obtain⟨v',h1,h2⟩:=h x rfl;exact aB.pure hS h1 h2
theorem bK{id ver sz}{xs}{X}(h:b8 S id ver X)(hid:S.h[id]?=some (.row sz xs))(hv:xs.length=ver):X sz (S.m.getD id none):=by
 rcases h with h|⟨sz',xs',h,_,hx⟩
 .rw[hid]at h;cases h
 .rw[hid]at h;cases h;exact hx hv
theorem dU(hS:HOk P M0 S){id sz b}{xs}(hid:S.h[id]?=some (.row sz xs))(hm:S.m.getD id none=some b) :
  ∃C T,S.w.heap[b]?=some (.cells C T (0,0))/\xs.length*sz<=C.size/\cA M0 S sz C xs:=by
 have:=hS.obj id _ hid;rw[hm]at this;rcases this with⟨h,_⟩|⟨b',T,C,h1,h2,h3,h4⟩
 .cases h
 .cases h1;exact⟨C,T,h2,h3,h4⟩
theorem gU{w:World}{b}{C}{T}{fr}(h:w.heap[b]?=some (.cells C T fr))(k)(hk:k<C.size):w.cell? ⟨b,k,none⟩=some (C.getD k undef):=by
 simp[World.cell?,h,hk]
theorem fS{i n sz j:Nat}(hi:i<n)(hj:j<sz):i*sz+j<n*sz:=by
 have h1:(i+1)*sz<=n*sz:=eO sz hi;rw[cG,ql]at h1;omega
theorem un{x}{sz}(h:x.cells.length=sz/\∀c,c∈x.cells->c.isCell=true):(AV.p x).cells=some (x.cells.map .p):=by
 cases x with
 |tuple l=>have:=h.2 (.tuple l) (by simp[PV.cells]);simp[PV.isCell]at this
 |_=>rfl
theorem qx(hcells){T}{x y}{cs}{o b at_}(hx:x.cells=some cs)(hrep:fz M0 S hcells cs)
  (hcell:∀j,o+j<cs.length->S.w.cell? ⟨b,at_+j,none⟩=some (hcells (o+j))) (hz:jc P T x o=some y) :
  ∃v',(loadVar T ⟨b,at_,none⟩).run P S.w=.ok v' S.w/\Rep M0 S v' y:=by
 unfold jc at hz;split at hz
 .rename_i ag n hag hn;obtain⟨h1,h2,h3⟩:=Ai hx hrep hz;exact⟨_,zZ hag hn S.w b at_ (λj=>hcells (o+j)) (λe j hj=>hcell j (h1 j hj e)) (λe=>by simpa using hcell 0 (h2 e)),by simpa using h3⟩
 .cases hz
theorem JY(hS:HOk P M0 S){T}{x}{v}(hx:Rep M0 S v x):aB P M0 S (Instr.loadAt T v) (lr P T x S.h):=by
 unfold lr;split
 .rename_i sz xs i o;split
  .rename_i y hy;have h:RepP (Avoid M0 S.m) S.w v (.ptr sz xs i o):=hx
   cases h with
   |ptr f hat hsz hM hc hr=>
    rename_i b off at_;refine aB.opt hS λz hz=>?_;have hi:=(aA.1 hy).1;have hsy:=hsz y (aV hy);have hrep:fz M0 S (λj=>f (i*sz+j)) (y.cells.map .p):=by
     intro j c hj;simp only[bU,bx]at hj;obtain⟨q,hq,rfl⟩:=hj;exact⟨hsy.2 q (aV hq),hr i j y q hy hq⟩
    have hlen:(y.cells.map AV.p).length=sz:=by simpa using hsy.1
    obtain⟨v',h1,h2⟩:=qx (P:=P) (λj=>f (i*sz+j)) (b:=b) (at_:=at_) (un hsy) hrep (λj hj=>by
     rw[<-hc (i*sz+(o+j)) (fS hi (by omega)),hat]
     simp only[fX]) hz
    exact⟨v',by simpa[Instr.loadAt,Instr.sureAddr]using h1,h2⟩
  .exact trivial
 .rename_i id ver i o;split
  .rename_i sz xs hid;split
   .rename_i hv;split
    .rename_i y hy;refine aB.opt hS λz hz=>?_;obtain⟨b,hm,rfl⟩:=bK hx.2 hid hv;obtain⟨C,T',hb,hsize,hel⟩:=dU hS hid hm;obtain⟨cs,h5,h6,h7⟩:=hel i y hy;have hi:=(aA.1 hy).1;obtain⟨v',h1,h2⟩:=qx (P:=P) (λj=>C.getD (i*sz+j) undef) (b:=b) (at_:=i*sz+o) h5 h7 (λj hj=>by
      rw[fX]
      exact gU hb _ (hP (fS hi (by omega)) hsize)) hz
     exact⟨v',by simpa[Instr.loadAt,Instr.sureAddr]using h1,h2⟩
    .exact trivial
   .exact trivial
  .exact trivial
 .exact trivial
theorem Cv(cs):(iC cs).cells=some cs:=by
 unfold iC
 cases hp:bV cs with
 |some l=>rw[gM hp];rfl
 |none=>rfl
theorem nK{α}(cs new:List α)(o j)(h:o+new.length<=cs.length) :
  (cR cs o new)[j]?=if o<=j/\j<o+new.length then new[j-o]? else cs[j]?:=by
 unfold cR;have h1:(cs.take o).length=o:=by simp;omega
 by_cases a:j<o
 .rw[if_neg (by omega),bJ,br (by omega),kh,if_pos a]
 .by_cases b:j<o+new.length
  .rw[if_pos ⟨by omega,b⟩,br (by simp;omega),ca (by omega),h1]
  .rw[if_neg (by omega),ca (by simp;omega),nn]
   congr 1
   simp[h1];omega
theorem kW{α}(cs new:List α)(o)(h:o+new.length<=cs.length):(cR cs o new).length=cs.length:=by
 unfold cR;simp;omega
theorem e6(C:Array Value)(j):C.toList.getD j undef=C.getD j undef:=by
 simp[bB]
theorem Hx(hS:HOk P M0 S){T}{x y}{v u}(hx:Rep M0 S v x)(hy:Rep M0 S u y):wh P M0 S (Instr.storeAt T v u) (fi P T x y S.h):=by
 unfold fi;split
 .rename_i id ver i o n hn;split
  .rename_i sz xs hid;split
   .rename_i hv;split
    .rename_i e he;split
     .rename_i e' he';obtain⟨b,hm,rfl⟩:=bK hx.2 hid hv;obtain⟨C,T',hb,hsize,hel⟩:=dU hS hid hm;obtain⟨cs,h5,h6,h7⟩:=hel i e he;have hi:=(aA.1 he).1;unfold AV.withCells at he';rw[h5]at he'
      cases hyc:y.cells with
      |none=>simp[hyc]at he'
      |some new=>
       simp only[hyc]at he';split at he'
       .rename_i hnew;obtain⟨hun,hur⟩:=gL hy hyc;have hle:o+n<=sz:=by
         split at he'
         .rename_i hc;omega
         .split at he'
          .rename_i hc;omega
          .cases he'
        have he2:e'.cells=some (cR cs o new)/\(cR cs o new).length=sz:=by
         split at he'
         .rename_i hc;cases he';obtain⟨hc1,rfl⟩:=hc;refine⟨?_,by rw[kW _ _ _ (by omega)];omega⟩;rw[hyc]
          congr 1
          apply iv;intro j;rw[nK _ _ _ _ (by omega)];by_cases hj:j<new.length
          .rw[if_pos ⟨by omega,by omega⟩];simp
          .rw[if_neg (by omega),fq (by omega),fq (by omega)]
         .split at he'
          .cases he';exact⟨Cv _,by rw[kW _ _ _ (by omega)];omega⟩
          .cases he'
        have hvl:u.cells.toList.length=n:=by simp;omega
        have hin:i*sz+sz<=xs.length*sz:=by
         have:(i+1)*sz<=xs.length*sz:=eO sz hi;rwa [cG,ql]at this
        have hbound:i*sz+o+u.cells.toList.length<=C.size:=by omega
        have hone:∀z∈u.cells.toList,z.oneCell'=true:=by
         intro z hz;obtain⟨j,hj⟩:=eL hz;have hjl:=(aA.1 hj).1;have hjn:j<new.length:=by omega
         obtain⟨h8,h9⟩:=hur j new[j] (by simp[hjn]);have:u.cells.getD j undef=z:=by rw[<-e6,bB,hj];rfl
         simp only[this]at h9;exact kZ h8 h9
        have hrun:=gK (P:=P) b T' u.cells.toList (i*sz+o) 0 C S.w hb (by omega) hone;simp only[j5]at hrun;refine⟨S.set id (.row sz (xs.set i e')) b (iq C (i*sz+o) u.cells.toList),rfl,?_,Ev.set _ hid hm hb (fO _ _ _) (by simp),HOk.set hS hid hm hb (fO _ _ _) (by simp) (by simp[fO];omega) ?_⟩
        .unfold Instr.storeAt storeVar;simp only[Instr.sureAddr,Sem.run_bind,Sem.run_pure,aG,aU hn];rw[if_neg (by omega)];simpa[Mem.set]using hrun
        .intro k z hk;by_cases hki:k=i
         .subst hki;rw[fp hi]at hk;cases hk;refine⟨_,he2.1,he2.2,λj c hc=>?_⟩;have hjl:=(aA.1 hc).1;rw[nK _ _ _ _ (by omega)]at hc;rw[fU _ _ _ _ hbound];split at hc
          .rename_i hj;rw[if_pos (by omega)];have:=hur (j-o) c hc;rw[show k*sz+j-(k*sz+o)=j-o by omega,e6];exact this
          .rename_i hj;rw[if_neg (by omega)];exact h7 j c hc
         .rw[cq (Ne.symm hki)]at hk;obtain⟨cs',g1,g2,g3⟩:=hel k z hk;refine⟨cs',g1,g2,λj c hc=>?_⟩;have hjl:=(aA.1 hc).1;have hkl:=(aA.1 hk).1;rw[fU _ _ _ _ hbound,if_neg ?_]
          .exact g3 j c hc
          .intro hh;rcases aw k i with h'|h'
           .have:(k+1)*sz<=i*sz:=eO sz h';rw[cG,ql]at this;omega
           .have:(i+1)*sz<=k*sz:=eO sz (by omega);rw[cG,ql]at this;omega
       .cases he'
     .exact trivial
    .exact trivial
   .exact trivial
  .exact trivial
 .exact trivial
theorem tX{T}{f off}{t}(h:nW P T f=some (off,t)) :
  ∃fs fd,P.underlying T=some (.struct fs)/\fs[f]?=some fd/\fd.offset=off/\fd.type=t:=by
 unfold nW at h;split at h
 .rename_i fs hu;simp only[bx,Prod.mk.injEq]at h;obtain⟨fd,h1,h2,h3⟩:=h;exact⟨fs,fd,hu,h1,h2,h3⟩
 .cases h
theorem fR{h}{id ver sz}(e:cY h id ver=some sz):∃xs,h[id]?=some (.row sz xs)/\xs.length=ver:=by
 unfold cY at e;split at e
 .rename_i sz' xs hid;split at e
  .rename_i hv;cases e;exact⟨xs,hid,hv⟩
  .cases e
 .cases e
theorem nQ{id ver i o' sz}{xs}{b}(hid:S.h[id]?=some (.row sz xs))(hv:xs.length=ver)(hm:S.m.getD id none=some b) :
  Rep M0 S (.pointer (some ⟨b,i*sz+o',none⟩)) (.ptr id ver i o'):=
 ⟨⟨_,rfl⟩,.inr ⟨sz,xs,hid,by omega,λ_=>⟨b,hm,rfl⟩⟩⟩
theorem AZ(hS:HOk P M0 S){T}{x}{v}{f}(hx:Rep M0 S v x):aB P M0 S (Instr.fieldAt T v f) (jP P T x f S.h):=by
 unfold jP;split
 .exact trivial
 .rename_i off t hf;obtain⟨fs,fd,hu,hfd,rfl,rfl⟩:=tX hf;split
  .exact trivial
  .rename_i n hsz;split
   .exact trivial
   .rename_i hn0;have run:∀(b at_:Nat),(Instr.fieldAt T (.pointer (some ⟨b,at_,none⟩)) f).run P S.w=.ok (.pointer (some ⟨b,at_+fd.offset,none⟩)) S.w:=by
     intro b at_;simp[Instr.fieldAt,run_underlying hu,hfd,Instr.sureAddr,fieldPlace,aU hsz,hn0,dg]
    split
    .rename_i sz xs i o;have h:RepP (Avoid M0 S.m) S.w v (.ptr sz xs i o):=hx
     cases h with
     |ptr g hat hs hM hc hr=>
      refine aB.pure hS (run _ _) (ar (.ptr g ?_ hs hM hc hr));rw[hat,fX]
    .rename_i id ver i o;split
     .rename_i sz hl;obtain⟨xs,hid,hv⟩:=fR hl;obtain⟨b,hm,rfl⟩:=bK hx.2 hid hv;refine aB.pure hS (run _ _) ?_;rw[fX];exact nQ hid hv hm
     .exact trivial
    .exact trivial
theorem bA{T e}(h:aH P T=some e):P.underlying T=some (.slice e):=by
 unfold aH at h;split at h
 .rename_i e' hu;cases h;exact hu
 .cases h
theorem iT{T e}{n}(h:cz P T=some (n,e)):P.underlying T=some (.array n e):=by
 unfold cz at h;split at h
 .rename_i n' e' hu;cases h;exact hu
 .cases h
theorem toNat_lt{i:Int}{n:Nat}(h0:0<=i)(h:i<n):i.toNat<n:=by omega
theorem fI{v}{k}{i}(h:Rep M0 S v (.p (.int k i))):v=.int k i:=by
 have h':RepP (Avoid M0 S.m) S.w v (.int k i):=h
 cases h' with
 |int k n=>rfl
theorem lN{v}{b}(h:Rep M0 S v (.p (.bool b))):v=.bool b:=by
 have h':RepP (Avoid M0 S.m) S.w v (.bool b):=h
 cases h' with
 |bool b=>rfl
theorem AP(hS:HOk P M0 S){T}{x ix}{v vi}(hx:Rep M0 S v x)(hi:Rep M0 S vi ix):aB P M0 S (Instr.indexAt T v vi) (fc P T x ix S.h):=by
 unfold fc;split
 .rename_i k i;have:=fI hi;subst this;split
  .rename_i sz xs full;split
   .rename_i e he;split
    .rename_i hc;obtain⟨hsz,h0,hlt⟩:=hc;have hu:=bA he;have h:RepP (Avoid M0 S.m) S.w v (.slice sz xs full):=hx
     cases h with
     |slice f hlen hcap hfull hs hM hcell hr=>
      rename_i b off len cap;subst hlen;refine aB.pure hS (v':=.pointer (some ⟨b,off+i.toNat*sz,none⟩)) ?_ (ar (.ptr f (by omega) hs hM hcell hr))
      simp[Instr.indexAt,asIntOf,run_underlying hu,h0,hlt,aU hsz,dg]
     |empty hfull=>simp at hlt;omega
    .exact trivial
   .exact trivial
  .rename_i id ver off len;split
   .rename_i e sz xs he hid;split
    .rename_i hc;obtain⟨hsz,hv,h0,hlt⟩:=hc;have hu:=bA he;have hl:=bK hx.2 hid hv;rcases hl with⟨h1,_⟩|⟨b,cap,T',n,hm,rfl,hlc,hsh,hroom⟩|⟨_,_,h1⟩
     .omega
     .refine aB.pure hS (v':=.pointer (some ⟨b,(off+i.toNat)*sz+0,none⟩)) ?_ (nQ hid hv hm);simp[Instr.indexAt,asIntOf,run_underlying hu,h0,hlt,aU hsz,dg,cG]
     .omega
    .exact trivial
   .exact trivial
  .rename_i id ver j o n;split
   .rename_i e sz he hl;split
    .rename_i hc;obtain⟨hsz,h0,hlt⟩:=hc;have hu:=bA he;obtain⟨xs,hid,hv⟩:=fR hl;obtain⟨b,cap,hm,hcap,hval⟩:=bK hx.2 hid hv;obtain rfl:=hval (by omega);refine aB.pure hS (v':=.pointer (some ⟨b,j*sz+(o+i.toNat),none⟩)) ?_ (nQ hid hv hm);simp[Instr.indexAt,asIntOf,run_underlying hu,h0,hlt,aU hsz,dg,fX]
    .exact trivial
   .exact trivial
  .rename_i sz xs j o;split
   .rename_i n e he;split
    .rename_i s hs;split
     .rename_i hc;obtain⟨h0,hlt⟩:=hc;have hu:=iT he;have h:RepP (Avoid M0 S.m) S.w v (.ptr sz xs j o):=hx
      cases h with
      |ptr g hat hsz hM hcell hr=>
       rename_i b off at_;refine aB.pure hS (v':=.pointer (some ⟨b,at_+i.toNat*s,none⟩)) ?_ (ar (.ptr g (by rw[hat,fX]) hsz hM hcell hr));simp[Instr.indexAt,asIntOf,run_underlying hu,h0,hlt,aU hs,dg,Instr.sureAddr]
     .exact trivial
    .exact trivial
   .exact trivial
  .rename_i id ver j o;split
   .rename_i n e he;split
    .rename_i s sz hs hl;split
     .rename_i hc;obtain⟨h0,hlt⟩:=hc;have hu:=iT he;obtain⟨xs,hid,hv⟩:=fR hl;obtain⟨b,hm,rfl⟩:=bK hx.2 hid hv;refine aB.pure hS (v':=.pointer (some ⟨b,j*sz+(o+i.toNat*s),none⟩)) ?_ (nQ hid hv hm);simp[Instr.indexAt,asIntOf,run_underlying hu,h0,hlt,aU hs,dg,Instr.sureAddr,fX]
     .exact trivial
    .exact trivial
   .exact trivial
  .exact trivial
 .exact trivial
theorem dV{T}(h:dc P T=true):P.underlying T=some .string:=by
 unfold dc at h;split at h
 .assumption
 .cases h
theorem xG{T}{x y}{v}{o}{C}(hv:v=.agg C)(hx:Rep M0 S v x)(hag:x.cells.isSome)(hz:jc P T x o=some y) :
  ∃v',(part T C o).run P S.w=.ok v' S.w/\Rep M0 S v' y:=by
 subst hv;obtain⟨cs,hcs⟩:=ec.1 hag;obtain⟨hn,hrep⟩:=gL hx hcs;simp only[Value.cells]at hn hrep;unfold jc at hz;split at hz
 .rename_i ag n hg hsz;obtain⟨h1,h2,h3⟩:=Ai hcs hrep hz
  cases ag with
  |true=>
   refine⟨.agg (C.extract o (o+n)),?_,?_⟩
   .simp[part,iA hg,aU hsz]
   .have hle:n=0\/o+n<=C.size:=by
     rcases ow n with h|h
     .exact .inl h
     .have:=h1 (n-1) (by omega) rfl;exact .inr (by omega)
    have:C.extract o (o+n)=((List.range n).map λj=>C.getD (o+j) undef).toArray:=by
     apply oz
     .simp;omega
     .intro k hk1 hk2;have hkn:k<n:=by simpa using hk2
      simp[show o+k<C.size by rcases hle with h|h<;>omega]
    rw[this]
    simpa using h3
  |false=>
   have ho:=h2 rfl;refine⟨C.getD o undef,?_,by simpa using h3⟩;simp[part,iA hg,show o<C.size by omega]
 .cases hz
theorem xn{v}{x}(hx:Rep M0 S v x)(h:(∃l,x=.p (.agg l))\/∃l,x=.agg l):∃C,v=.agg C:=by
 rcases h with⟨l,rfl⟩|⟨l,rfl⟩
 .have h':RepP (Avoid M0 S.m) S.w v (.agg l):=hx
  cases h' with
  |agg=>exact⟨_,rfl⟩
 .obtain⟨C,rfl,_⟩:=hx;exact⟨C,rfl⟩
theorem Ig(hS:HOk P M0 S){T}{x}{v}{f}(hx:Rep M0 S v x):aB P M0 S (Instr.field T v f) (qb P T x f S.h):=by
 unfold qb;split
 .exact trivial
 .rename_i off t hf;obtain⟨fs,fd,hu,hfd,rfl,rfl⟩:=tX hf;have key:((∃l,x=.p (.agg l))\/∃l,x=.agg l)->aB P M0 S (Instr.field T v f) (fP S.h (jc P fd.type x fd.offset)):=by
   intro hk;refine aB.opt hS λy hy=>?_;obtain⟨C,hv⟩:=xn hx hk;obtain⟨v',h1,h2⟩:=xG hv hx (by rcases hk with⟨l,rfl⟩|⟨l,rfl⟩<;>rfl) hy;exact⟨v',by simp[Instr.field,run_underlying hu,hfd,hv,asAgg,h1],h2⟩
  split
  .exact key (.inl ⟨_,rfl⟩)
  .exact key (.inr ⟨_,rfl⟩)
  .exact trivial
theorem H8(hS:HOk P M0 S){T}{x ix}{v vi}(hx:Rep M0 S v x)(hi:Rep M0 S vi ix):aB P M0 S (Instr.index T v vi) (sW P T x ix S.h):=by
 unfold sW;split
 .rename_i k i;have:=fI hi;subst this
  have key:((∃l,x=.p (.agg l))\/∃l,x=.agg l)->∀n e s,cz P T=some (n,e)->bj P e=some s->(0<=i/\i<n) ->
    aB P M0 S (Instr.index T v (.int k i)) (fP S.h (jc P e x (i.toNat*s))):=by
   intro hk n e s he hs hc;obtain⟨h0,hlt⟩:=hc;refine aB.opt hS λy hy=>?_;obtain⟨C,hv⟩:=xn hx hk;obtain⟨v',h1,h2⟩:=xG hv hx (by rcases hk with⟨l,rfl⟩|⟨l,rfl⟩<;>rfl) hy;exact⟨v',by simp[Instr.index,asIntOf,run_underlying (iT he),hv,h0,hlt,aU hs,h1],h2⟩
  split
  .rename_i s;split
   .rename_i hc;obtain⟨hst,h0⟩:=hc;split
    .rename_i b hb;have h':RepP (Avoid M0 S.m) S.w v (.str s):=hx
     cases h' with
     |str s=>
      refine aB.pure hS (v':=.int .u8 b.toNat) ?_ (ar (.int _ _));simp[Instr.index,asIntOf,run_underlying (dV hst),h0,hb]
    .exact trivial
   .exact trivial
  .split
   .split
    .split
     .rename_i n e he _ s hs hc;exact key (.inl ⟨_,rfl⟩) n e s he hs hc
     .exact trivial
    .exact trivial
   .exact trivial
  .split
   .split
    .split
     .rename_i n e he _ s hs hc;exact key (.inr ⟨_,rfl⟩) n e s he hs hc
     .exact trivial
    .exact trivial
   .exact trivial
  .exact trivial
 .exact trivial
end Abs
end Go.Proofs.YtmndpldajflenaaGreatDoor
