/- CONTRACTS: Read of the text of the examples. No conditions. -/
import Derived.Test.YtmndpldajflenaaGreatDoorStrBldX
set_option linter.all false
set_option maxHeartbeats 16000000
open Go.Proofs.Tryz renaming prog->TP
namespace Go.Proofs.YtmndpldajflenaaGreatDoor
namespace Abs
namespace Tr
set_option maxRecDepth 100000
theorem jw:PCall TP 108 [.bool true] (.tuple []):=by
 refine ae (am Tryz.func108 rfl) rfl ?_;simp only[go_sem,simprocAttr]
theorem rh(s:ByteArray)(n:Int)(hs:s.size<=1000)(h1:BA s=.tuple [.int .i64 n,.niliface])(h2:mR n=s)(hss:(s==s)=true)(h3:0<=n/\n<=1000000):PCall TP 109 [.str s] (.int .i64 n):=by
 have ha:=NM s (by omega);rw[h1]at ha;refine ae (am Tryz.func109 rfl) rfl ?_;simp only[go_sem,simprocAttr];refine aa ha rfl ?_;simp only[go_sem,simprocAttr];refine aa (ma n (by omega) (by omega)) rfl ?_;simp only[h2,hss,go_sem,simprocAttr];refine aa jw rfl ?_;simp only[go_sem,simprocAttr]
theorem Pj{i j}{h}:oW TP 105 [.ptr i 1 0 0,.ptr j 1 0 0] .ret h (λr u h'=>r=.ret (.p (.tuple []))/\u=.ret/\h'=h):=by
 refine Bd (ku (by kernel_rfl) rfl Nc) rfl ?_;simp only[wM,nO,go_sem,simprocAttr]
theorem Nw:PCall TP 106 [.str ⟨#[97,32,49,48,48,32,49,48,48,10,98,32,56,48,32,56,48,10,99,32,54,48,32,50,48,32,97,32,52,48,10,100,32,53,48,32,49,48,32,108,111,115,116,10]⟩,.str ⟨#[10]⟩] (.tuple [.str ⟨#[97,32,49,48,48,32,49,48,48]⟩,.str ⟨#[98,32,56,48,32,56,48,10,99,32,54,48,32,50,48,32,97,32,52,48,10,100,32,53,48,32,49,48,32,108,111,115,116,10]⟩,.bool true]):=by
 have h:=tz [97,32,49,48,48,32,49,48,48,10,98,32,56,48,32,56,48,10,99,32,54,48,32,50,48,32,97,32,52,48,10,100,32,53,48,32,49,48,32,108,111,115,116,10] 10 (by decide);have e:(.tuple [.str (bs (bz 10 [97,32,49,48,48,32,49,48,48,10,98,32,56,48,32,56,48,10,99,32,54,48,32,50,48,32,97,32,52,48,10,100,32,53,48,32,49,48,32,108,111,115,116,10]).1),.str (bs ((bz 10 [97,32,49,48,48,32,49,48,48,10,98,32,56,48,32,56,48,10,99,32,54,48,32,50,48,32,97,32,52,48,10,100,32,53,48,32,49,48,32,108,111,115,116,10]).2.getD [])),.bool (bz 10 [97,32,49,48,48,32,49,48,48,10,98,32,56,48,32,56,48,10,99,32,54,48,32,50,48,32,97,32,52,48,10,100,32,53,48,32,49,48,32,108,111,115,116,10]).2.isSome]:PV)=.tuple [.str ⟨#[97,32,49,48,48,32,49,48,48]⟩,.str ⟨#[98,32,56,48,32,56,48,10,99,32,54,48,32,50,48,32,97,32,52,48,10,100,32,53,48,32,49,48,32,108,111,115,116,10]⟩,.bool true]:=by kernel_rfl
 rw[e]at h;exact h
theorem J3:PCall TP 107 [.str ⟨#[97,32,49,48,48,32,49,48,48]⟩,.str ⟨#[32]⟩] (.slice 1 [.str ⟨#[97]⟩,.str ⟨#[49,48,48]⟩,.str ⟨#[49,48,48]⟩] false):=by
 have h:=oS [97,32,49,48,48,32,49,48,48] 32 (by decide);have e:nC (cL 32 [97,32,49,48,48,32,49,48,48])=.slice 1 [.str ⟨#[97]⟩,.str ⟨#[49,48,48]⟩,.str ⟨#[49,48,48]⟩] false:=by kernel_rfl
 rw[e]at h;exact h
theorem Nv:PCall TP 106 [.str ⟨#[98,32,56,48,32,56,48,10,99,32,54,48,32,50,48,32,97,32,52,48,10,100,32,53,48,32,49,48,32,108,111,115,116,10]⟩,.str ⟨#[10]⟩] (.tuple [.str ⟨#[98,32,56,48,32,56,48]⟩,.str ⟨#[99,32,54,48,32,50,48,32,97,32,52,48,10,100,32,53,48,32,49,48,32,108,111,115,116,10]⟩,.bool true]):=by
 have h:=tz [98,32,56,48,32,56,48,10,99,32,54,48,32,50,48,32,97,32,52,48,10,100,32,53,48,32,49,48,32,108,111,115,116,10] 10 (by decide);have e:(.tuple [.str (bs (bz 10 [98,32,56,48,32,56,48,10,99,32,54,48,32,50,48,32,97,32,52,48,10,100,32,53,48,32,49,48,32,108,111,115,116,10]).1),.str (bs ((bz 10 [98,32,56,48,32,56,48,10,99,32,54,48,32,50,48,32,97,32,52,48,10,100,32,53,48,32,49,48,32,108,111,115,116,10]).2.getD [])),.bool (bz 10 [98,32,56,48,32,56,48,10,99,32,54,48,32,50,48,32,97,32,52,48,10,100,32,53,48,32,49,48,32,108,111,115,116,10]).2.isSome]:PV)=.tuple [.str ⟨#[98,32,56,48,32,56,48]⟩,.str ⟨#[99,32,54,48,32,50,48,32,97,32,52,48,10,100,32,53,48,32,49,48,32,108,111,115,116,10]⟩,.bool true]:=by kernel_rfl
 rw[e]at h;exact h
theorem J2:PCall TP 107 [.str ⟨#[98,32,56,48,32,56,48]⟩,.str ⟨#[32]⟩] (.slice 1 [.str ⟨#[98]⟩,.str ⟨#[56,48]⟩,.str ⟨#[56,48]⟩] false):=by
 have h:=oS [98,32,56,48,32,56,48] 32 (by decide);have e:nC (cL 32 [98,32,56,48,32,56,48])=.slice 1 [.str ⟨#[98]⟩,.str ⟨#[56,48]⟩,.str ⟨#[56,48]⟩] false:=by kernel_rfl
 rw[e]at h;exact h
theorem Nu:PCall TP 106 [.str ⟨#[99,32,54,48,32,50,48,32,97,32,52,48,10,100,32,53,48,32,49,48,32,108,111,115,116,10]⟩,.str ⟨#[10]⟩] (.tuple [.str ⟨#[99,32,54,48,32,50,48,32,97,32,52,48]⟩,.str ⟨#[100,32,53,48,32,49,48,32,108,111,115,116,10]⟩,.bool true]):=by
 have h:=tz [99,32,54,48,32,50,48,32,97,32,52,48,10,100,32,53,48,32,49,48,32,108,111,115,116,10] 10 (by decide);have e:(.tuple [.str (bs (bz 10 [99,32,54,48,32,50,48,32,97,32,52,48,10,100,32,53,48,32,49,48,32,108,111,115,116,10]).1),.str (bs ((bz 10 [99,32,54,48,32,50,48,32,97,32,52,48,10,100,32,53,48,32,49,48,32,108,111,115,116,10]).2.getD [])),.bool (bz 10 [99,32,54,48,32,50,48,32,97,32,52,48,10,100,32,53,48,32,49,48,32,108,111,115,116,10]).2.isSome]:PV)=.tuple [.str ⟨#[99,32,54,48,32,50,48,32,97,32,52,48]⟩,.str ⟨#[100,32,53,48,32,49,48,32,108,111,115,116,10]⟩,.bool true]:=by kernel_rfl
 rw[e]at h;exact h
theorem J1:PCall TP 107 [.str ⟨#[99,32,54,48,32,50,48,32,97,32,52,48]⟩,.str ⟨#[32]⟩] (.slice 1 [.str ⟨#[99]⟩,.str ⟨#[54,48]⟩,.str ⟨#[50,48]⟩,.str ⟨#[97]⟩,.str ⟨#[52,48]⟩] false):=by
 have h:=oS [99,32,54,48,32,50,48,32,97,32,52,48] 32 (by decide);have e:nC (cL 32 [99,32,54,48,32,50,48,32,97,32,52,48])=.slice 1 [.str ⟨#[99]⟩,.str ⟨#[54,48]⟩,.str ⟨#[50,48]⟩,.str ⟨#[97]⟩,.str ⟨#[52,48]⟩] false:=by kernel_rfl
 rw[e]at h;exact h
theorem Nt:PCall TP 106 [.str ⟨#[100,32,53,48,32,49,48,32,108,111,115,116,10]⟩,.str ⟨#[10]⟩] (.tuple [.str ⟨#[100,32,53,48,32,49,48,32,108,111,115,116]⟩,.str ⟨#[]⟩,.bool true]):=by
 have h:=tz [100,32,53,48,32,49,48,32,108,111,115,116,10] 10 (by decide);have e:(.tuple [.str (bs (bz 10 [100,32,53,48,32,49,48,32,108,111,115,116,10]).1),.str (bs ((bz 10 [100,32,53,48,32,49,48,32,108,111,115,116,10]).2.getD [])),.bool (bz 10 [100,32,53,48,32,49,48,32,108,111,115,116,10]).2.isSome]:PV)=.tuple [.str ⟨#[100,32,53,48,32,49,48,32,108,111,115,116]⟩,.str ⟨#[]⟩,.bool true]:=by kernel_rfl
 rw[e]at h;exact h
theorem J0:PCall TP 107 [.str ⟨#[100,32,53,48,32,49,48,32,108,111,115,116]⟩,.str ⟨#[32]⟩] (.slice 1 [.str ⟨#[100]⟩,.str ⟨#[53,48]⟩,.str ⟨#[49,48]⟩,.str ⟨#[108,111,115,116]⟩] false):=by
 have h:=oS [100,32,53,48,32,49,48,32,108,111,115,116] 32 (by decide);have e:nC (cL 32 [100,32,53,48,32,49,48,32,108,111,115,116])=.slice 1 [.str ⟨#[100]⟩,.str ⟨#[53,48]⟩,.str ⟨#[49,48]⟩,.str ⟨#[108,111,115,116]⟩] false:=by kernel_rfl
 rw[e]at h;exact h
theorem Db:PCall TP 109 [.str ⟨#[49,48,48]⟩] (.int .i64 100):=rh _ 100 (by decide) (by kernel_rfl) H9 (by kernel_rfl) (by decide)
theorem Gl:PCall TP 109 [.str ⟨#[56,48]⟩] (.int .i64 80):=rh _ 80 (by decide) (by kernel_rfl) i80 (by kernel_rfl) (by decide)
theorem LM:PCall TP 109 [.str ⟨#[54,48]⟩] (.int .i64 60):=rh _ 60 (by decide) (by kernel_rfl) NX (by kernel_rfl) (by decide)
theorem LP:PCall TP 109 [.str ⟨#[50,48]⟩] (.int .i64 20):=rh _ 20 (by decide) (by kernel_rfl) i20 (by kernel_rfl) (by decide)
theorem LO:PCall TP 109 [.str ⟨#[52,48]⟩] (.int .i64 40):=rh _ 40 (by decide) (by kernel_rfl) NZ (by kernel_rfl) (by decide)
theorem LN:PCall TP 109 [.str ⟨#[53,48]⟩] (.int .i64 50):=rh _ 50 (by decide) (by kernel_rfl) NY (by kernel_rfl) (by decide)
theorem LQ:PCall TP 109 [.str ⟨#[49,48]⟩] (.int .i64 10):=rh _ 10 (by decide) (by kernel_rfl) N0 (by kernel_rfl) (by decide)
theorem PP:((⟨#[97,32,49,48,48,32,49,48,48,10,98,32,56,48,32,56,48,10,99,32,54,48,32,50,48,32,97,32,52,48,10,100,32,53,48,32,49,48,32,108,111,115,116,10]⟩:ByteArray)==⟨#[]⟩)=false:=by kernel_rfl
theorem PO:((⟨#[98,32,56,48,32,56,48,10,99,32,54,48,32,50,48,32,97,32,52,48,10,100,32,53,48,32,49,48,32,108,111,115,116,10]⟩:ByteArray)==⟨#[]⟩)=false:=by kernel_rfl
theorem PN:((⟨#[99,32,54,48,32,50,48,32,97,32,52,48,10,100,32,53,48,32,49,48,32,108,111,115,116,10]⟩:ByteArray)==⟨#[]⟩)=false:=by kernel_rfl
theorem PM:((⟨#[100,32,53,48,32,49,48,32,108,111,115,116,10]⟩:ByteArray)==⟨#[]⟩)=false:=by kernel_rfl
theorem PK:((⟨#[]⟩:ByteArray)==⟨#[]⟩)=true:=by kernel_rfl
theorem ek:((⟨#[108,111,115,116]⟩:ByteArray)==⟨#[108,111,115,116]⟩)=true:=by kernel_rfl
theorem ej:((⟨#[97]⟩:ByteArray)==⟨#[108,111,115,116]⟩)=false:=by kernel_rfl
theorem cX:((⟨#[97]⟩:ByteArray)==⟨#[97]⟩)=true:=by kernel_rfl
theorem eF:((⟨#[97]⟩:ByteArray)==⟨#[98]⟩)=false:=by kernel_rfl
theorem eE:((⟨#[97]⟩:ByteArray)==⟨#[99]⟩)=false:=by kernel_rfl
theorem eD:((⟨#[97]⟩:ByteArray)==⟨#[100]⟩)=false:=by kernel_rfl
theorem eC:((⟨#[98]⟩:ByteArray)==⟨#[97]⟩)=false:=by kernel_rfl
theorem cW:((⟨#[98]⟩:ByteArray)==⟨#[98]⟩)=true:=by kernel_rfl
theorem eB:((⟨#[98]⟩:ByteArray)==⟨#[99]⟩)=false:=by kernel_rfl
theorem eA:((⟨#[98]⟩:ByteArray)==⟨#[100]⟩)=false:=by kernel_rfl
theorem ez:((⟨#[99]⟩:ByteArray)==⟨#[97]⟩)=false:=by kernel_rfl
theorem ey:((⟨#[99]⟩:ByteArray)==⟨#[98]⟩)=false:=by kernel_rfl
theorem cV:((⟨#[99]⟩:ByteArray)==⟨#[99]⟩)=true:=by kernel_rfl
theorem eu:((⟨#[99]⟩:ByteArray)==⟨#[100]⟩)=false:=by kernel_rfl
theorem et:((⟨#[100]⟩:ByteArray)==⟨#[97]⟩)=false:=by kernel_rfl
theorem er:((⟨#[100]⟩:ByteArray)==⟨#[98]⟩)=false:=by kernel_rfl
theorem ep:((⟨#[100]⟩:ByteArray)==⟨#[99]⟩)=false:=by kernel_rfl
theorem cU:((⟨#[100]⟩:ByteArray)==⟨#[100]⟩)=true:=by kernel_rfl
def d9:Hints:=je [(85,.app 77),(86,.low),(87,.low),(1088085,.sto),(5000001,.nop)]
theorem O':dv d9 Tryz.f48=true:=by kernel_rfl
theorem aP(h:Heap)(hl:h.length<1000):jp 1000000000 h=h.map λ_=>.dead:=by
 unfold jp;apply iv;intro i;rw[ua,bU];rcases aw i h.length with h1|h1
 .rw[aT h1];simp only[dy];rw[if_neg (by omega)]
 .rw[fq h1];rfl
theorem PCall.argPL{P}{f}{args args'}{v}(hc:PCall P f args v)(h:yr args' args):PCall P f args' v:=by
 intro M0 w cargs hM hg ha;obtain⟨h1,h2⟩:=h.get;refine hc M0 w cargs hM hg ⟨by rw[ha.1,h1],λi c hi=>?_⟩;obtain⟨q,hq⟩:∃q,args'[i]?=some q:=⟨_,aT (by rw[h1];exact(aA.1 hi).1)⟩
 exact(h2 i q c hq hi).rep (ha.2 i q hq)
def Bq:PV:=.slice 5 [.agg [.str ⟨#[97]⟩,.int .i64 100,.int .i64 100,.bool false,.nilslice],.agg [.str ⟨#[98]⟩,.int .i64 80,.int .i64 80,.bool false,.nilslice],
 .agg [.str ⟨#[99]⟩,.int .i64 60,.int .i64 20,.bool false,.slice 2 [.agg [.int .i64 0,.int .i64 40]] false],.agg [.str ⟨#[100]⟩,.int .i64 50,.int .i64 10,.bool true,.nilslice]] false
theorem G4:PL Bq (.slice 5 (oa.map TrBatch.pv) false):=
 PL.sliceL rfl ⟨PL.aggL rfl ⟨.refl _,.refl _,.refl _,.refl _,.nil 2,trivial⟩,PL.aggL rfl ⟨.refl _,.refl _,.refl _,.refl _,.nil 2,trivial⟩,.refl _,PL.aggL rfl ⟨.refl _,.refl _,.refl _,.refl _,.nil 2,trivial⟩,trivial⟩
theorem MV:PL (.tuple [Bq,.int .i64 0]) (.tuple [.slice 5 (oa.map TrBatch.pv) false,.int .i64 0]):=PL.tupleL ⟨G4,.refl _,trivial⟩
theorem Pf:PCall TP 100 [Bq] (.tuple [.int .i64 0,.int .i64 0,.int .i64 0]):=PCall.argPL (xh oa false L' NV) ⟨G4,trivial⟩
theorem Gi{rs:List ResultVar}{R:AEnd->Heap->Prop}{T:Nat->AV}{i j:Nat}{h:Heap}(hk:dt TP rs R T [] .ret h):dt TP rs R T [.fn 105 [.ptr i 1 0 0,.ptr j 1 0 0]] .ret h:=by
 rw[HY];refine Pj.mono λr u h' hr=>?_;obtain⟨rfl,rfl,rfl⟩:=hr;exact hk
theorem Ns:PCall TP 48 [.str ⟨#[97,32,49,48,48,32,49,48,48,10,98,32,56,48,32,56,48,10,99,32,54,48,32,50,48,32,97,32,52,48,10,100,32,53,48,32,49,48,32,108,111,115,116,10]⟩] (.tuple [.slice 5 (oa.map TrBatch.pv) false,.int .i64 0]):=by
 refine So.PCall.lss (q:=.tuple [Bq,.int .i64 0]) ?_ (λ_ _ _ hr=>PL.rep MV hr);refine cm (ku (by kernel_rfl) rfl O') rfl ?_;have r1:(1:Nat)<=ai:=by simp[ai]
 have r2:(2:Nat)<=ai:=by simp[ai]
 have r3:(3:Nat)<=ai:=by simp[ai]
 have r4:(4:Nat)<=ai:=by simp[ai]
 simp only[d9,af,aP,r1,r2,r3,r4,ek,ej,cX,eF,eE,eD,eC,cW,eB,eA,ez,ey,cV,eu,et,er,ep,cU,go_sem,simprocAttr];refine aE ?_;simp only[d9,af,aP,PP,r1,r2,r3,r4,ek,ej,cX,eF,eE,eD,eC,cW,eB,eA,ez,ey,cV,eu,et,er,ep,cU,go_sem,simprocAttr];refine aa Nw rfl ?_;simp only[d9,af,aP,r1,r2,r3,r4,ek,ej,cX,eF,eE,eD,eC,cW,eB,eA,ez,ey,cV,eu,et,er,ep,cU,go_sem,simprocAttr];refine aa J3 rfl ?_;simp only[d9,af,aP,r1,r2,r3,r4,ek,ej,cX,eF,eE,eD,eC,cW,eB,eA,ez,ey,cV,eu,et,er,ep,cU,go_sem,simprocAttr];refine aa jw rfl ?_;simp only[d9,af,aP,r1,r2,r3,r4,ek,ej,cX,eF,eE,eD,eC,cW,eB,eA,ez,ey,cV,eu,et,er,ep,cU,go_sem,simprocAttr];refine ao Db rfl ?_;simp only[d9,af,aP,r1,r2,r3,r4,ek,ej,cX,eF,eE,eD,eC,cW,eB,eA,ez,ey,cV,eu,et,er,ep,cU,go_sem,simprocAttr];refine ao Db rfl ?_;simp only[d9,af,aP,r1,r2,r3,r4,ek,ej,cX,eF,eE,eD,eC,cW,eB,eA,ez,ey,cV,eu,et,er,ep,cU,go_sem,simprocAttr];refine aa jw rfl ?_;simp only[d9,af,aP,r1,r2,r3,r4,ek,ej,cX,eF,eE,eD,eC,cW,eB,eA,ez,ey,cV,eu,et,er,ep,cU,go_sem,simprocAttr];refine aE ?_;simp only[d9,af,aP,r1,r2,r3,r4,ek,ej,cX,eF,eE,eD,eC,cW,eB,eA,ez,ey,cV,eu,et,er,ep,cU,go_sem,simprocAttr];refine aE ?_;simp only[d9,af,aP,PO,r1,r2,r3,r4,ek,ej,cX,eF,eE,eD,eC,cW,eB,eA,ez,ey,cV,eu,et,er,ep,cU,go_sem,simprocAttr];refine aa Nv rfl ?_;simp only[d9,af,aP,r1,r2,r3,r4,ek,ej,cX,eF,eE,eD,eC,cW,eB,eA,ez,ey,cV,eu,et,er,ep,cU,go_sem,simprocAttr];refine aa J2 rfl ?_;simp only[d9,af,aP,r1,r2,r3,r4,ek,ej,cX,eF,eE,eD,eC,cW,eB,eA,ez,ey,cV,eu,et,er,ep,cU,go_sem,simprocAttr];refine aa jw rfl ?_;simp only[d9,af,aP,r1,r2,r3,r4,ek,ej,cX,eF,eE,eD,eC,cW,eB,eA,ez,ey,cV,eu,et,er,ep,cU,go_sem,simprocAttr];refine ao Gl rfl ?_;simp only[d9,af,aP,r1,r2,r3,r4,ek,ej,cX,eF,eE,eD,eC,cW,eB,eA,ez,ey,cV,eu,et,er,ep,cU,go_sem,simprocAttr];refine ao Gl rfl ?_;simp only[d9,af,aP,r1,r2,r3,r4,ek,ej,cX,eF,eE,eD,eC,cW,eB,eA,ez,ey,cV,eu,et,er,ep,cU,go_sem,simprocAttr];refine aa jw rfl ?_;simp only[d9,af,aP,r1,r2,r3,r4,ek,ej,cX,eF,eE,eD,eC,cW,eB,eA,ez,ey,cV,eu,et,er,ep,cU,go_sem,simprocAttr];refine aE ?_;simp only[d9,af,aP,r1,r2,r3,r4,ek,ej,cX,eF,eE,eD,eC,cW,eB,eA,ez,ey,cV,eu,et,er,ep,cU,go_sem,simprocAttr];refine aE ?_;simp only[d9,af,aP,PN,r1,r2,r3,r4,ek,ej,cX,eF,eE,eD,eC,cW,eB,eA,ez,ey,cV,eu,et,er,ep,cU,go_sem,simprocAttr];refine aa Nu rfl ?_;simp only[d9,af,aP,r1,r2,r3,r4,ek,ej,cX,eF,eE,eD,eC,cW,eB,eA,ez,ey,cV,eu,et,er,ep,cU,go_sem,simprocAttr];refine aa J1 rfl ?_;simp only[d9,af,aP,r1,r2,r3,r4,ek,ej,cX,eF,eE,eD,eC,cW,eB,eA,ez,ey,cV,eu,et,er,ep,cU,go_sem,simprocAttr];refine aa jw rfl ?_;simp only[d9,af,aP,r1,r2,r3,r4,ek,ej,cX,eF,eE,eD,eC,cW,eB,eA,ez,ey,cV,eu,et,er,ep,cU,go_sem,simprocAttr];refine ao LM rfl ?_;simp only[d9,af,aP,r1,r2,r3,r4,ek,ej,cX,eF,eE,eD,eC,cW,eB,eA,ez,ey,cV,eu,et,er,ep,cU,go_sem,simprocAttr];refine ao LP rfl ?_;simp only[d9,af,aP,r1,r2,r3,r4,ek,ej,cX,eF,eE,eD,eC,cW,eB,eA,ez,ey,cV,eu,et,er,ep,cU,go_sem,simprocAttr];refine aa jw rfl ?_;simp only[d9,af,aP,r1,r2,r3,r4,ek,ej,cX,eF,eE,eD,eC,cW,eB,eA,ez,ey,cV,eu,et,er,ep,cU,go_sem,simprocAttr];refine aE ?_;simp only[d9,af,aP,r1,r2,r3,r4,ek,ej,cX,eF,eE,eD,eC,cW,eB,eA,ez,ey,cV,eu,et,er,ep,cU,go_sem,simprocAttr];refine aa jw rfl ?_;simp only[d9,af,aP,r1,r2,r3,r4,ek,ej,cX,eF,eE,eD,eC,cW,eB,eA,ez,ey,cV,eu,et,er,ep,cU,go_sem,simprocAttr];refine ao LO rfl ?_;simp only[d9,af,aP,r1,r2,r3,r4,ek,ej,cX,eF,eE,eD,eC,cW,eB,eA,ez,ey,cV,eu,et,er,ep,cU,go_sem,simprocAttr];refine⟨.inl ⟨[_],rfl⟩,?_⟩;refine aE ?_;simp only[d9,af,aP,r1,r2,r3,r4,ek,ej,cX,eF,eE,eD,eC,cW,eB,eA,ez,ey,cV,eu,et,er,ep,cU,go_sem,simprocAttr];refine aE ?_;simp only[d9,af,aP,PM,r1,r2,r3,r4,ek,ej,cX,eF,eE,eD,eC,cW,eB,eA,ez,ey,cV,eu,et,er,ep,cU,go_sem,simprocAttr];refine aa Nt rfl ?_;simp only[d9,af,aP,r1,r2,r3,r4,ek,ej,cX,eF,eE,eD,eC,cW,eB,eA,ez,ey,cV,eu,et,er,ep,cU,go_sem,simprocAttr];refine aa J0 rfl ?_;simp only[d9,af,aP,r1,r2,r3,r4,ek,ej,cX,eF,eE,eD,eC,cW,eB,eA,ez,ey,cV,eu,et,er,ep,cU,go_sem,simprocAttr];refine aa jw rfl ?_;simp only[d9,af,aP,r1,r2,r3,r4,ek,ej,cX,eF,eE,eD,eC,cW,eB,eA,ez,ey,cV,eu,et,er,ep,cU,go_sem,simprocAttr];refine ao LN rfl ?_;simp only[d9,af,aP,r1,r2,r3,r4,ek,ej,cX,eF,eE,eD,eC,cW,eB,eA,ez,ey,cV,eu,et,er,ep,cU,go_sem,simprocAttr];refine ao LQ rfl ?_;simp only[d9,af,aP,r1,r2,r3,r4,ek,ej,cX,eF,eE,eD,eC,cW,eB,eA,ez,ey,cV,eu,et,er,ep,cU,go_sem,simprocAttr];refine aa jw rfl ?_;simp only[d9,af,aP,r1,r2,r3,r4,ek,ej,cX,eF,eE,eD,eC,cW,eB,eA,ez,ey,cV,eu,et,er,ep,cU,go_sem,simprocAttr];refine aE ?_;simp only[d9,af,aP,r1,r2,r3,r4,ek,ej,cX,eF,eE,eD,eC,cW,eB,eA,ez,ey,cV,eu,et,er,ep,cU,go_sem,simprocAttr];refine aE ?_;simp only[d9,af,aP,PK,r1,r2,r3,r4,ek,ej,cX,eF,eE,eD,eC,cW,eB,eA,ez,ey,cV,eu,et,er,ep,cU,go_sem,simprocAttr];refine dX Pf ?_ (.tuple (Flat.cons (.int _ _) (Flat.cons (.int _ _) (Flat.cons (.int _ _) Flat.nil)))) ?_
 .simp only[Bq,go_sem,simprocAttr]
 simp only[d9,af,aP,r1,r2,r3,r4,ek,ej,cX,eF,eE,eD,eC,cW,eB,eA,ez,ey,cV,eu,et,er,ep,cU,go_sem,simprocAttr];refine aa jw rfl ?_;simp only[d9,af,aP,r1,r2,r3,r4,ek,ej,cX,eF,eE,eD,eC,cW,eB,eA,ez,ey,cV,eu,et,er,ep,cU,go_sem,simprocAttr];refine Gi ?_;simp only[go_sem,simprocAttr];rfl
end Tr
end Abs
end Go.Proofs.YtmndpldajflenaaGreatDoor
