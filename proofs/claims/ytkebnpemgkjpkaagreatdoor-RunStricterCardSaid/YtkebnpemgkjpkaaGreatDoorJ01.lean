import Derived.Deep.AppendLies
import Derived.Lib.Hide
import Derived.Deep.AppendLies
import Derived.Deep.RegionHeld3
import Derived.WalkSpells
import Derived.WalkLawsBesides
import Derived.Shelf.Strings.Builder1
import Derived.Shelf.LaysM
import Derived.Shelf.Slices.Turned
import Derived.Test.YtkebnpemgkjpkaaGreatDoorRows
set_option maxRecDepth 100000
set_option maxHeartbeats 20000000
set_option linter.all false
namespace Go.RowKit
theorem Hid.o{p:Prop}(h:Hid p):p:=h
end Go.RowKit
namespace Go.Proofs.YtkebnpemgkjpkaaGreatDoor
open Go Go.RowKit Go.Proofs.Tryz Tryz
theorem ds{a b c:Prop}(m:a)(n:b)(o:c):RowKit.Hid a/\RowKit.Hid b/\RowKit.Hid c:=⟨m,n,o⟩
theorem en{a b c d:Prop}(m:a)(n:b)(o:c)(p:d):RowKit.Hid a/\RowKit.Hid b/\RowKit.Hid c/\RowKit.Hid d:=⟨m,n,o,p⟩
theorem gp{a b c d e:Prop}(m:a)(n:b)(o:c)(p:d)(q:e):RowKit.Hid a/\RowKit.Hid b/\RowKit.Hid c/\RowKit.Hid d/\RowKit.Hid e:=⟨m,n,o,p,q⟩
theorem gq{a b c d e f:Prop}(m:a)(n:b)(o:c)(p:d)(q:e)(r:f):RowKit.Hid a/\RowKit.Hid b/\RowKit.Hid c/\RowKit.Hid d/\RowKit.Hid e/\RowKit.Hid f:=⟨m,n,o,p,q,r⟩
theorem gw{a b c d e f g:Prop}(m:a)(n:b)(o:c)(p:d)(q:e)(r:f)(s:g):RowKit.Hid a/\RowKit.Hid b/\RowKit.Hid c/\RowKit.Hid d/\RowKit.Hid e/\RowKit.Hid f/\RowKit.Hid g:=⟨m,n,o,p,q,r,s⟩
theorem kw{a b c d e f g h:Prop}(m:a)(n:b)(o:c)(p:d)(q:e)(r:f)(s:g)(t:h):RowKit.Hid a/\RowKit.Hid b/\RowKit.Hid c/\RowKit.Hid d/\RowKit.Hid e/\RowKit.Hid f/\RowKit.Hid g/\RowKit.Hid h:=⟨m,n,o,p,q,r,s,t⟩
theorem ld{a b c d e f g h i:Prop}(m:a)(n:b)(o:c)(p:d)(q:e)(r:f)(s:g)(t:h)(u:i):RowKit.Hid a/\RowKit.Hid b/\RowKit.Hid c/\RowKit.Hid d/\RowKit.Hid e/\RowKit.Hid f/\RowKit.Hid g/\RowKit.Hid h/\RowKit.Hid i:=⟨m,n,o,p,q,r,s,t,u⟩
theorem lB{a b c d e f g h i j:Prop}(m:a)(n:b)(o:c)(p:d)(q:e)(r:f)(s:g)(t:h)(u:i)(v:j):RowKit.Hid a/\RowKit.Hid b/\RowKit.Hid c/\RowKit.Hid d/\RowKit.Hid e/\RowKit.Hid f/\RowKit.Hid g/\RowKit.Hid h/\RowKit.Hid i/\RowKit.Hid j:=⟨m,n,o,p,q,r,s,t,u,v⟩
theorem nG{a b c d e f g h i j k:Prop}(m:a)(n:b)(o:c)(p:d)(q:e)(r:f)(s:g)(t:h)(u:i)(v:j)(w:k):RowKit.Hid a/\RowKit.Hid b/\RowKit.Hid c/\RowKit.Hid d/\RowKit.Hid e/\RowKit.Hid f/\RowKit.Hid g/\RowKit.Hid h/\RowKit.Hid i/\RowKit.Hid j/\RowKit.Hid k:=⟨m,n,o,p,q,r,s,t,u,v,w⟩
theorem oh{a b c d e f g h i j k l:Prop}(m:a)(n:b)(o:c)(p:d)(q:e)(r:f)(s:g)(t:h)(u:i)(v:j)(w:k)(x:l):RowKit.Hid a/\RowKit.Hid b/\RowKit.Hid c/\RowKit.Hid d/\RowKit.Hid e/\RowKit.Hid f/\RowKit.Hid g/\RowKit.Hid h/\RowKit.Hid i/\RowKit.Hid j/\RowKit.Hid k/\RowKit.Hid l:=⟨m,n,o,p,q,r,s,t,u,v,w,x⟩
section
variable{P G:Prop}(h:P)
def Px(i:G:=by omega):G:=i
def Py(i:G:=by decide):G:=i
def Pz(i:G:=by kernel_rfl):G:=i
def PA(i:G:=by unfold maxLen;omega):G:=i
def PB(i:G:=by simp;omega):G:=i
def PC(i:G:=by simp[vC,World.cell?,ac]):G:=i
def PD(i:G:=by simp only[Job.rank]at *;omega):G:=i
def PE(i:G:=by simp):G:=i
def PF(i:G:=by first|omega|(simp;omega)):G:=i
def PG(i:G:=by simp only[Job.least]at *;omega):G:=i
def PH(i:G:=by intro u hu;simp at hu;subst hu;rfl):G:=i
def PI(i:G:=by simp[lR]):G:=i
def PJ(i:G:=by intro e;cases e):G:=i
def PK(i:G:=by simp only[Job.rank,Job.least]at *;omega):G:=i
def PM(i:G:=by rfl):G:=i
def PN(i:G:=by simp;have:=jz.o.size;have:=HP.o.le;omega):G:=i
def PO(i:G:=by simp[ATree.ptr,Value.oneCell']):G:=i
def PP(i:G:=by rw[<-HQ1.o];exact bX):G:=i
def PS(i:G:=by simp only[Job.base];omega):G:=i
def PT(i:G:=by rw[g1];simp):G:=i
def PU(i:G:=by rw[<-HN.o];exact bX):G:=i
def PV(i:G:=by rw[aF];exact(Inv.turn (k:=s.steps+1) (c:=s.calls) (v:=s.last) hI (by omega) (by omega) hI.calls hI.last (by omega)).1):G:=i
def PW(i:G:=by rw[hv];rfl):G:=i
def PY(i:G:=by have:=G2.at'.blkOf;simp only[ATree.b,ATree.v,ATree.kind,ATree.text,ATree.n]at this;simp[vC,World.cell?,this]):G:=i
def PZ(i:G:=by simp[Tok.cells,Value.oneCell']):G:=i
def P8(i:G:=by rw[Z6];exact hk):G:=i
def P9(i:G:=by rw[hx];simp):G:=i
def P'(i:G:=by have:=Z6m (ts:=ts) (by omega);simp only[Job.least]at *;omega):G:=i
def Qa(i:G:=by simp <;>omega):G:=i
def Qb(i:G:=by simp[World.setCell]):G:=i
def Qc(i:G:=by simp only[Value.ownBlock,Option.some.injEq]at eO;omega):G:=i
def Qd(i:G:=by assumption):G:=i
def Qe(i:G:=by rw[co];simp):G:=i
def Qf(i:G:=by have:=SP (n:=a.nt C.N);rw[Zu,AC,Ym]at this;omega):G:=i
def Qg(i:G:=by simp[World.frozen?,ac]):G:=i
def Qh(i:G:=by rw[<-HC.o];omega):G:=i
def Qi(i:G:=by simp only[Job.base]at *;omega):G:=i
def Qj(i:G:=by rw[cE.o];unfold MSt.bindTo;rw[Y3 (qD.o▸fZ)]):G:=i
def Qk(i:G:=by simpa using h):G:=i
def Ql(i:G:=by rw[dD];exact(Y2 _ _).alloc (Y0 _) _):G:=i
def Qm(i:G:=by rw[<-HN.o];exact Y0 _):G:=i
def Qn(i:G:=by simp[Job.least]):G:=i
def Qo(i:G:=by rw[hP];exact Y4 (List.length_filter_le _ _) hn):G:=i
def Qp(i:G:=by rw[ho];simp):G:=i
def Qq(i:G:=by simp;have:=F3.o.size;have:=HP.o.le;omega):G:=i
def Qr(i:G:=by rw[<-HQ1.o];exact Nat.le_refl _):G:=i
def Qs(i:G:=by show w.heap.size+1<_;exact mO):G:=i
def Qt(i:G:=by have:=Zm h;simp only[Job.least]at *;omega):G:=i
def Qu(i:G:=by have:=fm.o;have:=HL.o;omega):G:=i
def Qv(i:G:=by rw[Zu,AC];exact List.mem_map.2 ⟨x,hx,rfl⟩):G:=i
def Qw(i:G:=by rw[List.drop_zero];exact sj.o):G:=i
def Qx(i:G:=by rw[<-HQ1.o];exact Y0 _):G:=i
def Qy(i:G:=by rintro rfl;rw[h.rhp]at hr;exact n1 (Option.some.inj hr).symm):G:=i
def Qz(i:G:=by have:=j2.steps;omega):G:=i
def QA(i:G:=by rcases List.mem_cons.1 h with h|h;exact absurd h e;exact h):G:=i
def QB(i:G:=by show World.cell? _ _=_;go_simp):G:=i
def QD(i:G:=by simp[vC,World.cell?,gO]):G:=i
def QE(i:G:=by rw[co];rfl):G:=i
def QF(i:G:=by rw[hk];simp):G:=i
def QG(i:G:=by simp[vC,World.cell?,hI.cell]):G:=i
def QH(i:G:=by rw[<-HQ.o];exact bX):G:=i
def QI(i:G:=by simp[World.frozen?,gO]):G:=i
def QJ(i:G:=by have:=HN.o;omega):G:=i
def QK(i:G:=by rw[HV.o];rfl):G:=i
def QL(i:G:=by rw[am];exact HMk.o):G:=i
def QM(i:G:=by simp[ATree.blocks,hx]):G:=i
def QN(i:G:=by simp[World.frozen?,q]):G:=i
def QO(i:G:=by intro e;injection e with e1;omega):G:=i
def QP(i:G:=by unfold maxLen at fQ;omega):G:=i
def QQ(i:G:=by simp only[n]at cJ;omega):G:=i
def QR(i:G:=by rw[h.kids];simp):G:=i
def QS(i:G:=by simp[vC,World.cell?,hb0]):G:=i
def QT(i:G:=by rw[<-HQ.o];exact Y0 _):G:=i
def QU(i:G:=by rcases hk with⟨h1,-⟩|h1<;>simp[Zu,Zb,h1,FA]):G:=i
def QV(i:G:=by simp[hr]):G:=i
def QW(i:G:=by rw[List.drop_zero];exact HS.o):G:=i
def QX(i:G:=by simpa using aZ):G:=i
def QY(i:G:=by rw[Z6];omega):G:=i
def QZ(i:G:=by rw[Za7];simp[Tree.kids,wD,Ey,Tree.many,qc]):G:=i
def Q0(i:G:=by rw[<-HS.o];exact D3.o.symm):G:=i
def Q2(i:G:=by rw[<-List.flatMap_append,List.take_append_drop]):G:=i
def Q3(i:G:=by have:=HP.o.deep;omega):G:=i
def Q4(i:G:=by simp[vC,World.cell?,ah]):G:=i
def Q5(i:G:=by have h:=HQ.o;rw[Y3 (by omega)]at h;exact h):G:=i
def Q6(i:G:=by simp[vC,World.cell?,q]):G:=i
def Q7(i:G:=by rw[Zu,AC];exact List.mem_map.2 ⟨y,hy,rfl⟩):G:=i
def Q8(i:G:=by rw[ZL hf,List.length_take];congr 1;omega):G:=i
def Q9(i:G:=by simp only[List.length_set];rw[hf];omega):G:=i
def Ra(i:G:=by simpa using hk):G:=i
def Rb(i:G:=by simpa using h4):G:=i
def Rc(i:G:=by rw[List.length_cons];omega):G:=i
def Re(i:G:=by rw[hk];rfl):G:=i
def Rf(i:G:=by rw[hf,Nat.succ_mul];omega):G:=i
def Rg(i:G:=by simp[vC,World.cell?,h.blk]):G:=i
def Rh(i:G:=by rw[<-kO.o];exact K1.o):G:=i
def Ri(i:G:=by simp only[Job.base,y9,Z5g]at *;omega):G:=i
def Rj(i:G:=by simp only[Job.base,y9,UR]at *;omega):G:=i
def Rk(i:G:=by rw[hnO,cF];exact(by rw[yh.o];rfl)):G:=i
def Rl(i:G:=by rw[hP];exact List.length_filter_le _ _):G:=i
def Rm(i:G:=by rw[Zk text (by omega) s2,Nat.add_zero]):G:=i
def Rn(i:G:=by simp[MSt.object,MSt.setH]):G:=i
def Ro(i:G:=by simp[ATree.blocks]):G:=i
def Rp(i:G:=by rw[kq];exact(Y2 _ _).alloc (Y0 _) _):G:=i
def Rq(i:G:=by rw[Yg,hx];rfl):G:=i
def Rr(i:G:=by have :=bW.o;have :=kP.o;omega):G:=i
def Rs(i:G:=by rw[cF,ik.o.clos];simp[CloR.clo]):G:=i
def Rt(i:G:=by simp[vC,World.cell?,pd]):G:=i
def Ru(i:G:=by rw[Z5u h (by simpa using hb)];simp):G:=i
def Rv(i:G:=by simp only[Job.base,UR]at *;omega):G:=i
def Rw(i:G:=by rw[jw,uH.o];exact hA):G:=i
def Rx(i:G:=by rw[co];simp[hy]):G:=i
def Ry(i:G:=by simp[vC,World.cell?,wH]):G:=i
def Rz(i:G:=by rw[Z6,Zb];omega):G:=i
def RB(i:G:=by rw[<-bT.o];exact bX):G:=i
def RC(i:G:=by have:=HP.o.few;omega):G:=i
def RD(i:G:=by rw[h0]at hr;cases hr):G:=i
def RE(i:G:=by rw[<-HN.o];exact Nat.le_refl _):G:=i
def RF(i:G:=by rw[<-Nat.add_mul];congr 1;omega):G:=i
def RG(i:G:=by simp[Value.oneCell']):G:=i
def RH(i:G:=by simp[hx]):G:=i
def RI(i:G:=by simp[h.rhp]):G:=i
def RJ(i:G:=by rw[hR,ei];rfl):G:=i
def RN(i:G:=by rw[aU];rfl):G:=i
def RO(i:G:=by have:=HQ1.o;omega):G:=i
def RQ(i:G:=by have:=HQ.o;omega):G:=i
def RT(i:G:=by simpa using h5):G:=i
def RU(i:G:=by simpa using h2):G:=i
def RV(i:G:=by simpa using h3):G:=i
def RW(i:G:=by rw[jb];simp):G:=i
def RX(i:G:=by rw[qs];simp):G:=i
def RY(i:G:=by rw[cY];exact hA):G:=i
def RZ(i:G:=by rwa[Nat.one_mul]):G:=i
def R7(i:G:=by have:=a.lo;omega):G:=i
def R8(i:G:=by rw[<-hc];omega):G:=i
def R9(i:G:=by rw[jb];rfl):G:=i
def R'(i:G:=by simp[hl]):G:=i
def Sa(i:G:=by simp[k1]):G:=i
def Sb(i:G:=by simp[hy]):G:=i
def Sc(i:G:=by simp[h1]):G:=i
def Sd(i:G:=by simp[TT]):G:=i
end
abbrev kC:=Calls Tryz.prog
abbrev kB:=ByteArray
abbrev kV:=World
abbrev kW(w:World):=Below w.heap.size w
@[match_pattern,reducible] def vI(n:Int):Value:=.int .i64 n
@[match_pattern,reducible] def vP(b:Nat):Value:=.pointer (some ⟨b,0,none⟩)
abbrev vC(W:kV)(b i:Nat)(v:Value):Prop:=W.cell? ⟨b,i,none⟩=some v
section
variable{P G:Prop}(h:P)
def tr0(i:G:=by
 have am:R=r1:=by
  rw[hR,bz];unfold BF;rw[Zb,hk];rfl
 rw[<-aF]at gX;have hC1:=Calls.dres (gX zv M oL.o (aI.bel nR.o) bu);rw[<-bz]at hC1;have bE:=lh hC1;have df:decide (0<q)=true\/decide (0<q)=false:=by cases decide (0<q)<;>simp
 clear hz aC aY cw aD aW eG aI bu dh di dj lf lr ln ha hf h hI aF eA eQ dM cg bU ej cU c3 c0 hq hR gX hC1 bz;subst am;rw[hk]at d0;clear hk;unfold ATree.ptr;rcases df with fN|fN
 all_goals
  go_enter func46,ntmps46
  go_wp2_with fail
  rw[<-lS.o];clear f5 y5 g5 d3 d0 d1 f0 f1;refine bE.o.mono ?_;rintro e W3⟨M3,b3,k3,n3,t3,fg,rfl,bj⟩;have HB3:=lh bj;have bK:=lh (lT.o.trans bj.2.1);clear bj;simp only[ag];refine Xw ?_;intro q0 q1 q2 z0 z1 z2;obtain⟨s3,q3⟩:=R;cases q3 with
  |error x3=>
    refine Zvu ?_;intro iN;go_wp2;refine bodyPost_ret (v:=.tuple #[.bool b3,.agg #[vI k3,vI n3,.string t3],fg]) ?_ rfl ?_;·exact yC
    .exact AaM
  |ok v3=>
    obtain⟨rfl,rfl⟩:v3=(b3,⟨k3,n3,t3⟩)/\fg=.nilIface:=HB3.o.2.2;go_wp2;refine bodyPost_ret (v:=.tuple #[.bool b3,.agg #[vI k3,vI n3,.string t3],.nilIface]) ?_ rfl ?_;·exact yC
    .exact AbZ):G:=i
def tr1(i:G:=by
 cases q3 with
 |error x3=>
   refine Zvu ?_;intro iN;go_wp2;refine bodyPost_ret (v:=.tuple #[.agg #[vI k3,vI n3,.string t3],fg]) ?_ rfl ?_;·exact rp
   .exact AaM
 |ok v3=>
   obtain⟨rfl,rfl⟩:v3=⟨k3,n3,t3⟩/\fg=.nilIface:=HB3.o.2.2;go_wp2;refine bodyPost_ret (v:=.tuple #[.agg #[vI k3,vI n3,.string t3],.nilIface]) ?_ rfl ?_;·exact rp
   .exact AbZ):G:=i
def tr2(i:G:=by
 have hst:=Zsh jv.o.drew sc a.text ⟨k1,n1,t1⟩;simp only[LVal.agg]at hst;have uC:=lh hst;clear hst;refine AbR ?_;intro HS20;go_wp2_with fail
 refine Adc ?_;intro bq;go_wp2_with fail
 refine uC.o.mono ?_;rintro e W2⟨rfl,M2,aM,ap⟩;have bR:=lh aM;have ba:=lh (dZ.o.trans ((MFr.drew (.refl M1 W1)).trans ap));clear aM ap q0 q1 q2 z0 z1 z2 m0 m1 m2 f0 f1 d0 d1 d3 nS b0 b1 Dl;refine UK ?_;intro m0 m1 m2 q0 q1 q2 z0 z1 z2;have am:R=(s2.setH (s2.H.start sc a.text ⟨k1,n1,t1⟩).1,.ok (false,⟨0,0,⟨#[]⟩⟩)):=HR.o;clear HR;subst am;go_wp2_with fail
 exact tq8):G:=i
def tr3(i:G:=by
 refine Aaf ?_;intro s4 iT hob nO hnO;have hnO2:nO=s.nextO:=Rk
 rw[<-hnO]at hob;refine tm6 ?_;clear aM ap fV hg ae kA e9 r9 s8 te kD kE kF HG HW iU kG hob hnO hnO2 qN iT cF bu lU;intro kS H2 ba nT HSs4 HSs3 HNO2 hm4;apply Zt3 (H:=Sy C w M2 w4 s4 nO);·exact tq1
 .exact tq0
 refine YJ ?_;clear s9 hm4;intro W6 p6 M6 u0 u1 q0 q1 q2 z0 z1 z2 p0 p1 p2 kH mi;have HMX:=lh kH.o.1;have oM:=mi;rw[lV]at u0;rw[bc]at u1;exact AaK):G:=i
def tr4(i:G:=by
 have he:ax C M1 W1 x1 bL:=qO.o;have am:R=(s2,.error x1):=HR.o;clear HR;subst am;obtain⟨T1,P1,rfl,hP⟩:=he.ne;have ed:=lh he;clear he;obtain⟨m0,m1,m2,-,-,-⟩:=(bM.o.fr dZ.o).six;obtain⟨q0,q1,q2,z0,z1,z2⟩:=(HLR.o.fr dZ.o).six;go_wp2_with fail
 refine tm8 ?_;go_wp2;refine bodyPost_ret (v:=.tuple #[.bool false,.agg #[vI 0,vI 0,.string ⟨#[]⟩],.iface T1 (.pointer P1)]) ?_ rfl ?_;·exact yC
 .exact AbK):G:=i
def tr5(i:G:=by
 refine Aaf ?_;intro s4 iT hob nO hnO;have hnO2:nO=s.nextO:=Rk
 rw[<-hnO]at hob;refine tm6 ?_;clear aM ap fV hg ae kA e9 r9 s8 te kD kE kF HG HW iU kG hob hnO hnO2 qN iT cF bu lU;intro kS H2 ba nT HSs4 HSs3 HNO2 hm4;apply Zt3 (H:=Sy C w M2 w4 s4 nO);·exact tq1
 .exact tq0
 refine YJ ?_;clear s9 hm4;intro W6 p6 M6 u0 u1 q0 q1 q2 z0 z1 z2 p0 p1 p2 kH mi;have HMX:=lh kH.o.1;have oM:=mi;exact AaK):G:=i
def tr6(i:G:=by
 have ct:=lh an;clear aB aS bS bY an;refine Z0 ?_;go_wp2;go_roundw
 case rel=>
  refine⟨g,aj++[t],vs,.slice (some ⟨gg,0,none⟩) (kids.length+1) cap,kids++[a],by omega,eY.o,?_,ct.o.2.2,ct.o.2.1,by simp,by have:=HL.o;have:=H8.o;simp;omega,by have:=fO.o;simp only[Job.least]at this;have:=PQ.o.2;omega⟩;have h1:=ct.o.1;have h2:=GQ.o.tree;exact Wp
 case measure=>
  exact AcJ):G:=i
def tr7(i:G:=by
 have ct:=lh an;clear aB aS bS bY an;refine Z0 ?_;go_wp2;go_roundw
 case rel=>
  refine⟨g,aj++[t],vs,.slice (some ⟨gg,0,none⟩) (kids.length+1) cap,kids++[a],by omega,nf.o,?_,ct.o.2.2,ct.o.2.1,by simp;omega,λx hx=>?_⟩
  .have h1:=ct.o.1;have h2:=G2.o.tree;exact Wp
  .exact Aa1
 case measure=>
  rw[ct.o.2.2.left,RL.o];exact dr):G:=i
def tr8(i:G:=by
 unfold ATree.ptr at cQ;refine AbN ?_;intro dN HX bU;clear hx eB ae gm k1 k2 k3 aT cQ;go_wp2_with fail
 refine dN.o.mono ?_;rintro e w2⟨rfl,xd⟩;have oN:=lh xd;clear xd dN;go_wp2;go_roundw
 case rel=>exact⟨k+1,by omega,by go_num,lh (by rw[Z31 HX.o,Zcv];exact oN.o)⟩
 case measure=>simp[intOf];omega):G:=i
def tr9(i:G:=by
 refine Aaf ?_;intro s4 iT hob nO hnO;have hnO2:nO=s.nextO:=by rw[hnO,cF];exact yi.o
 rw[<-hnO]at hob;refine tm6 ?_;clear aM ap fV hg ae kA e9 r9 s8 te kD kE kF HG HW iU kG hob hnO hnO2 qN iT cF bu lU;intro kS H2 ba nT HSs4 HSs3 HNO2 hm4;apply Zt3 (H:=Sy C w M2 w4 s4 nO);·exact tq1
 .exact tq0
 exact Ac5):G:=i
def Abk(i:G:=by
 refine f8 ?_;intro K hK;refine Zxv ?_;clear hK K q0 q1 q2 z0 z1 z2 m0 m1 m2;intro W3 M3 b3 k3 n3 t3 fg HB3 bK;refine B' ?_;refine Xw ?_;intro q0 q1 q2 z0 z1 z2;obtain⟨r3,de⟩:∃r3,r3=D (y.nt C.N) sc fr s2:=⟨_,rfl⟩
 rw[<-de]at HB3;have am:R=r3:=by rw[HR.o,de]
 clear HR de;subst am;exact Aai):G:=i
def Aaz(i:G:=by
 have am:R=(s2,.ok ⟨k1,n1,t1⟩):=by have:=bA.o;simpa using this
 clear bA;subst am;obtain⟨q0,q1,q2,z0,z1,z2⟩:=(HLR.o.fr (bw.o.trans (.of_below aN.o))).six;go_wp2;refine bodyPost_ret (v:=.tuple #[.agg #[vI k1,vI n1,.string t1],.nilIface]) ?_ rfl ?_;·exact rp
 .exact AaT):G:=i
def Vy(i:G:=by
 have h1:=ct.o.1;have h2:=GQ.o.tree;exact Wp):G:=i
def Ab6(i:G:=by
 obtain⟨rfl,rfl⟩:v1=⟨k1,n1,t1⟩/\bL=.nilIface:=av.o.2.2;go_wp2;refine bodyPost_ret (v:=.tuple #[.agg #[vI k1,vI n1,.string t1],.nilIface]) ?_ rfl ?_;·exact rp
 .exact .fine' HLR.o HFz.o av.o.1 av.o.2.1):G:=i
def ZJ(i:G:=by
 simp only at HC;refine Zks ?_;intro HC fO eY;clear hv fP;go_wp2_with fail
 refine AbW ?_;clear HC;intro w3 a HE;exact Wd):G:=i
def Acd(i:G:=by
 have ed:=lh (show ax C M1 W1 x1 bL from av.o.2.2);go_wp2;refine bodyPost_ret (v:=.tuple #[.agg #[vI k1,vI n1,.string t1],bL]) ?_ rfl ?_;·exact rp
 .exact .err' HLR.o HFz.o av.o.1 av.o.2.1 ed.o):G:=i
def Aca(i:G:=by
 have N3:=lh (NO.o.far TX.o xf);have HB3:=lh (HB.o.trans bj);clear HA ht3 bj xf hsn;go_wp2;go_roundw
 case rel=>exact⟨k+1,_,rfl,by omega,by go_num,qP,N3,HB3⟩
 case measure=>simp[intOf];omega):G:=i
def Aaw(i:G:=by
 go_enter func11,ntmps11
 go_wp2_with fail
 refine HC.o.mono ?_;rintro e w1⟨rfl,fW⟩;have eC:=lh fW;clear fW HC;go_wp2;refine bodyPost_ret (results_none rfl _ _ _) rfl ?_;exact⟨rfl,eC.o⟩):G:=i
def UY(i:G:=by
 simp[results,results120,go_sem,q0,q1,q2]):G:=i
def Abr(i:G:=by
 intro bq;refine AcQ ?_;intro q0 q1 q2 z0 z1 z2;go_wp2;refine bodyPost_ret (v:=.tuple #[.agg #[vI k1,vI n1,.string t1],.iface T1 (.pointer P1)]) ?_ rfl ?_;·exact rp
 .exact AcS):G:=i
def Ug(i:G:=by
 go_wp2_with fail
 refine HF.o.mono ?_;exact Wk):G:=i
def Ac7(i:G:=by
 have iN:=lh jZ;clear hF3' jZ hB3;refine Z0 ?_;go_wp2;refine bodyPost_ret (v:=.tuple #[.agg #[vI 0,vI 0,.string ⟨#[]⟩],fg]) ?_ rfl ?_;·exact rp
 .exact Wu):G:=i
def V2(i:G:=by
 simp only[Value.slice.injEq]at h1;exact⟨g,h1.1⟩):G:=i
def AaG(i:G:=by
 go_wp2_with fail
 go_roundw
 case rel=>exact⟨k+1,true,by omega,by first|rfl|rw[hb],by go_num,trivial,xh⟩
 case measure=>simp[intOf];omega):G:=i
def VU(i:G:=by
 have h1:=ct.o.1;have h2:=N.o.tree;exact Wp):G:=i
def Vl(i:G:=by
 simp[results,results46,go_sem,q0,q1,q2]):G:=i
def AaZ(i:G:=by
 refine WV ?_;intro HC HG ii n bF;rw[<-bF]at hn dA ⊢;have HN:=lh bF;clear hc hg hI bF;go_enter func106,ntmps106
 exact tq3):G:=i
def AbT(i:G:=by
 refine WV ?_;intro HC HG ii n bF;rw[<-bF]at hn dA ⊢;have HN:=lh bF;clear hc hg hI bF;go_enter func107,ntmps107
 exact tq3):G:=i
def Aau(i:G:=by
 rw[<-jw]at am ap;refine AaV ?_;intro HE;have HE:=lh HE;clear kT kU hX hR be ah aA bj hA am ap HN aK jw aZ dl HC;exact Wd):G:=i
def AbY(i:G:=by
 go_wp2_with fail
 refine HC.o.mono ?_;rcases r with⟨c,p⟩|⟨t,ts'⟩;·exact Ac4
 .rintro e wz⟨a,rfl,hG,hR,hF⟩;exact ZE):G:=i
def ZV(i:G:=by
 have HC:=HA.o w2 rb B d _ _ P2.o hv;unfold cW at HC;exact Uq):G:=i
def Abz(i:G:=by
 go_enter func72,ntmps72
 go_wp2_with fail
 rw[<-fq.o];clear j0 c1' j6 jl j7;refine Zuj ?_;intro w9 fI eH;exact TN):G:=i
def AbA(i:G:=by
 subst hv;have:l=[]:=List.eq_nil_of_length_eq_zero hz;subst this;clear af ae hz;go_enter func75,ntmps75
 exact Ab0):G:=i
def Abg(i:G:=by
 obtain⟨HG,HR,HF⟩:=ds (hG.pre F4.o) hR (F4.o.trans hF);clear hG hR hF bP;exact VV):G:=i
def AcM(i:G:=by
 have HC:=Ty w5 rb _ d Xh P5.o.rd hs;unfold Xh at HC;have HC:=lh HC;clear hs;exact Acy):G:=i
def Ach(i:G:=by
 rcases cG.form with⟨h1,h2⟩|⟨g,cap,h1,h2,h3⟩;·exact Ac1
 .exact⟨_,_,h1,h2,h3⟩):G:=i
def ZQ(i:G:=by
 simp[results,results145,go_sem,q0,q1,q2]):G:=i
def AbU(i:G:=by
 clear hs;go_wp2_with fail
 refine HC.o.mono ?_;rintro e w3⟨⟨b,rfl,h1,h2⟩,hB⟩;exact Zzi):G:=i
def AbH(i:G:=by
 clear hk;go_wp2_with fail
 refine HC.o.mono ?_;rintro e w9⟨⟨b,rfl,h1,h2⟩,hB⟩;exact Zzi):G:=i
def AcP(i:G:=by
 exact(HB.o.alloc aZ _).grown HG.o PB λj hj=>(World.ownsRow.lt HR.o j hj).1):G:=i
def YG(i:G:=by
 go_wp2_with fail
 refine HT.o.mono ?_;exact Wk):G:=i
def Aa9(i:G:=by
 simp only[ATree.v,ATree.kids]at h1 h2;exact⟨none,0,by rw[h1,h2]⟩):G:=i
def AbI(i:G:=by
 intro g1 g2 g3;exact⟨M1,g1,g2,b,⟨k,n,t⟩,ev,rfl,g3 _ _ he⟩):G:=i
def Abw(i:G:=by
 refine UK ?_;intro m0 m1 m2 q0 q1 q2 z0 z1 z2;go_wp2_with fail
 exact tq8):G:=i
def AbB(i:G:=by
 have HC:=HV.o w2 rb B d _ _ P2.o hv;unfold cW at HC;exact Uq):G:=i
def AaL(i:G:=by
 unfold ll;rw[List.length_append,List.map_append];exact HW.o):G:=i
def AaX(i:G:=by
 clear gP hk;go_wp2_with fail
 refine HC.o.mono ?_;exact Wk):G:=i
def Abi(i:G:=by
 split at h;·cases h
 .split at h;·cases h
  .exact ZC):G:=i
def Ab8(i:G:=by
 split at h;·cases h
 .split at h;·cases h
  .exact SN):G:=i
def AcU(i:G:=by
 have h:=ch.o;unfold WY at h;exact Zwg):G:=i
def dU(i:Hid P->G:=by
 intro In;simp only[List.map_cons,List.map_nil,pD,TU,List.filterMap_cons,List.filterMap_nil,List.getElem?_toArray,List.getElem?_cons_zero,List.getElem?_cons_succ,Option.map_some];exact In.o):G:=i h
def LX(i:Hid P->G:=by
 intro In;obtain⟨s1,aF⟩:∃s1:MSt,s1={s with steps:=s.steps+1}:=⟨_,rfl⟩
 have bN:=ha.lt;have hst:=hI.steps;have jx:IntKind.i64.wrap (s.steps+1)=s.steps+1:=IntWalk.i64_in _ Px;obtain⟨aY,dh,di,dj⟩:=Zsi h fr;unfold frO vO at aY dh di dj;obtain⟨z0,aC⟩:∃z0,z0=((w.alloc (.cells #[.bool fr.strict,vI fr.vars] 63)).alloc (.cells #[vI 0,vI 0,.string ⟨#[]⟩] 56)).alloc (.cells #[vI 0,vI 0,.string ⟨#[]⟩] 56):=⟨_,rfl⟩
 revert s1 aF bN hst jx aY dh di dj z0 aC;exact In.o):G:=i h
def tm2(i:Hid P->G:=by
 intro In;intro gg cap w5 aJ aw bZ ij;have ncv:∀k,cv.ownBlock=some k->M0.has k:=λk hk=>.inr ⟨3,by decide,by rw[<-lW.o];exact hk⟩;have iV:cv.ownBlock≠some w.heap.size:=λe=>(yj.o.fr gY.o).free (ncv _ e);have pu:cv.ownBlock≠some a.b:=λe=>j8.o.2.blk (ncv _ e);have hne4:cv.ownBlock≠some kg:=λe=>gY.o.free kg (Nat.lt_of_lt_of_le aX HBZ.o.size) eZ (ncv _ e)
 have cL:∀b o,b<w2.heap.size->cv.ownBlock≠some b->w5.cell? ⟨b,o,none⟩=w2.cell? ⟨b,o,none⟩:=λb o ah aA=>(aw.cell_far ⟨b,o,none⟩ PB (λe=>aA e.symm)).trans (Zc ah);have kA:w5.frozen? ⟨C.mb,9,none⟩=false:=(aw.frozen_far ⟨C.mb,9,none⟩ PB (λe=>dV e.symm)).trans ((TG lU).trans bu);have e9:=(cL _ 9 lU dV).trans r9;refine hK _ _ ⟨e9,(cL _ 0 rI iV).trans kD,(cL _ 3 oO pu).trans kE,(cL _ 1 rJ hne4).trans kF⟩ ?_;simp only[Act.put,zA,zB,zC];have HG:=lh aw;have HW:=lh aJ
 have iU:=lh bZ;have kG:=lh ij;clear aw aJ bZ ij cL ncv iV pu hne4;refine Z0 ?_;revert gg cap w5 kA e9 HG HW iU kG;exact In.o):G:=i h
def fa(i:Hid P->G:=by
 intro In;first|refine Zis _ ?_|refine Zid ?_
 simp only[Act.put,zA,zB,zC];exact In.o):G:=i h
def SA(i:Hid P->G:=by
 intro In;have dv:decide (20000<s.steps+1)=false:=decide_eq_false Px;obtain⟨HZ,HLR,bM,dB,HFz,HM,ft,dW,HO,HE⟩:=lB (show z=_ from hz.trans (by rw[aC])) lr ln lf eG aD aI bu h.old.size eG.size;revert dv HZ HLR bM dB HFz HM ft dW HO HE;exact In.o):G:=i h
def Of(i:Hid P->G:=by
 intro In;have eG:=(MFr.of_below (M:=M) aY).trans aW;obtain⟨aI,bu⟩:=eG.tree ha hf;have lf:=dh.fr aW;have lr:=di.fr aW;have ln:=dj.fr aW;have g5:=aD.cell 5 (vI (s.steps+1)) (by rw[aF];simp[lR]);have c0:=aI.c0;revert eG aI bu lf lr ln g5 c0;exact In.o):G:=i h
def tm6(i:Hid P->G:=by
 intro In;obtain⟨kS,H2,ba,nT,HSs4,HSs3,HNO2⟩:=gw hob aM (gY.o.trans ap) qN iT cF hnO2;have hm4:=aM.mbLt;refine vy (.take 0 (.take 1 (.take 2 (.take 3 (.take 4 (.take 5 (.take 6 (.take 7 (.take 8 (.take 9 (.two 10 (.take 11 (.go 12 (.go 13 .nil))) 12 (.go 10 (.take 11 (.go 13 .nil)))))))))))))) 13 (λW=>vC W C.mb 9 (.slice (some ⟨gg,0,none⟩) (n0+1) cap)) s9 ?_
 iterate 10 (refine Z7v ?_ PM Pz PM (λw' kI=>?_) ?_;rotate_left;(go_simp;first|done|with_reducible rfl);simp only[Act.put,List.setIfInBounds_toArray])
 refine Zr ?_;revert kS H2 ba nT HSs4 HSs3 HNO2 hm4;exact In.o):G:=i h
def tm7(i:Hid P->G:=by
 intro In;have aM:MAt C M2 (w5.setCell ⟨C.mb,9,none⟩ (.slice (some ⟨gg,0,none⟩) (n0+1) cap)) s3:=aM;have ap:MFr M0 M2 w2 (w5.setCell ⟨C.mb,9,none⟩ (.slice (some ⟨gg,0,none⟩) (n0+1) cap)):=ap;have s9:(w5.setCell ⟨C.mb,9,none⟩ (.slice (some ⟨gg,0,none⟩) (n0+1) cap)).cell? ⟨C.mb,9,none⟩=some (.slice (some ⟨gg,0,none⟩) (n0+1) cap):=World.cell?_setCell_same _ _ _ e9;obtain⟨w4,fV⟩:∃w4,w4=w5.setCell ⟨C.mb,9,none⟩ (.slice (some ⟨gg,0,none⟩) (n0+1) cap):=⟨_,rfl⟩
 revert aM ap s9 w4 fV;exact In.o):G:=i h
def tm8(i:Hid P->G:=by
 intro In;refine vy (.take 0 (.take 1 (.take 2 (.go 3 (.go 4 .nil))))) 3 (λW=>vC W (w.heap.size+1+1) 0 (vI 0)/\vC W (w.heap.size+1+1) 1 (vI 0)/\vC W (w.heap.size+1+1) 2 (.string ⟨#[]⟩)) ⟨m0,m1,m2⟩ ?_;refine qa ?_;refine G9 (λK hK=>?_);refine hK _ _ ?_;clear hK K;refine G9 (λK hK=>?_);refine hK _ _ (Si ?_);clear hK K;exact In.o):G:=i h
def tm9(i:Hid P->G:=by
 intro In;have gr:n0=so.clos.length:=by rw[cw.clos,List.length_map,hn0]
 have hn:n0<1000000000:=by rw[gr];exact ng.o.lens.2.2.2.2.2.1
 have S0:=HS.o w2 M0 fw;have dV:cv.ownBlock≠some C.mb:=λe=>cw.rowNe (i:=3) Py (by rw[<-fh];exact e);have bV:=fw.tree ft.o dW.o;have aK:=fw.tree Hi.o Hj.o;have bu:=cw.fz 9;obtain⟨oP,lW,oQ,j9,qQ,ik,gY,j8,cE,kX⟩:=lB eR fh cD hn0 gr cw fw bV aK (Z4c w2.drew B body aK.1.drew);revert gr hn S0 dV bV aK bu oP lW oQ j9 qQ ik gY j8 cE kX;exact In.o):G:=i h
def uV(i:Hid P->G:=by
 intro In;have lX:w4.frozen? ⟨nb,3,none⟩=false:=(aB.frozen_far ⟨nb,3,none⟩ PB (λe=>NE.o e.symm)).trans ((TG dm).trans mz);refine hK _ _ m4 ?_;simp only[Act.put,zA,zB,zC];revert lX;exact In.o):G:=i h
def Jp(i:Hid P->G:=by
 intro In;unfold Vd;have iO:∀(fn:Fn) (first cap:Array Value) (w:kV),(Instr.makeFunc fn first cap).run Tryz.prog w=.ok (.func fn first cap) w:=λ_ _ _ _=>rfl;have gu:=lh (λW (t:TreeAt W B a)=>hK a W st ins h.m (λk hk=>h.wa.kid hk) h.mx t);obtain⟨code,au⟩:∃c,c=mK a st ins:=⟨_,rfl⟩
 revert iO gu code au;exact In.o):G:=i h
def sU(i:Hid P->G:=by
 intro In;refine G9 (λK hK=>?_);refine hK _ _ ?_;clear hK K;refine G9 (λK hK=>?_);refine hK _ _ (Si ?_);clear hK K;exact In.o):G:=i h
def FG(i:Hid P->G:=by
 intro In;have iO:∀(fn:Fn) (first cap:Array Value) (w:kV),(Instr.makeFunc fn first cap).run Tryz.prog w=.ok (.func fn first cap) w:=λ_ _ _ _=>rfl;revert iO;exact In.o):G:=i h
def dq(i:Hid P->G:=by
 intro In;refine wp_seq_k (λK hK=>?_);have HK:=lh hK;clear hK;conv=>arg 2;whnf
 revert K HK;exact In.o):G:=i h
def YQ(i:Hid P->G:=by
 intro In;have hg:(M0.row 3).ownBlock=some gg\/w2.heap.size<=gg:=by
  rw[<-lW.o];exact VP
 obtain⟨s3,cF⟩:∃s3:MSt,s3={so with clos:=so.clos++[⟨a.nt C.N,nx,Zi body⟩]}:=⟨_,rfl⟩
 have ae:w5.ownsRow 0 (nc 3) (nF 3) (.slice (some ⟨gg,0,none⟩) (n0+1) cap) (kr s3 (M0.cl++[⟨a,nx,Zi body⟩]) 3) (nE s3 (M0.cl++[⟨a,nx,Zi body⟩]) 3):=by
  exact Ab'
 obtain⟨M2,aM,ap⟩:=ik.o.push (s':=s3) (cl':=M0.cl++[⟨a,nx,Zi body⟩]) Py (((Below.refl w2.heap.size w2).alloc (Nat.le_refl _) (.cells #[vP a.b,vI nx,.bool (Zi body)] 117)).drew) (lW.o▸HG.o) hg kG.o ae
  (fun j hj aG => by rw [cF]; match j, hj with
   |0,_=>exact⟨rfl,rfl⟩
   |1,_=>exact⟨rfl,rfl⟩
   |2,_=>exact⟨rfl,rfl⟩
   |3,_=>exact absurd rfl aG) (by rw[cF]) (by rw[cF];rfl) Rs (λx hx=>by
   rcases List.mem_append.1 hx with hx|hx;·exact ik.o.trees x hx
   .rw[List.mem_singleton.1 hx];exact⟨j8.o.1.base (Nat.zero_le _),j8.o.2⟩)
 revert hg s3 cF ae M2 aM ap;exact In.o):G:=i h
def Tu(i:Hid P->G:=by
 intro In;have aq:∀w1,HeapAt ρ w1 hb ho L H->w1.cell? ⟨hb,ho+1,none⟩=some (.slice (some ⟨gs,0,none⟩) H.scopes.length cs)/\w1.cell? ⟨gs,m,none⟩=some (.pointer (some ⟨L.sb m,0,none⟩))/\vC w1 (L.sb m) 1 (vI s.object):=λw1 hh=>
  ⟨by rw[<-dt];exact hh.cellS,Zs hh.rowS (g:=gs) (by rw[dt];rfl) (Zda L.sb _ m dw),by have:=(hh.scp m s hm).1;simp[vC,World.cell?,this]⟩
 revert aq;exact In.o):G:=i h
def TJ(i:Hid P->G:=by
 intro In;refine oK ?_;refine Ze (λK hK=>?_);go_simp
 have rI:w.heap.size<w2.heap.size:=Nat.lt_of_lt_of_le (by rw[HZ.o];simp;omega) gY.o.size;have oO:a.b<w2.heap.size:=j8.o.1.lt;have rJ:kg<w2.heap.size:=Nat.lt_of_lt_of_le aX (Nat.le_trans HBZ.o.size gY.o.size);refine hK _ _ ⟨(Zc lU).trans r9,(Zc rI).trans kD,(Zc oO).trans kE,(Zc rJ).trans kF⟩ ?_;clear hK K;refine Ze (λK hK=>?_);revert rI oO rJ K hK;exact In.o):G:=i h
def ZM(i:Hid P->G:=by
 intro In;have hg:(M0.row 3).ownBlock=some gg\/w2.heap.size<=gg:=by
  rw[<-lW.o];exact VP
 obtain⟨s3,cF⟩:∃s3:MSt,s3={so with clos:=so.clos++[⟨a.nt C.N,nx,true⟩]}:=⟨_,rfl⟩
 have ae:w5.ownsRow 0 (nc 3) (nF 3) (.slice (some ⟨gg,0,none⟩) (n0+1) cap) (kr s3 (M0.cl++[⟨a,nx,true⟩]) 3) (nE s3 (M0.cl++[⟨a,nx,true⟩]) 3):=by
  exact Ab'
 obtain⟨M2,aM,ap⟩:=ik.o.push (s':=s3) (cl':=M0.cl++[⟨a,nx,true⟩]) Py (((Below.refl w2.heap.size w2).alloc (Nat.le_refl _) (.cells #[vP a.b,vI nx,.bool (true)] 117)).drew) (lW.o▸HG.o) hg kG.o ae
  (fun j hj aG => by rw [cF]; match j, hj with
   |0,_=>exact⟨rfl,rfl⟩
   |1,_=>exact⟨rfl,rfl⟩
   |2,_=>exact⟨rfl,rfl⟩
   |3,_=>exact absurd rfl aG) (by rw[cF]) (by rw[cF];rfl) Rs (λx hx=>by
   rcases List.mem_append.1 hx with hx|hx;·exact ik.o.trees x hx
   .rw[List.mem_singleton.1 hx];exact⟨j8.o.1.base (Nat.zero_le _),j8.o.2⟩)
 revert hg s3 cF ae M2 aM ap;exact In.o):G:=i h
def po(i:Hid P->G:=by
 intro In;refine wp_seq_k (λK hK=>?_);have HK:=lh hK;clear hK;revert K HK;exact In.o):G:=i h
def I2(i:Hid P->G:=by
 intro In;have mz:dx.frozen? ⟨nb,3,none⟩=false:=Qg
 have dm:nb<dx.heap.size:=(Array.getElem?_eq_some_iff.1 ac).1;have dH:=fJ.nodup;simp only[ATree.blocks,List.nodup_cons,List.mem_append,Option.mem_toList,not_or]at dH;have aG:=dH.1.1;revert mz dm dH aG;exact In.o):G:=i h
def Oi(i:Hid P->G:=by
 intro In;have jO:z.heap.size=w.heap.size+1+1+1:=by rw[hz,aC];simp[World.setCell]
 have dM:=Lo.new (wE:=z) aD (Nat.le_refl _) (Nat.le_trans h.old.size eG.size) #[vI 0,vI 0,.string ⟨#[]⟩] 56;have eA:=Z1 z (.cells #[vI 0,vI 0,.string ⟨#[]⟩] 56);revert jO dM eA;exact In.o):G:=i h
def OG(i:Hid P->G:=by
 intro In;obtain⟨aP,lf,lr,ln⟩:=Zsi h fr;unfold frO vO at aP lf lr ln;obtain⟨z,hz⟩:∃z,z=((w.alloc (.cells #[.bool fr.strict,vI fr.vars] 63)).alloc (.cells #[vI 0,vI 0,.string ⟨#[]⟩] 56)).alloc (.cells #[vI 0,vI 0,.string ⟨#[]⟩] 56):=⟨_,rfl⟩
 revert aP lf lr ln z hz;exact In.o):G:=i h
def Abn(i:Hid P->G:=by
 intro In;have h6:=@run_callFunc_extern Tryz.prog 47 _ (λargs=>ReflectliteValue.unpack (args.getD 0 (.tuple #[]))) func47 Pz Pz Pz Pz;have h7:=@run_callFunc_extern Tryz.prog 48 _ (ReflectliteValue.methodAny (ReflectliteValue.valueError "reflectlite.Value.Type" 0) (λt _ _ _=>ReflectliteType.toType t)) func48 Pz Pz Pz Pz
 have h8:=@run_callFunc_extern Tryz.prog 49 _ (ReflectliteValue.method (ReflectliteValue.valueError "reflectlite.Value.IsNil" 0) ReflectliteValue.isNil) func49 Pz Pz Pz Pz
 have qR:=@run_callFunc_extern Tryz.prog 183 _ (ReflectliteType.abiMethod λt=>do pure (.int .u8 (<-Rtype.kind t))) func183 Pz Pz Pz Pz;have lV:=@run_callFunc_extern Tryz.prog 197 _ (ReflectliteType.method ReflectliteType.elem) func197 Pz Pz Pz Pz;have xi:=@run_callFunc_extern Tryz.prog 198 _ (ReflectliteType.relation "Implements" ReflectliteType.implements_) func198 Pz Pz Pz Pz
 have nU:=@run_callFunc_extern Tryz.prog 85 _ ReflectliteType.typeOf func85 Pz Pz Pz Pz;have Dm:=@run_callFunc_extern Tryz.prog 195 _ (ReflectliteType.relation "AssignableTo" ReflectliteType.assignableTo) func195 Pz Pz Pz Pz
 have Dn:=@run_callFunc_extern Tryz.prog 86 _ (ReflectliteValue.method (ReflectliteValue.valueError "reflectlite.Value.Elem" 0) ReflectliteValue.elem) func86 Pz Pz Pz Pz
 have px:=@run_callFunc_extern Tryz.prog 87 _ ReflectliteValue.set func87 Pz Pz Pz Pz;revert h6 h7 h8 qR lV xi nU Dm Dn px;exact In.o):G:=i h
def VJ(i:Hid P->G:=by
 intro In;refine o4 (λK hK=>?_);refine hK _ _ (HS.o _ _ (.drew (.of_below (Z1 _ _)))) ?_;clear hK K;try simp only[Act.put,zA,zB,zC]
 refine o4 (λK hK=>?_);refine(HC.o _ (Z1 _ _).drew).mono ?_;rintro e w1⟨M1,b,k,n,t,ev,rfl,hr⟩;refine hK _ _ (HS.o _ _ ((MFr.of_below (Z1 _ _).drew).trans hr.2.1)) ?_;obtain⟨q0,q1,q2,y0,y1,y2⟩:=(mA.lo hr HM.o HE HO).six;have hv:=mA.boxB hr HM.o HE HO;have cE:=lh (HS.o _ _ ((MFr.of_below (Z1 _ _).drew).trans hr.2.1));have fy:=lh hv;clear hr hK K hv;simp only[ag];try simp only[Act.put,zA,zB,zC]
 refine qa ?_;revert w1 M1 b k n t ev q0 q1 q2 y0 y1 y2 cE fy;exact In.o):G:=i h
def Vv(i:Hid P->G:=by
 intro In;refine o4 (λK hK=>?_);refine hK _ _ (HS.o _ _ (.drew (.of_below (Z1 _ _)))) ?_;clear hK K;try simp only[Act.put,zA,zB,zC]
 refine o4 (λK hK=>?_);refine(HC.o _ (Z1 _ _).drew).mono ?_;rintro e w1⟨M1,k,n,t,ev,rfl,hr⟩;refine hK _ _ (HS.o _ _ ((MFr.of_below (Z1 _ _).drew).trans hr.2.1)) ?_;obtain⟨q0,q1,q2,y0,y1,y2⟩:=(ql.lo hr HM.o HE HO).six;have hv:=ql.boxB hr HM.o HE HO;have cE:=lh (HS.o _ _ ((MFr.of_below (Z1 _ _).drew).trans hr.2.1));have fy:=lh hv;clear hr hK K hv;simp only[ag];try simp only[Act.put,zA,zB,zC]
 refine qa ?_;revert w1 M1 k n t ev q0 q1 q2 y0 y1 y2 cE fy;exact In.o):G:=i h
def qF(i:Hid P->G:=by
 intro In;have cw:=h.below aY;have f5:=cw.cell 5 (vI s.steps) PI;have y5:=cw.fz 5;obtain⟨aD,aW⟩:=Zuw cw;revert cw f5 y5 aD aW;exact In.o):G:=i h
def Om(i:Hid P->G:=by
 intro In;obtain⟨aP,lf,lr⟩:=Znt h fr;unfold frO vO at aP lf lr;obtain⟨z,hz⟩:∃z,z=(w.alloc (.cells #[.bool fr.strict,vI fr.vars] 63)).alloc (.cells #[vI 0,vI 0,.string ⟨#[]⟩] 56):=⟨_,rfl⟩
 revert aP lf lr z hz;exact In.o):G:=i h
def U2(i:Hid P->G:=by
 intro In;have fK:Inv s1 (d+1):=PV
 have dI:Ext s s1:=by rw[aF];exact(Inv.turn (d:=0) (d':=0) (k:=s.steps+1) (c:=s.calls) (v:=s.last) hI Px Px hI.calls hI.last Px).2
 have eu:s1.steps=s.steps+1:=by rw[aF]
 revert fK dI eu;exact In.o):G:=i h
def t7(i:Hid P->G:=by
 intro In;refine Ze (λK hK=>?_);go_simp
 refine hK _ _ ((Zc dm).trans m3) ?_;clear hK K;refine Ze (λK hK=>?_);revert K hK;exact In.o):G:=i h
def Vu(i:Hid P->G:=by
 intro In;refine G9 (λK hK=>?_);refine hK _ _ (Si ?_);clear hK K;exact In.o):G:=i h
def Aaf(i:Hid P->G:=by
 intro In;obtain⟨s4,iT⟩:∃s4,s4=s3.object (3+(n0:Int)):=⟨_,rfl⟩
 have hob:=λW (hB:kW w4 W)=>Z8j (aM.below hB).heap (3+(n0:Int)) (by have:=qN.lens.2.2.2.1;omega);obtain⟨nO,hnO⟩:∃nO:Int,nO=s3.H.objects.length:=⟨_,rfl⟩
 revert s4 iT hob nO hnO;exact In.o):G:=i h
def Aam(i:Hid P->G:=by
 intro In;refine ow [(true,0),(true,1),(true,2),(true,3),(true,4),(true,5),(true,6),(true,7),(true,8),(true,9),(true,10),(true,11),(true,12),(true,13),(true,14),(true,15),(false,16),(true,17),(true,18),(false,19),(false,20)] [21,22,23] (λW=>vC W C.mb 9 cv/\vC W w.heap.size 0 (.bool false)/\vC W a.b 3 (.slice (some ⟨kg,0,none⟩) 2 kc)/\vC W kg 1 (vP body.b)) ⟨r9,kD,kE,kF⟩ (λbq=>?_);refine oK ?_;refine Ze (λK hK=>?_);go_simp
 refine kX.o.mono ?_;rintro e wq⟨rfl,qS⟩;revert bq K hK wq qS;exact In.o):G:=i h
def qI(i:Hid P->G:=by
 intro In;obtain⟨z,hz⟩:∃z,z=z0.setCell ⟨C.mb,5,none⟩ (vI (s.steps+1)):=⟨_,rfl⟩
 revert z hz;exact In.o):G:=i h
def f8(i:Hid P->G:=by
 intro In;refine oK ?_;refine Ze (λK hK=>?_);go_simp
 revert K hK;exact In.o):G:=i h
def Tg(i:Hid P->G:=by
 intro In;have q0:=MT.scan.c0;have q1:=MT.scan.c1;have t0:=MT.cell 0 rfl;have t1:=MT.cell 1 rfl;have t2:=MT.cell 2 rfl;have t3:=MT.cell 3 rfl;have z0:=MT.fz 0;have z1:=MT.fz 1;have z2:=MT.fz 2;have z3:=MT.fz 3;have zs:=MT.scan.fz 1;have ee:=MT.lt;have cR:=MT.tlt;have bV:=MT.scan.lt;have MT:=lh MT;revert q0 q1 t0 t1 t2 t3 z0 z1 z2 z3 zs ee cR bV MT;exact In.o):G:=i h
def Vx(i:Hid P->G:=by
 intro In;have ae:=λw1 (hh:HeapAt ρ w1 hb ho L H) j x=>SH (f:=LBind.cells) (m:=6) (λ_=>rfl) (hh.scp m s hm).2 (g:=g) PW (i:=k) (j:=j) (x:=x) hp;have bu:=λw1 (hh:HeapAt ρ w1 hb ho L H) j=>Uf (hh.scp m s hm).2 (g:=g) PW j;obtain⟨HF,HR,HZ,bB⟩:=en aq ae bu (λw1 (hh:HeapAt ρ w1 hb ho L H)=>Z73 hh m s hm name);revert ae bu HF HR HZ bB;exact In.o):G:=i h
def Tf(i:Hid P->G:=by
 intro In;have lU:=cw.mbLt;have r9:=cw.rcell 3 Py;have eR:=cw.rows 3 Py;obtain⟨cv,fh⟩:∃cv,cv=M0.row 3:=⟨_,rfl⟩
 obtain⟨xs,cD⟩:∃xs,xs=nE so M0.cl 3:=⟨_,rfl⟩
 obtain⟨n0,hn0⟩:∃n0,n0=M0.cl.length:=⟨_,rfl⟩
 revert lU r9 eR cv fh xs cD n0 hn0;exact In.o):G:=i h
def Su(i:Hid P->G:=by
 intro In;have hR:tm (v7 V D (a.nt C.N) sc fr) s=v7 V D (a.nt C.N) sc fr s1:=by
  unfold tm;rw[if_neg Px,aF]
 obtain⟨R,aQ⟩:∃R,R=tm (v7 V D (a.nt C.N) sc fr) s:=⟨_,rfl⟩
 revert hR R aQ;exact In.o):G:=i h
def ZI(i:Hid P->G:=by
 intro In;refine step_append_lies _ PM (.tmp 32) (.tmp 47) 54 PM 0 117 i0 _ 3 24 underlying54 hi aC bo bQ rfl Py cv n0 xs PM ((oP.o.alloc _).drew) ⟨w2.heap.size,0,none⟩ 1 1 [vP a.b,vI nx,.bool (Zi body)] PM rfl (World.news_of_block (cs:=#[vP a.b,vI nx,.bool (Zi body)]) (t:=117) (fr:=(0,0)) (heap_alloc_new w2 _)) RG Py PA Px Px (w2.heap.size+1) PE ?_;exact In.o):G:=i h
def VX(i:Hid P->G:=by
 intro In;have dH:=fJ.nodup;simp only[ATree.blocks,List.nodup_cons,List.mem_append,Option.mem_toList,not_or]at dH;revert dH;exact In.o):G:=i h
def ZK(i:Hid P->G:=by
 intro In;refine step_append_lies _ PM (.tmp 32) (.tmp 47) 54 PM 0 117 i0 _ 3 24 underlying54 hi aC bo bQ rfl Py cv n0 xs PM ((oP.o.alloc _).drew) ⟨w2.heap.size,0,none⟩ 1 1 [vP a.b,vI nx,.bool (true)] PM rfl (World.news_of_block (cs:=#[vP a.b,vI nx,.bool (true)]) (t:=117) (fr:=(0,0)) (heap_alloc_new w2 _)) RG Py PA Px Px (w2.heap.size+1) PE ?_;exact In.o):G:=i h
def Tj(i:Hid P->G:=by
 intro In;have d3:=(eA.cell (p:=⟨a.b,3,none⟩) aI.lt).trans c3;have d0:=(eA.cell (p:=⟨a.b,0,none⟩) aI.lt).trans aI.c0;have d1:=(eA.cell (p:=⟨a.b,1,none⟩) aI.lt).trans aI.c1;obtain⟨f0,f1⟩:=(lf.fr (.of_below eA)).two;revert d3 d0 d1 f0 f1;exact In.o):G:=i h
def YR(i:Hid P->G:=by
 intro In;obtain⟨b0,b1,b2,-,-,-⟩:=oR.o.six;have fj:=py.o.fr bK.o;obtain⟨q0,q1,q2,z0,pA,z2⟩:=fj.six;have jP:=lh ((fj.fr (.drew (.refl _ _))).fill (x':=(vI k3)) (y':=(vI n3)) (z':=.string t3) dE.o.drew ((HFk.o.trans bK.o).trans (.drew (.refl _ _))) fj.late);clear fj;refine vy (.take 0 (.take 1 (.take 2 (.take 3 (.go 4 (.go 5 .nil)))))) 4 (λW=>vC W p2 0 (vI k3)/\vC W p2 1 (vI n3)/\vC W p2 2 (.string t3)) ⟨b0,b1,b2⟩ ?_;refine qa ?_
 revert b0 b1 b2 q0 q1 q2 z0 pA z2 jP;exact In.o):G:=i h
def Iy(i:Hid P->G:=by
 intro In;obtain⟨w2,ci⟩:∃w2,w2=((w.alloc (.cells #[.bool st,.bool ins] 89)).alloc (.cells #[vP a.b] 22)):=⟨_,rfl⟩
 revert w2 ci;exact In.o):G:=i h
def AaY(i:Hid P->G:=by
 intro In;have pB:=Z1 W6 (.cells #[vI 6,.string ⟨#[]⟩,vI 0,.slice pb qb cb] 41);obtain⟨W7,oS⟩:∃W7,W7=W6.alloc (.cells #[vI 6,.string ⟨#[]⟩,vI 0,.slice pb qb cb] 41):=⟨_,rfl⟩
 have xj:TreeAt W7 z.heap.size (.mk W6.heap.size (.slice pb qb cb) 6 ⟨#[]⟩ 0 a.kids):=by
  have hr:=(mj.o.bel pB).rowOf;rw[cg]at hr;rw[oS];exact .mk (heap_alloc_new W6 _) (by have:=mj.o.lt;have:=mj.o.le;omega) hr (λk hk=>(mj.o.bel pB).kid hk)
 have kY:(ATree.mk W6.heap.size (.slice pb qb cb) 6 ⟨#[]⟩ 0 a.kids).many<274877906944:=by
  have h1:(ATree.mk W6.heap.size (.slice pb qb cb) 6 ⟨#[]⟩ 0 a.kids).many=a.many:=by
   obtain⟨b',v',k',t',n',ks'⟩:=a;rfl
  rw[h1];have:=il.o.2.2.1;omega
 have hnm:=Zan true W7 z.heap.size _ xj kY;have aG:La true (.mk W6.heap.size (.slice pb qb cb) 6 ⟨#[]⟩ 0 a.kids)=La true a:=by
  rw[<-Z9p (N:=C.N),<-Z9p (N:=C.N)];obtain⟨b',v',k',t',n',ks'⟩:=a;rfl
 revert pB W7 oS xj kY hnm aG;exact In.o):G:=i h
def VG(i:Hid P->G:=by
 intro In;have cA:=h.hbLt;have dw:=getElem?_lt hm;have aX:=getElem?_lt hp;have h1:=h.below ((Below.refl _ _).alloc (Nat.le_refl _) (.cells #[vI vk,vI vn,.string vs] 56));have hob:H.scope? (m:Int)=some s:=by simp[LHeap.scope?,hm]
 have cM:H.has (m:Int) name=true:=by rw[has_eq hob,if_pos aU,hk];rfl
 have HC:=lh (Vh h1 (m:Int) name);revert cA dw aX h1 hob cM HC;exact In.o):G:=i h
def Aak(i:Hid P->G:=by
 intro In;have ae:=λw1 (hh:HeapAt ρ w1 hb ho L H) j x=>SH (f:=LBind.cells) (m:=6) (λ_=>rfl) (hh.scp m s hm).2 (g:=g) PW (i:=k) (j:=j) (x:=x) hp;revert ae;exact In.o):G:=i h
def AaC(i:Hid P->G:=by
 intro In;have c0:wr.cell? ⟨g,k*6,none⟩=some (.string bn):=(hB.cell (p:=⟨g,k*6,none⟩) hg).trans (hc k 0 _ _ ef rfl);have c1:wr.cell? ⟨g,k*6+1,none⟩=some (vI bk):=(hB.cell (p:=⟨g,k*6+1,none⟩) hg).trans (hc k 1 _ _ ef rfl);have c2:wr.cell? ⟨g,k*6+2,none⟩=some (vI bm):=(hB.cell (p:=⟨g,k*6+2,none⟩) hg).trans (hc k 2 _ _ ef rfl);have c3:wr.cell? ⟨g,k*6+3,none⟩=some (.string bs):=(hB.cell (p:=⟨g,k*6+3,none⟩) hg).trans (hc k 3 _ _ ef rfl)
 have c4:wr.cell? ⟨g,k*6+4,none⟩=some (vI ml):=(hB.cell (p:=⟨g,k*6+4,none⟩) hg).trans (hc k 4 _ _ ef rfl);have c5:wr.cell? ⟨g,k*6+5,none⟩=some (.bool ka):=(hB.cell (p:=⟨g,k*6+5,none⟩) hg).trans (hc k 5 _ _ ef rfl);have kZ:wr.cell? bx=some (.string name):=(hB.cell hb).trans hx;have du:bx.block<wr.heap.size:=Nat.lt_of_lt_of_le hb hB.size;have HG:=lh ef;have HO:=lh dO;revert c0 c1 c2 c3 c4 c5 kZ du HG HO;exact In.o):G:=i h
def ub(i:Hid P->G:=by
 intro In;have ac:=fJ.at'.blkOf;simp only[ATree.b,ATree.v,ATree.kind,ATree.text,ATree.n]at ac;revert ac;exact In.o):G:=i h
def Ut(i:Hid P->G:=by
 intro In;have h1:=h.below ((Below.refl _ _).alloc (Nat.le_refl _) (.cells #[vI vk,vI vn,.string vs] 56));have cu:kW w (w.alloc (.cells #[vI vk,vI vn,.string vs] 56)):=(Below.refl _ _).alloc (Nat.le_refl _) _;revert h1 cu;exact In.o):G:=i h
def AcR(i:Hid P->G:=by
 intro In;obtain⟨q0,q1,q2,yl,pA,rK⟩:=(oT.o.fr F0).six;obtain⟨g1,g2,g3,g4⟩:=(oT.o.fr F0).fill (x':=(vI k1)) (y':=(vI n1)) (z':=.string t1) ah.1 ((MFr.of_below nR.o).trans F0) oT.o.late;obtain⟨jv,dZ,pC⟩:=ds g1 g2 g3;have qO:=lh (show match r1.2 with
  | .ok v=>v=⟨k1,n1,t1⟩/\bL=.nilIface
  | .error x=>ax C M1 (((W0.setCell ⟨w.heap.size+1+1+1,0,none⟩ (vI k1)).setCell ⟨w.heap.size+1+1+1,1,none⟩ (vI n1)).setCell ⟨w.heap.size+1+1+1,2,none⟩ (.string t1)) x bL by
  have h3:=ah.2.2;rcases hr:r1.2 with x|v;·rw[hr]at h3;exact g4 _ _ h3
  .rw[hr]at h3;exact h3)
 clear g1 g2 g3 g4;simp only[ag];try simp only[Act.put,zA,zB,zC]
 refine qa ?_;refine G9 (λK hK=>?_);refine hK _ _ ?_;clear hK K;refine G9 (λK hK=>?_);refine hK _ _ (Si ?_);clear hK K q0 q1 q2 yl pA rK;revert jv dZ pC qO;exact In.o):G:=i h
def Tz(i:Hid P->G:=by
 intro In;have m4:vC w4 nb 3 (.slice p kids.length cp):=(aB.cell_far ⟨nb,3,none⟩ PB (λe=>NE.o e.symm)).trans ((Zc dm).trans m3);revert m4;exact In.o):G:=i h
def AaF(i:Hid P->G:=by
 intro In;have aq:∀W M',MFr M M' z W->vC W w.heap.size 0 (.bool fr.strict)/\vC W w.heap.size 1 (vI fr.vars)/\vC W a.b 0 (vI a.kind)/\vC W a.b 3 (.slice (some ⟨kg,0,none⟩) 2 kc)/\vC W kg 0 (vP x.b)/\vC W kg 1 (vP y.b):=λW M' f=>⟨(lf.fr f).cell rfl,(lf.fr f).cell rfl,(f.tree aI bu).1.c0,(f.cell aI.lt bu.blk).trans c3,(f.cell aX eZ).trans k0,(f.cell aX eZ).trans k1⟩
 obtain⟨r1,bz⟩:∃r1,r1=V (x.nt C.N) sc fr s1:=⟨_,rfl⟩
 have bE:=lh (cj.from aD fK (hA.ext dI) ah iW wx mx (aI.kid dX) (bu.kid dX));have an:=(hV (x.nt C.N) sc fr s1 _ wx mx fK (hA.ext dI) ah iW).1;revert aq r1 bz bE an;exact In.o):G:=i h
def AaB(i:Hid P->G:=by
 intro In;have aK:L.sb m<w1.heap.size:=(Array.getElem?_eq_some_iff.1 ac).1;have d2:w1.cell? ⟨L.sb m,2,none⟩=some nv:=PC
 have kA:w1.frozen? ⟨L.sb m,2,none⟩=false:=Qg
 have pE:nv.ownBlock≠some (L.sb m):=λe=>by
  rw[jQ]at e;have h1:=eS.rnv m _ (getElem?_lt HM.o) e;rw[eS.rsb m (getElem?_lt HM.o)]at h1;cases h1
 obtain⟨eI,qT,HO,HN,HNe,av⟩:=gq eS ac af jQ pE dn;clear pE;have qU:Hid (nv.ownBlock≠some w.heap.size):=λe=>by
  have h1:=eI.o.rnv m w.heap.size (getElem?_lt HM.o) (by rw[<-HN.o];exact e);have h2:=HH.o.rnv m w.heap.size (getElem?_lt HM.o) (by rw[<-HN.o];exact e);have h3:=h2.symm.trans h1;exact absurd (ew w.heap.size (by rw[h2];simp)) Px
 revert aK d2 kA eI qT HO HN HNe av qU;exact In.o):G:=i h
def UU(i:Hid P->G:=by
 intro In;simp only[ag];try simp only[Act.put,zA,zB,zC]
 refine qa ?_;exact In.o):G:=i h
def Aao(i:Hid P->G:=by
 intro In;have nh:(a.kids.filter xk).length<=a.kids.length:=List.length_filter_le _ _;have dA:(a.kids.filter vG).length<=a.kids.length:=List.length_filter_le _ _;have tf:∀x,x∈a.kids.filter xk->x∈a.kids:=λx hx=>(List.mem_filter.1 hx).1;have fj:∀x,x∈a.kids.filter vG->x∈a.kids:=λx hx=>(List.mem_filter.1 hx).1;have qV:=lh tf;have jy:=lh fj;revert nh dA tf fj qV jy;exact In.o):G:=i h
def Aa6(i:Hid P->G:=by
 intro In;intro gg cap w2 aJ aw bZ ij;have cL:∀b o,b<w1.heap.size->nv.ownBlock≠some b->w2.cell? ⟨b,o,none⟩=w1.cell? ⟨b,o,none⟩:=λb o ah aA=>(aw.cell_far ⟨b,o,none⟩ PB (λe=>aA e.symm)).trans (Zc ah);have rL:w2.frozen? ⟨L.sb m,2,none⟩=false:=(aw.frozen_far ⟨L.sb m,2,none⟩ PB (λe=>HNe.o e.symm)).trans ((TG aK).trans kA);have e2:=(cL _ 2 aK HNe.o).trans d2;refine hK _ _ ⟨e2,(cL _ 0 hs qU.o).trans q0,(cL _ 1 hs qU.o).trans q1,(cL _ 2 hs qU.o).trans q2⟩ ?_
 simp only[Act.put,zA,zB,zC];obtain⟨HG,HW,HT,uD⟩:=en aw aJ bZ ij;clear aw aJ bZ ij cL;refine Z0 ?_;revert gg cap w2 rL e2 HG HW HT uD;exact In.o):G:=i h
def Ux(i:Hid P->G:=by
 intro In;try simp only[Act.put,zA,zB,zC]
 refine qa ?_;exact In.o):G:=i h
def Uh(i:Hid P->G:=by
 intro In;have mm:=(ar.cell (p:=⟨w.heap.size,0,none⟩) hs).trans q0;have jm:=(ar.cell (p:=⟨w.heap.size,1,none⟩) hs).trans q1;have nW:=(ar.cell (p:=⟨w.heap.size,2,none⟩) hs).trans q2;revert mm jm nW;exact In.o):G:=i h
def Og(i:Hid P->G:=by
 intro In;obtain⟨q,cS⟩:∃q,q=P.length:=⟨_,rfl⟩
 have ni:q<=9223372036854775807:=QP
 revert q cS ni;exact In.o):G:=i h
def YJ(i:Hid P->G:=by
 intro In;intro W6 p6 M6 la;have F6:=ba.o.trans la.2.1;obtain⟨u0,u1,-,-,-⟩:=HS.o W6 M6 F6;obtain⟨q0,q1,q2,z0,z1,z2⟩:=(HLR.o.fr F6).six;obtain⟨p0,p1,p2,-,-,-⟩:=la.2.2.six;have kH:=lh la;have mi:=lh F6;clear la F6;revert W6 p6 M6 u0 u1 q0 q1 q2 z0 z1 z2 p0 p1 p2 kH mi;exact In.o):G:=i h
def Aaj(i:Hid P->G:=by
 intro In;refine ow [(true,0),(true,1),(true,2),(true,3),(true,4),(true,5)] [6,7] (λW=>vC W w.heap.size 0 (vI vk)/\vC W w.heap.size 1 (vI vn)/\vC W w.heap.size 2 (.string vt)) (HS.o _ _ (.drew (.of_below av.o))) (λbq=>?_);refine oK ?_;refine Z0 ?_;revert bq;exact In.o):G:=i h
def VW(i:Hid P->G:=by
 intro In;have q0:=M4.scan.c0;have q1:=M4.scan.c1;have t0:=M4.cell 0 rfl;have t1:=M4.cell 1 rfl;have t2:=M4.cell 2 rfl;have t3:=M4.cell 3 rfl;have z0:=M4.fz 0;have z1:=M4.fz 1;have z2:=M4.fz 2;have z3:=M4.fz 3;have zs:=M4.scan.fz 1;have ee:=M4.lt;have cR:=M4.tlt;have bV:=M4.scan.lt;revert q0 q1 t0 t1 t2 t3 z0 z1 z2 z3 zs ee cR bV;exact In.o):G:=i h
def YO(i:Hid P->G:=by
 intro In;have hb:∀o,Below (w.setCell ⟨rb,0,none⟩ (.slice (some ⟨tb,off+4,none⟩) (n-1) (cap-1))).heap.size (w.setCell ⟨rb,0,none⟩ (.slice (some ⟨tb,off+4,none⟩) (n-1) (cap-1))) ((w.setCell ⟨rb,0,none⟩ (.slice (some ⟨tb,off+4,none⟩) (n-1) (cap-1))).alloc o):=λo=>(Below.refl _ _).alloc (Nat.le_refl _) o;revert hb;exact In.o):G:=i h
def Ha(i:Hid P->G:=by
 intro In;obtain⟨q0,q1,q3,s0,s1,cB,eB⟩:=ao w2 (Below.refl _ _);obtain⟨cN,fq,fc,gy⟩:=en ao ci cB eB;revert q0 q1 q3 s0 s1 cB eB cN fq fc gy;exact In.o):G:=i h
def TB(i:Hid P->G:=by
 intro In;obtain⟨lS,oT,nR,oL,lT⟩:=gp (show zv=_ from eQ.trans (by rw[hz,aC])) dM eA (aD.below eA) (MFr.of_below (M:=M) eA);revert lS oT nR oL lT;exact In.o):G:=i h
def AbE(i:Hid P->G:=by
 intro In;refine vy (.take 0 (.take 1 (.take 2 (.take 3 (.take 4 (.take 5 (.take 6 (.take 7 (.take 8 (.two 9 (.take 10 (.take 11 (.take 12 (.take 13 (.go 14 (.go 15 (.go 16 (.go 17 (.nil))))))))) 14 (.go 9 (.take 10 (.take 11 (.take 12 (.take 13 (.go 15 (.go 16 (.go 17 (.nil))))))))))))))))))) 16 (λW=>vC W w.heap.size 0 (.bool fr.strict)/\vC W w.heap.size 1 (vI fr.vars)/\vC W x.b 3 (.slice (some ⟨xg,0,none⟩) 1 xc)/\vC W xg 0 (vP y.b)) (bW.o _ _ (MFr.drew (.refl _ _))) ?_
 refine qa ?_;refine Zr ?_;exact In.o):G:=i h
def UL(i:Hid P->G:=by
 intro In;refine HC.o.mono ?_;rintro e w1⟨rfl,hB⟩;obtain⟨q0,q1,q2,f0,f1,f2,hs,dn⟩:=Z51 hB;have eS:=HH.o.below hB;obtain⟨d0,d1,d2⟩:=HF.o w1 eS;have eI:=lh eS;have HB:=lh dn;clear hB dn eS;revert w1 q0 q1 q2 f0 f1 f2 hs d0 d1 d2 eI HB;exact In.o):G:=i h
def AaR(i:Hid P->G:=by
 intro In;refine ow [(true,0),(true,1),(true,2),(true,3),(true,4),(true,5),(true,6),(true,7),(true,8),(true,9),(true,10),(true,11),(true,12),(true,13)] [14,15,16] (λW=>vC W w.heap.size 0 (.bool fr.strict)/\vC W w.heap.size 1 (vI fr.vars)/\vC W a.b 3 (.slice (some ⟨kg,0,none⟩) 1 kc)/\vC W kg 0 (vP o.b)/\vC W o.b 0 (vI o.kind)/\vC W o.b 1 (.string o.text)) (HS.o _ _ (.drew (.refl _ _))) (λbq=>?_)
 refine oK ?_;refine Z0 ?_;revert bq;exact In.o):G:=i h
def Q'(i:Hid P->G:=by
 intro In;obtain⟨zv,eQ⟩:∃zv,zv=z.alloc (.cells #[vI 0,vI 0,.string ⟨#[]⟩] 56):=⟨_,rfl⟩
 revert zv eQ;exact In.o):G:=i h
def Ab5(i:Hid P->G:=by
 intro In;refine step_append_lies _ PM (.tmp 37) (.tmp 42) 39 PM B 22 i0 _ 1 8 underlying39 hi aC bo bQ rfl Py v kids.length (kids.map ATree.ptr) PM (N3.o.at'.rowOf.alloc _) ⟨w3.heap.size,0,none⟩ 1 1 [a.ptr] PM rfl (World.news_of_block (cs:=#[a.ptr]) (t:=22) (fr:=(0,0)) (heap_alloc_new w3 _)) PO Py PA Px Qq (w3.heap.size+1) PE ?_;intro gg cap w4 aS aB bS bY
 have m4:vC w4 nb 3 v:=(aB.cell_far ⟨nb,3,none⟩ PB (λe=>NE.o e.symm)).trans ((Zc dm).trans m3);revert gg cap w4 aS aB bS bY m4;exact In.o):G:=i h
def YB(i:Hid P->G:=by
 intro In;obtain⟨i1,x1,-,em,i2⟩:=bI.o;have F1:=ah.1.2.1;have dY:=ah.1.1;have ty:=F1.tree pF.o oU.o;have hst:=Int.le_trans HB.o x1.steps;obtain⟨r2,hr2⟩:∃r2,r2=V (y.nt C.N) sc fr s2:=⟨_,rfl⟩
 have bP:=lh (oV.o.from dY i1 (gZ.o.ext x1) hst i2 wy my ty.1 ty.2);have bC:=lh (HV.o (y.nt C.N) sc fr s2 _ wy my i1 (gZ.o.ext x1) hst i2).1;revert i1 x1 em i2 F1 dY ty hst r2 hr2 bP bC;exact In.o):G:=i h
def Uz(i:Hid P->G:=by
 intro In;refine Ze (λK hK=>?_);go_simp
 have ah:kW w7 (w7.alloc (.cells #[vP x.b] 22)):=(Below.refl _ _).alloc (Nat.le_refl _) _;revert K hK ah;exact In.o):G:=i h
def Aas(i:Hid P->G:=by
 intro In;refine ow [(true,0),(true,1),(true,2),(true,3),(true,4),(true,5),(true,6),(true,7),(true,8)] [9,10] (λW=>vC W p1 1 (vI n1)/\vC W a.b 1 (.string a.text)) (iB.o _ _ (.drew (.refl _ _))) (λbq=>?_);refine oK ?_;refine Z0 ?_;revert bq;exact In.o):G:=i h
def V4(i:Hid P->G:=by
 intro In;have an:=Got.push ay HP.o.le N3.o (wA:=wf.drew) NA.o A3.o jz.o R3.o ((Below.refl _ _).alloc (Nat.le_refl _) _) aB aS (bS.imp id λh=>by omega) bY;have ct:=lh an;clear an;refine Z0 ?_;revert ct;exact In.o):G:=i h
def SE(i:Hid P->G:=by
 intro In;have cx:=Zs ae (g:=g0) (by rw[gm];rfl) (i:=k) (x:=x.ptr) (by rw[List.getElem?_map,hx];rfl);revert cx;exact In.o):G:=i h
def AcN(i:Hid P->G:=by
 intro In;have bC:=lh an;have HR:=lh hR
 have bW:=lh (show∀W M',MFr Mk M' z1 W->vC W w.heap.size 0 (.bool fr.strict)/\vC W w.heap.size 1 (vI fr.vars)/\vC W x.b 3 (.slice (some ⟨xg,0,none⟩) 1 xc)/\vC W xg 0 (vP y.b)from
  λW M' f=>have g:=(MFr.of_below (M:=Mk) aO).trans f;⟨(dB.o.fr (HFk.o.trans g)).cell rfl,(dB.o.fr (HFk.o.trans g)).cell rfl,(g.cell eJ.o.1.lt eJ.o.2.blk).trans kb,(g.cell jn fR).trans uE⟩)
 have av:=lh aO;revert bC HR bW av;exact In.o):G:=i h
def Z'(i:Hid P->G:=by
 intro In;have HC:=lh (Xp w3 rb B _ d _ _ P3.o.rd (by have:=P3.o.deep;omega) ay hv λhd h1 w4 hR hs=>HS.o w4 rb B (d+1) _ _ ⟨hR,hd,ay,by have:=P3.o.le;omega,P3.o.few⟩ h1);have ke:=lh (Nat.le_of_lt (Leaves.within (XK f .stmt (d+1) _) ty us hv));have uF:=lh oW;revert HC ke uF;exact In.o):G:=i h
def vf(i:Hid P->G:=by
 intro In;refine hK _ _ m3 ?_;obtain⟨i0,hi,aC,bo,bQ⟩:=info_parts Td;revert i0 hi aC bo bQ;exact In.o):G:=i h
def Aay(i:Hid P->G:=by
 intro In;refine step_append_lies _ PM (.tmp 34) (.tmp 41) 39 PM B 22 i0 _ 1 8 underlying39 hi aC bo bQ rfl Py (.slice p kids.length cp) (kids).length ((kids).map ATree.ptr) PM (N3.o.at'.rowOf.alloc _) ⟨dx.heap.size,0,none⟩ 1 1 [a.ptr] PM rfl (World.news_of_block (cs:=#[a.ptr]) (t:=22) (fr:=(0,0)) (heap_alloc_new dx _)) PO Py PA Px PN (dx.heap.size+1) PE ?_;exact In.o):G:=i h
def AcA(i:Hid P->G:=by
 intro In;refine step_append_lies _ PM (.tmp 35) (.tmp 40) 39 PM B 22 i0 _ 1 8 underlying39 hi aC bo bQ rfl Py (.slice p kids.length cp) kids.length (kids.map ATree.ptr) PM (N3.o.at'.rowOf.alloc _) ⟨dx.heap.size,0,none⟩ 1 1 [a.ptr] PM rfl (World.news_of_block (cs:=#[a.ptr]) (t:=22) (fr:=(0,0)) (heap_alloc_new dx _)) PO Py PA Px PN (dx.heap.size+1) PE ?_;exact In.o):G:=i h
def Acf(i:Hid P->G:=by
 intro In;refine step_append_lies _ PM (.tmp 47) (.tmp 50) 39 PM B 22 i0 _ 1 8 underlying39 hi aC bo bQ rfl Py (.slice p kids.length cp) (kids).length ((kids).map ATree.ptr) PM (N3.o.at'.rowOf.alloc _) ⟨w3.heap.size,0,none⟩ 1 1 [a.ptr] PM rfl (World.news_of_block (cs:=#[a.ptr]) (t:=22) (fr:=(0,0)) (heap_alloc_new w3 _)) PO Py PA Px Qq (w3.heap.size+1) PE ?_;exact In.o):G:=i h
def Aag(i:Hid P->G:=by
 intro In;refine ow [(true,0),(false,1)] [2,3] (λW=>vC W (w.heap.size+1+1) 0 (vI 0)/\vC W (w.heap.size+1+1) 1 (vI 0)/\vC W (w.heap.size+1+1) 2 (.string ⟨#[]⟩)) ⟨m0,m1,m2⟩ (λbq=>?_);revert bq;exact In.o):G:=i h
def AcC(i:Hid P->G:=by
 intro In;have aA:kW w7 ((w7.alloc (.cells #[vP x.b] 22)).alloc (.cells #[vI 14,.string ⟨#[]⟩,vI 0,.slice (some ⟨w7.heap.size,0,none⟩) 1 1] 41)):=ah.alloc PE _;refine(Zw (w7.alloc (.cells #[vP x.b] 22)) rb 14 ⟨#[]⟩ (some ⟨w7.heap.size,0,none⟩) 1 1).mono ?_;rintro e dx⟨rfl,cY⟩;have hA:Got wf.drew B dx (.mk (w7.heap.size+1) (.slice (some ⟨w7.heap.size,0,none⟩) 1 1) 14 ⟨#[]⟩ 0 [x]) (.mk 14 ⟨#[]⟩ 0 [t]):=RY
 revert aA dx cY hA;exact In.o):G:=i h
def Aap(i:Hid P->G:=by
 intro In;refine vy (.take 0 (.take 1 (.take 2 (.take 3 (.go 4 (.go 5 .nil)))))) 4 (λW=>vC W p2 0 (vI k2)/\vC W p2 1 (vI n2)/\vC W p2 2 (.string t2)) ⟨b0,b1,b2⟩ ?_;refine qa ?_;exact In.o):G:=i h
def Aal(i:Hid P->G:=by
 intro In;refine HC.o.mono ?_;rintro e w4⟨y,rfl,hY,hR,be⟩;have kT:=X3.o.rfr ay be;have kU:=F3.o.trans be;have nX:Got w B w4 x t:=kT;have ah:kW w4 (w4.alloc (.cells #[vP xb,vP y.b] 22)):=(Below.refl _ _).alloc (Nat.le_refl _) _;revert w4 y hY hR be kT kU nX ah;exact In.o):G:=i h
def AaS(i:Hid P->G:=by
 intro In
 have pG:=lh (show∀(i:Nat) (u:LVal),vs[i]?=some u->∃g,pv=some ⟨g,0,none⟩/\∀M' W',MFr M1 M' W W'->W'.cell? ⟨g,i*3,none⟩=some (vI u.kind)/\W'.cell? ⟨g,i*3+1,none⟩=some (vI u.n)/\W'.cell? ⟨g,i*3+2,none⟩=some (.string u.s)from
  λi u hu=>by
   obtain⟨g,h1,h2,h3,a0,a1,a2⟩:=iH i u hu;exact⟨g,h1,λM' W' f=>⟨((hF.trans f).cell h2 h3).trans a0,((hF.trans f).cell h2 h3).trans a1,((hF.trans f).cell h2 h3).trans a2⟩⟩)
 revert pG;exact In.o):G:=i h
def FR(i:Hid P->G:=by
 intro In;obtain⟨dB,HBZ,HM,HO,HE⟩:=gp lf aP aD h.old.size aP.size;revert dB HBZ HM HO HE;exact In.o):G:=i h
def Wl(i:Hid P->G:=by
 intro In;obtain⟨r1,bz⟩:∃r1,r1=V (o.nt C.N) sc fr s:=⟨_,rfl⟩
 have bE:=lh (cj.from aD hI hA hb hs wo mo (aI.kid im) (hf.kid im));have an:=(hV (o.nt C.N) sc fr s _ wo mo hI hA hb hs).1;revert r1 bz bE an;exact In.o):G:=i h
def Aci(i:Hid P->G:=by
 intro In;have aA:kW w7 ((w7.alloc (.cells #[vP x.b] 22)).alloc (.cells #[vI 39,.string s,vI 0,.slice (some ⟨w7.heap.size,0,none⟩) 1 1] 41)):=ah.alloc PE _;refine(Zw (w7.alloc (.cells #[vP x.b] 22)) rb 39 s (some ⟨w7.heap.size,0,none⟩) 1 1).mono ?_;rintro e dx⟨rfl,cY⟩;have hA:Got w6.drew B dx (.mk (w7.heap.size+1) (.slice (some ⟨w7.heap.size,0,none⟩) 1 1) 39 s 0 [x]) (.mk 39 s 0 [t]):=RY
 revert aA dx cY hA;exact In.o):G:=i h
def VM(i:Hid P->G:=by
 intro In;have jA:(w.alloc (.cells #[vI vk,vI vn,.string vs] 56)).cell? ⟨L.sb m,1,none⟩=some (vI s.object):=by have:=(h1.scp m s hm).1;simp[vC,World.cell?,this]
 revert jA;exact In.o):G:=i h
def Uo(i:Hid P->G:=by
 intro In;have mz:w3.frozen? ⟨nb,3,none⟩=false:=Qg
 have dm:nb<w3.heap.size:=(Array.getElem?_eq_some_iff.1 ac).1;revert mz dm;exact In.o):G:=i h
def YE(i:Hid P->G:=by
 intro In;refine HN.o.mono ?_;rintro e wn⟨rfl,jw⟩;have bj:kW w4 wn:=by rw[jw];exact ah.alloc PE _
 have aZ:(w4.alloc (.cells #[vP xb,vP y.b] 22)).heap.size=sb+1:=by rw[cE.o];simp
 revert wn jw bj aZ;exact In.o):G:=i h
def Abj(i:Hid P->G:=by
 intro In;have aq:∀W M',MFr M M' z W->vC W w.heap.size 0 (.bool fr.strict)/\vC W w.heap.size 1 (vI fr.vars)/\vC W a.b 3 (.slice (some ⟨kg,0,none⟩) 1 kc)/\vC W kg 0 (vP o.b):=λW M' f=>
  have g:MFr M M' w W:=(MFr.of_below aP).trans f;⟨(lf.fr f).cell rfl,(lf.fr f).cell rfl,(g.cell bN hf.blk).trans c3,(g.cell aX eZ).trans k0⟩
 revert aq;exact In.o):G:=i h
def UV(i:Hid P->G:=by
 intro In;try simp only[Act.put,zA,zB,zC]
 refine o4 (λK hK=>?_);revert K hK;exact In.o):G:=i h
def Adc(i:Hid P->G:=by
 intro In;refine ow [(true,0),(true,1),(true,2),(true,3),(true,4),(true,5),(true,6),(true,7),(true,8)] [9] (λW=>vC W (w.heap.size+1+1+1) 0 (vI k1)/\vC W (w.heap.size+1+1+1) 1 (vI n1)/\vC W (w.heap.size+1+1+1) 2 (.string t1)/\vC W a.b 1 (.string a.text)) (HS20.o _ _ (.drew (.refl _ _))) (λbq=>?_);refine oK ?_;refine Z0 ?_;revert bq;exact In.o):G:=i h
def SK(i:Hid P->G:=by
 intro In;obtain⟨q,hq⟩:∃q,q=a.kids.length:=⟨_,rfl⟩
 obtain⟨pp,cp,cg,bU,ej,cU⟩:=ll.slice aI.rowOf;revert q hq pp cp cg bU ej cU;exact In.o):G:=i h
def B'(i:Hid P->G:=by
 intro In;simp only[ag];refine oK ?_;refine Z0 ?_;exact In.o):G:=i h
def UK(i:Hid P->G:=by
 intro In;obtain⟨m0,m1,m2,-,-,-⟩:=(bM.o.fr ba.o).six;obtain⟨q0,q1,q2,z0,z1,z2⟩:=(HLR.o.fr ba.o).six;revert m0 m1 m2 q0 q1 q2 z0 z1 z2;exact In.o):G:=i h
def Zg4(i:Hid P->G:=by
 intro In;have ac:=N.o.at'.blkOf;simp only[ATree.b,ATree.v,ATree.kind,ATree.text,ATree.n]at ac;revert ac;exact In.o):G:=i h
def Zsq(i:Hid P->G:=by
 intro In;refine(bB.o w1 eI.o).mono ?_;rintro e w2⟨rfl,ar⟩;have fk:=eI.o.below ar;have r0:=HR.o w2 fk 5 _ rfl;have r1:=HR.o w2 fk 1 (vI pk) rfl;have r2:=HR.o w2 fk 2 (vI pm) rfl;have r3:=HR.o w2 fk 3 (.string ps) rfl;revert w2 ar fk r0 r1 r2 r3;exact In.o):G:=i h
def Zu3(i:Hid P->G:=by
 intro In;have F3:=FF.o.trans (RFr.below (rb:=rb) hB3);have G3:=G.o.rfr ay (RFr.below (rb:=rb) hB3);have R3:=R.o.below hB3;have P3:Pre w3 rb B d us:=⟨R3,HP.o.deep,ay,Nat.le_trans HP.o.le F3.size,Nat.le_trans hu HP.o.few⟩
 revert F3 G3 R3 P3;exact In.o):G:=i h
def Xi(i:Hid P->G:=by
 intro In;have i2:sk.steps<=20000:=i2;have gz:b<=sk.steps:=by have:=HB.o;have h2:s.steps<=sk.steps:=x1.steps;omega
 obtain⟨r3,de⟩:∃r3,r3=D (y.nt C.N) sc fr sk:=⟨_,rfl⟩
 have bP:=lh (iP.o.from bT.o i1 (gZ.o.ext x1) gz i2 wy my ((eJ.o.1.kid ex).bel aO) (eJ.o.2.kid ex));have an:=(HD.o (y.nt C.N) sc fr sk _ wy my (i1.less (d':=d+2*(q-(k+1))) Px) (gZ.o.ext x1) gz i2).1;revert i2 gz r3 de bP an;exact In.o):G:=i h
def AbR(i:Hid P->G:=by
 intro In;have HS20:=lh (show∀W M',MFr M1 M' W1 W->vC W (w.heap.size+1+1+1) 0 (vI k1)/\vC W (w.heap.size+1+1+1) 1 (vI n1)/\vC W (w.heap.size+1+1+1) 2 (.string t1)/\vC W a.b 1 (.string a.text)from λW M' f=>have g:=rM.o W M' f;⟨g.1,g.2.1,g.2.2,(BP.o W M' f).2.2.2.1⟩);revert HS20;exact In.o):G:=i h
def X6(i:Hid P->G:=by
 intro In;refine HC.o.mono ?_;rintro e iQ⟨rfl,eK,be⟩;have PQ:=lh (show Pre iQ rb B d us.tail/\us.tail.length<=ts.length from⟨P3.o.tail eK be,by have:=HU.o;rw[List.length_tail];omega⟩);have GQ:=lh (G3.o.rfr ay be);have FQ:=lh (F3.o.trans be);have PL:=lh (show us.tail.length<=us.length by rw[List.length_tail];omega);have ac:=GQ.o.at'.blkOf;simp only[ATree.b,ATree.v,ATree.kind,ATree.text,ATree.n]at ac;revert iQ eK be PQ GQ FQ PL ac;exact In.o):G:=i h
def Zrb(i:Hid P->G:=by
 intro In;first|refine Zis _ ?_|refine Zid ?_
 simp only[Act.put,List.setIfInBounds_toArray,List.set_cons_zero,List.set_cons_succ];exact In.o):G:=i h
def Ztv(i:Hid P->G:=by
 intro In;refine rN.o.mono ?_;rintro e w3⟨rfl,bj⟩;have fX:kW w2 w3:=(Below.refl w2.heap.size w2).drew.trans bj;obtain⟨r0,r1,r3,u0,u1,iC,mn⟩:=cN.o w3 fX;obtain⟨eg,gI,mp⟩:=ds fX iC mn;clear bj fX iC mn;revert w3 r0 r1 r3 u0 u1 eg gI mp;exact In.o):G:=i h
def Zmg(i:Hid P->G:=by
 intro In;have jo:vP (w7.heap.size+1)=(vP a.b):=by rw[ha];rfl
 revert jo;exact In.o):G:=i h
def Zst(i:Hid P->G:=by
 intro In;have an:=Got.push ay HP.o.le N3.o (wA:=w6.drew) NA.o A3.o jz.o R3.o ((Below.refl _ _).alloc (Nat.le_refl _) _) aB aS (bS.imp id λh=>by omega) bY;have ct:=lh an;clear an;refine Z0 ?_;revert ct;exact In.o):G:=i h
def XH(i:Hid P->G:=by
 intro In;refine ow [(true,0),(true,1),(true,2),(true,3),(true,5),(true,6),(true,7),(true,8),(true,9),(false,4)] [10,11] (λW=>vC W p1 0 (vI k1)/\vC W p1 1 (vI n1)/\vC W p1 2 (.string t1)/\vC W a.b 0 (vI 25)) (dp.o _ _ (.drew (.refl _ _))) (λbq=>?_);revert bq;exact In.o):G:=i h
def Zym(i:Hid P->G:=by
 intro In;refine ow [(true,0),(true,1),(true,2),(true,3),(true,5),(true,6),(true,7),(true,8),(true,9),(false,4)] [10,11] (λW=>vC W p1 0 (vI k1)/\vC W p1 1 (vI n1)/\vC W p1 2 (.string t1)/\vC W a.b 0 (vI 26)) (dp.o _ _ (.drew (.refl _ _))) (λbq=>?_);revert bq;exact In.o):G:=i h
def Xd(i:Hid P->G:=by
 intro In;refine ow [(true,0),(true,1),(true,2),(true,3),(true,4),(true,5),(true,6),(false,7),(true,8),(true,9),(true,10)] [11,12,13] (λW=>vC W w.heap.size 0 (.bool fr.strict)/\vC W w.heap.size 1 (vI fr.vars)/\vC W a.b 3 (.slice pp q cp)) (uG.o _ _ (.drew (.refl _ _))) (λbq=>?_);revert bq;exact In.o):G:=i h
def Yw(i:Hid P->G:=by
 intro In;obtain⟨R,aQ⟩:∃R,R=yk V D fu (a.nt C.N) sc fr s:=⟨_,rfl⟩
 revert R aQ;exact In.o):G:=i h
def Zuf(i:Hid P->G:=by
 intro In;refine Ze (λK hK=>?_);go_simp
 refine hK _ _ ⟨(Zc aK).trans d2,(Zc hs).trans q0,(Zc hs).trans q1,(Zc hs).trans q2⟩ ?_;clear hK K;refine Ze (λK hK=>?_);revert K hK;exact In.o):G:=i h
def Zom(i:Hid P->G:=by
 intro In;have fS:(w7.alloc (.cells #[vP x.b] 22)).heap.size=w7.heap.size+1:=PE
 revert fS;exact In.o):G:=i h
def Zxo(i:Hid P->G:=by
 intro In;have eY:=lh fP;refine(HV.o g Px w6.drew rb B d _ _ P7 hv).mono ?_;rintro e w7⟨x,rfl,hX,lY,dJ⟩;have eL:RFr w6 w7 rb:=(RFr.refl w6 rb).drew.trans dJ;have kJ:=G6.o.rfr ay eL;have ac:=kJ.at'.blkOf;simp only[ATree.b,ATree.v,ATree.kind,ATree.text,ATree.n]at ac;have m3:w7.cell? ⟨nb,3,none⟩=some (.slice p kids.length cp):=PC
 refine hK _ _ m3 ?_;revert eY w7 x hX lY dJ eL kJ ac m3;exact In.o):G:=i h
def Zqr(i:Hid P->G:=by
 intro In;have bN:=ha.lt;have hob:=(ha.kid im).lt;have mq:=hf.kid im;have qW:=(ha.kid im).c0;have qX:=(ha.kid im).c1;have c0:=(aP.cell bN).trans ha.c0;revert bN hob mq qW qX c0;exact In.o):G:=i h
def Xb(i:Hid P->G:=by
 intro In;have he:ax C M1 W1 x1 bL:=ah.1.2.2;have av:=lh ah;have hR:=HR.o;revert he av hR;exact In.o):G:=i h
def Zvo(i:Hid P->G:=by
 intro In;refine HC.o.mono ?_;rintro e w3⟨x,rfl,hX,bG,bg⟩;obtain⟨P3,F3,X3⟩:=ds (P2.o.next bG bg fO.o) (F2.o.trans bg) (hX.pre F2.o);obtain⟨xb,g9⟩:∃b,b=x.b:=⟨_,rfl⟩
 have uH:=lh g9;revert w3 x hX bG bg P3 F3 X3 xb g9 uH;exact In.o):G:=i h
def Zx4(i:Hid P->G:=by
 intro In;have HZ:=lh (show z=_ from hz.trans (by rw[aC]));have cV:vC z 0 0 (pY C.eb):=(aD.old.cell hC.stopB).trans hC.stop;have dv:decide (20000<s.steps+1)=true:=decide_eq_true Px;obtain⟨HLR,HFz,bM⟩:=ds lr eG ln;have BQ:=Nat.lt_of_lt_of_le hC.stopB h.old.size;have HM:=lh aD;obtain⟨m0,m1,m2,-,-,-⟩:=ln.six;obtain⟨q0,q1,q2,z0,z1,z2⟩:=(HLR.o.fr (.refl _ _)).six;revert HZ cV dv HLR HFz bM BQ HM m0 m1 m2 q0 q1 q2 z0 z1 z2;exact In.o):G:=i h
def Zul(i:Hid P->G:=by
 intro In;have hR:=aQ.trans (Zmb (fr:=fr) (sc:=sc) (V:=V) (D:=D) (f:=fu) (n:=a.nt C.N) hs (by rw[Zb,hk];simp) (by rw[Zb,hk];exact λh2=>absurd h2 Py));revert hR;exact In.o):G:=i h
def Zqw(i:Hid P->G:=by
 intro In;obtain⟨M0,w2,cw,fw,ci⟩:∃M0 w2,MAt C M0 w2 so/\MFr M M0 z w2/\w2=z:=⟨M,z,by rw[yh.o];exact HM.o,.refl _ _,rfl⟩
 revert M0 w2 cw fw ci;exact In.o):G:=i h
def Zth(i:Hid P->G:=by
 intro In;refine HA.o.mono ?_;rintro e w1⟨rfl,hB⟩;obtain⟨q0,hs,dn⟩:=Zna hB;have eS:=HH.o.below hB;obtain⟨d1,d2,z2,aK,qY⟩:=HF.o w1 eS;have eI:=lh eS;have av:=lh dn;clear hB dn eS qY;revert w1 q0 hs d1 d2 z2 aK eI av;exact In.o):G:=i h
def Zxv(i:Hid P->G:=by
 intro In;refine(bP.o _ (Zd _)).mono ?_;rintro e W3⟨M3,b3,k3,n3,t3,fg,rfl,bj⟩;have F3:=(MFr.drew (.refl M1 W2)).trans bj.2.1;refine hK _ _ (oX.o _ _ F3) ?_;have HB3:=lh bj;have bK:=lh (ba.o.trans F3);clear bj F3;revert W3 M3 b3 k3 n3 t3 fg HB3 bK;exact In.o):G:=i h
def Xg(i:Hid P->G:=by
 intro In;have c3:w1.cell? ⟨a.b,3,none⟩=some (.slice p a.kids.length cp):=PC
 have aE:a.kids.length<=9223372036854775807:=by
  rcases Z4 ae with⟨h1,h2⟩|⟨g0,gA,h1,k1,k2,k3⟩;·omega
  .unfold maxLen at k2;omega
 have eC:=lh fW;have HV:=lh hv;obtain⟨n,hn⟩:∃n,n=a.kids.length:=⟨_,rfl⟩
 revert c3 aE eC HV n hn;exact In.o):G:=i h
def Zy5(i:Hid P->G:=by
 intro In;obtain⟨i0,hi,aC,bo,bQ⟩:=info_parts Td;have ac:=hT.blkOf;have ae:=hT.rowOf;obtain⟨p,cp,hv,bU⟩:∃p cp,a.v=.slice p a.kids.length cp/\a.kids.length<=cp:=by
  exact AbC
 have c3:w.cell? ⟨a.b,3,none⟩=some (.slice p a.kids.length cp):=by rw[<-hv];simp[vC,World.cell?,ac]
 have aE:a.kids.length<=9223372036854775807:=Px
 have HT:=lh hT;have HV:=lh hv;revert i0 hi aC bo bQ ac ae p cp hv bU c3 aE HT HV;exact In.o):G:=i h
def Zwh(i:Hid P->G:=by
 intro In;have aT:y∈P:=List.mem_of_getElem? hy;have bJ:=nj.o y aT;have cx:=(HFk.o.nodes N5.o kK.o).cell rfl hy;have HFz:=lh ((MFr.of_below (M:=M1) gI.o).trans HFk.o);revert aT bJ cx HFz;exact In.o):G:=i h
def S'(i:Hid P->G:=by
 intro In;obtain⟨N3,A3,R3⟩:=ds fJ hA bG;revert N3 A3 R3;exact In.o):G:=i h
def Zx1(i:Hid P->G:=by
 intro In;refine Z9 [(true,0),(true,1),(true,2),(true,3),(true,4),(true,5),(true,6),(true,7),(true,8),(true,9),(false,10),(true,11)] [12] (λW=>vC W C.mb 10 (vI 0)) Pz Pz (λc a d v w h=>fA.o _ c a d v w h) kL (λbq=>?_);revert bq;exact In.o):G:=i h
def AbW(i:Hid P->G:=by
 intro In;refine HC.o.mono ?_;rintro e w3⟨a,rfl,hG,hR,hF⟩;have HE:=lh (Zdr w w3 rb B d vs a t r (P2.o.next hR hF fO.o) (hG.pre F2.o) (F2.o.trans hF) eY.o);clear hG hR hF;revert w3 a HE;exact In.o):G:=i h
def Zzs(i:Hid P->G:=by
 intro In;have c3:=bR.o.cell 3 (vI 0) PI;have c4:=bR.o.cell 4 (.string ⟨#[]⟩) PI;have c5:=bR.o.cell 5 (vI s9.steps) PI;have c2:=bR.o.rcell 0 Py;have c6:=bR.o.rcell 1 Py;have y3:=bR.o.fz 3;obtain⟨C2,C4,C5,C6,C3⟩:=gp c2 c4 c5 c6 c3;revert c3 c4 c5 c2 c6 y3 C2 C4 C5 C6 C3;exact In.o):G:=i h
def Zx0(i:Hid P->G:=by
 intro In;have c1:w1.cell? ⟨pb,0,none⟩=some (.pointer none):=by simp[vC,World.cell?,b1]
 have c2:w1.cell? ⟨eb,0,none⟩=some .nilIface:=by simp[vC,World.cell?,b2]
 have z1:w1.frozen? ⟨pb,0,none⟩=false:=by simp[World.frozen?,b1]
 have z2:w1.frozen? ⟨eb,0,none⟩=false:=by simp[World.frozen?,b2]
 revert c1 c2 z1 z2;exact In.o):G:=i h
def Zyz(i:Hid P->G:=by
 intro In;have HY:=lh (qZ.o y (List.mem_of_getElem? Hy.o));have tg:=lh (ba.o.tree HY.o.1 HY.o.2);have bP:=lh (iP.o.from bR.o eC.o (gZ.o.ext lg.o) (Int.le_trans HB.o lg.o.steps) mr.o (xl.o y (List.mem_of_getElem? Hy.o)).1 (xl.o y (List.mem_of_getElem? Hy.o)).2 tg.o.1 tg.o.2);revert HY tg bP;exact In.o):G:=i h
def Zzr(i:Hid P->G:=by
 intro In;refine ow [(true,0),(true,1),(true,2),(true,3),(true,4),(true,5),(true,6),(true,7),(true,8),(true,9),(true,10)] [11,12,13,14,15] (λW=>vC W a.b 1 (.string a.text)) (HS.o _ _ (.drew (.of_below av.o))) (λbq=>?_);refine oK ?_;refine Z0 ?_;revert bq;exact In.o):G:=i h
def XL(i:Hid P->G:=by
 intro In;refine calls_of_wp (c:=ky []) func145 Zvz ?_;simp only[ntmps145,List.size_toArray,List.length_cons,List.length_nil,Nat.reduceAdd,Nat.reduceSub,Array.replicate_succ,Array.replicate_zero,List.push_toArray,List.append_toArray,List.nil_append,List.cons_append];exact In.o):G:=i h
def Zw5(i:Hid P->G:=by
 intro In;have ac:=kJ.at'.blkOf;simp only[ATree.b,ATree.v,ATree.kind,ATree.text,ATree.n]at ac;revert ac;exact In.o):G:=i h
def Zl8(i:Hid P->G:=by
 intro In;have dP:=VB text ay HT.o;have cC:=dP.1;have aR:=dP.2.1;clear dP;revert cC aR;exact In.o):G:=i h
def Ta(i:Hid P->G:=by
 intro In;refine HT.o.mono ?_;rintro e w2⟨rfl,am,ap⟩;revert w2 am ap;exact In.o):G:=i h
def Zzn(i:Hid P->G:=by
 intro In;have aG:vs.ownBlock≠some hb:=λe=>HR.o hb e rfl;obtain⟨k1,k2,k3,k4,k5,k6,k7,k8,k9,jB⟩:=Z4d (.slice (some ⟨g,0,none⟩) (n+1) cap) hA HG.o cA aG iD;have hv:=HV.o;have ym:∀g',vs.ownBlock=some g'->g'<w.heap.size:=HL.o;have gJ:g≠hb:=by
  rcases HT.o with h|h;·exact HR.o g h
  .omega
 have h:=HH.o;revert aG k1 k2 k3 k4 k5 k6 k7 k8 k9 jB hv ym gJ h;exact In.o):G:=i h
def Zvd(i:Hid P->G:=by
 intro In;refine leaves_cons (f:=28) (args:=#[vP pb,vP eb]) PE (by simp[go_sem]) ?_;exact In.o):G:=i h
def Zyj(i:Hid P->G:=by
 intro In;refine HF.o.mono ?_;rintro e w1⟨rfl,hB⟩;simp only[Ed];have q0:=Zy hB 0 (vI 0) rfl;have q1:=Zy hB 1 (vI 0) rfl;have q2:=Zy hB 2 (.string ⟨#[]⟩) rfl;have f0:=Z1n hB 0;have f1:=Z1n hB 1;have f2:=Z1n hB 2;have hs:=Z5k hB;revert w1 hB q0 q1 q2 f0 f1 f2 hs;exact In.o):G:=i h
def Sp(i:Hid P->G:=by
 intro In;have aD:=h.below aP;have aI:=ha.bel aP;revert aD aI;exact In.o):G:=i h
def WQ(i:Hid P->G:=by
 intro In;refine vy (.take 0 (.take 1 (.take 2 (.take 3 (.go 4 (.go 5 .nil)))))) 4 (λW=>vC W p1 0 (vI k1)/\vC W p1 1 (vI n1)/\vC W p1 2 (.string t1)) ⟨b0,b1,b2⟩ ?_;refine qa ?_;exact In.o):G:=i h
def Zs4(i:Hid P->G:=by
 intro In;have HQ:=lh hq;have yo:q+1<=9223372036854775807:=Px
 obtain⟨tx,bc⟩:∃t,t=a.text:=⟨_,rfl⟩
 revert HQ yo tx bc;exact In.o):G:=i h
def Zx7(i:Hid P->G:=by
 intro In;refine vy (.take 0 (.take 1 (.take 2 (.take 3 (.go 4 (.go 5 .nil)))))) 4 (λW=>vC W p1 0 (vI kk)/\vC W p1 1 (vI nk)/\vC W p1 2 (.string tk)) ⟨b0,b1,b2⟩ ?_;refine qa ?_;exact In.o):G:=i h
def Zm9(i:Hid P->G:=by
 intro In;rintro e w1⟨rfl,aO⟩;obtain⟨q0,q1,q2,z0,z1,z2⟩:=(HLR.o.bel aO).six;have av:=lh aO;clear aO;revert w1 q0 q1 q2 z0 z1 z2 av;exact In.o):G:=i h
def Zr4(i:Hid P->G:=by
 intro In;refine(gu.o w3 mp.o).mono ?_;rintro e w9⟨rfl,fI⟩;have eH:=lh ((gI.o).trans (fI.mono (gI.o).size));revert w9 fI eH;exact In.o):G:=i h
def Zuj(i:Hid P->G:=by
 intro In;refine(gu.o w2 gy.o).mono ?_;rintro e w9⟨rfl,fI⟩;have eH:=lh ((fc.o).trans (fI.mono (fc.o).size));revert w9 fI eH;exact In.o):G:=i h
def Xt(i:Hid P->G:=by
 intro In;obtain⟨r1,bz⟩:∃r1,r1=V (x.nt C.N) sc fr s1:=⟨_,rfl⟩
 have bE:=lh (λW (hB:kW zv W)=>cj.from aD fK (hA.ext dI) ah iW wx mx (aI.kid dX) (bu.kid dX) W (eA.trans (hB.mono eA.size)));have an:=(hV (x.nt C.N) sc fr s1 _ wx mx fK (hA.ext dI) ah iW).1;revert r1 bz bE an;exact In.o):G:=i h
def Zvs(i:Hid P->G:=by
 intro In;rintro e wf⟨rfl,kM⟩;obtain⟨N,PQ,FQ⟩:=ds (N.o.rfr ay (RFr.below (rb:=rb) kM)) (PQ.o.below kM) (FQ.o.trans (RFr.below (rb:=rb) kM));revert wf kM N PQ FQ;exact In.o):G:=i h
def Zj9(i:Hid P->G:=by
 intro In;obtain⟨R,hR⟩:∃R,R=Cj V D (a.nt C.N) sc fr s:=⟨_,rfl⟩
 revert R hR;exact In.o):G:=i h
def XN(i:Hid P->G:=by
 intro In;have Do:=(ar.frozen (p:=⟨w.heap.size,0,none⟩) hs).trans f0;have Dp:=(ar.frozen (p:=⟨w.heap.size,1,none⟩) hs).trans f1;have Dq:=(ar.frozen (p:=⟨w.heap.size,2,none⟩) hs).trans f2;have dK:=Nat.lt_of_lt_of_le hs ar.size;have aN:=lh (HB.o.trans (ar.mono (Nat.le_of_lt hs)));revert Do Dp Dq dK aN;exact In.o):G:=i h
def WM(i:Hid P->G:=by
 intro In;refine Ze (λK hK=>?_);go_simp
 refine hK _ _ ((Zc cR).trans t3) ?_;clear hK K;exact In.o):G:=i h
def WE(i:Hid P->G:=by
 intro In;have hF:=λ(w':kV) (h:TreeAt w' B0 a)=>YN w' B0 a h Px;have hL:=λ(w':kV) (h:TreeAt w' B0 a)=>YU w' B0 a h Px;obtain⟨P,hP⟩:∃P,P=a.kids.filter xk:=⟨_,rfl⟩
 obtain⟨Q,hQ⟩:∃Q,Q=a.kids.filter vG:=⟨_,rfl⟩
 revert hF hL P hP Q hQ;exact In.o):G:=i h
def Zz3(i:Hid P->G:=by
 intro In;refine HC.o.mono ?_;rintro e w1⟨rfl,fW⟩;have nn:=HT.o _ _ fW;have ac:=nn.blkOf;have ae:=nn.rowOf;obtain⟨p,cp,hv⟩:∃p cp,a.v=.slice p a.kids.length cp:=by
  rcases Z4 ae with⟨h1,h2⟩|⟨g0,gA,h1,_⟩;·exact⟨none,0,by rw[h1,h2]⟩
  .exact⟨_,_,h1⟩
 revert w1 fW nn ac ae p cp hv;exact In.o):G:=i h
def Zyl(i:Hid P->G:=by
 intro In;have ay:=HP.o.lt;obtain⟨F2,G2,R2⟩:=ds (FF.o.trans (RFr.below (rb:=rb) ar)) (G.o.rfr ay (RFr.below (rb:=rb) ar)) (R.o.below ar);have ac:=G2.o.at'.blkOf;have ae:=G2.o.at'.rowOf;simp only[ATree.b,ATree.v,ATree.kind,ATree.text,ATree.n,ATree.kids]at ac ae;revert ay F2 G2 R2 ac ae;exact In.o):G:=i h
def Ztr(i:Hid P->G:=by
 intro In;refine HT.o.mono ?_;rintro e wf⟨rfl,hRf,hFf⟩;obtain⟨N,PQ,FQ⟩:=ds (N.o.rfr ay hFf) (PQ.o.tail hRf hFf) (FQ.o.trans hFf);clear hRf hFf;revert wf N PQ FQ;exact In.o):G:=i h
def Zrq(i:Hid P->G:=by
 intro In;refine Ze (λK hK=>?_);go_simp
 have P7:Pre wf.drew rb B d _:=PQ.o.below (Below.refl _ _).drew;revert K hK P7;exact In.o):G:=i h
def Zqv(i:Hid P->G:=by
 intro In;have t0:=h.hd (j:=0) rfl;have t1:=h.hd (j:=1) rfl;have t2:=h.hd (j:=2) rfl;have t3:=h.hd (j:=3) rfl;revert t0 t1 t2 t3;exact In.o):G:=i h
def Xx(i:Hid P->G:=by
 intro In;have rO:¬2000<(text.size:Int):=Px
 have hd:decide (2000<(text.size:Int))=false:=by simpa using rO
 have Dr:¬2000<text.size:=Px
 have q1:¬(14+text.size>9223372036854775807):=Px
 have dp:=lh (Zgs text);have bW:=lh (Zgd text);revert rO hd Dr q1 dp bW;exact In.o):G:=i h
def Xw(i:Hid P->G:=by
 intro In;obtain⟨q0,q1,q2,z0,z1,z2⟩:=(HLR.o.fr bK.o).six;revert q0 q1 q2 z0 z1 z2;exact In.o):G:=i h
def Zq6(i:Hid P->G:=by
 intro In;have m3:dx.cell? ⟨nb,3,none⟩=some (.slice p kids.length cp):=PC
 revert m3;exact In.o):G:=i h
def Wn(i:Hid P->G:=by
 intro In;have aH:=lh au;have ao:=Zs1 w B a st ins h.t;revert aH ao;exact In.o):G:=i h
def Zqf(i:Hid P->G:=by
 intro In;have hm:=h.most;have dA:=h.le;unfold maxLen at hm;obtain⟨n,hn⟩:∃n,n=ts.length:=⟨_,rfl⟩
 revert hm dA n hn;exact In.o):G:=i h
def Zt8(i:Hid P->G:=by
 intro In;have ht:=Zd7 W1 ⟨k1,n1,t1⟩;simp only[LVal.agg]at ht;obtain⟨bt,cO⟩:∃bt,bt=(⟨k1,n1,t1⟩:LVal).true:=⟨_,rfl⟩
 revert ht bt cO;exact In.o):G:=i h
def Zks(i:Hid P->G:=by
 intro In;obtain⟨HC,fO,eY⟩:=ds HC (TL hv) fP;revert HC fO eY;exact In.o):G:=i h
def Zz7(i:Hid P->G:=by
 intro In;refine ow [(true,0),(true,1),(true,2),(true,3),(true,4),(true,5),(true,6),(true,7)] [8,9] (λW=>vC W a.b 1 (.string a.text)) (HS.o _ _ (.drew (.refl _ _))) (λbq=>?_);refine oK ?_;refine Z0 ?_;revert bq;exact In.o):G:=i h
def Zne(i:Hid P->G:=by
 intro In;refine HF.o.mono ?_;rintro e w1⟨rfl,hB⟩;simp only[Ed];revert w1 hB;exact In.o):G:=i h
def Xu(i:Hid P->G:=by
 intro In;have F2:=λo=>(((RFr.refl w rb).set 0 (.slice (some ⟨tb,off+4,none⟩) (n-1) (cap-1))).trans (RFr.below (rb:=rb) (hb o)));have aA:∀(W:kV) o,kW W (W.alloc o):=λW o=>(Below.refl _ _).alloc (Nat.le_refl _) o;revert F2 aA;exact In.o):G:=i h
def Zxr(i:Hid P->G:=by
 intro In;simp only[ag];try simp only[Act.put,zA,zB,zC]
 iterate 4
  first
   |(refine Z57 ?_ PM PM (λw'=>?_) ?_;rotate_left;(go_simp;first|done|with_reducible rfl);simp only[Act.put,zA,zB,zC])
 refine o4 (λK hK=>?_);revert K hK;exact In.o):G:=i h
def Zrd(i:Hid P->G:=by
 intro In;have nj:=lh (show∀x∈P,x∈a.kids from λx hx=>(List.mem_filter.1 (hP▸hx)).1);revert nj;exact In.o):G:=i h
def Zze(i:Hid P->G:=by
 intro In;have ac:=G3.at'.blkOf;simp only[ATree.b,ATree.v,ATree.kind,ATree.text,ATree.n]at ac;have n3:w3.cell? ⟨nb,3,none⟩=some (.slice p kids.length cp):=PC
 obtain⟨F3,G3,P3,HU,HL⟩:=gp F3 G3 P3 hu hl;revert ac n3 F3 G3 P3 HU HL;exact In.o):G:=i h
def Yx(i:Hid P->G:=by
 intro In;have b1:=(hB.block w.heap.size (by rw[K3.o];omega)).trans K1.o;have b2:=(hB.block (w.heap.size+1) (by rw[K3.o];omega)).trans K2.o;obtain⟨pb,li⟩:∃b,b=w.heap.size:=⟨_,rfl⟩
 obtain⟨eb,pH⟩:∃b,b=w.heap.size+1:=⟨_,rfl⟩
 revert b1 b2 pb li eb pH;exact In.o):G:=i h
def XP(i:Hid P->G:=by
 intro In;refine(HT.o _).mono ?_;rintro e W2⟨rfl,ar⟩;have kf:=(Zd W1).trans (ar.mono (Nat.le_refl _));refine hK _ _ (dp.o _ _ (.of_below kf)) ?_;have aN:=lh kf;obtain⟨b0,b1,b2,-⟩:=dp.o W2 M1 (.of_below kf);clear ar kf;refine Z0 ?_;revert W2 aN b0 b1 b2;exact In.o):G:=i h
def X9(i:Hid P->G:=by
 intro In;have q8:=GQ.o.rfr ay lj;have ac:=q8.at'.blkOf;simp only[ATree.b,ATree.v,ATree.kind,ATree.text,ATree.n]at ac;have m3:wa.cell? ⟨nb,3,none⟩=some (.slice p kids.length cp):=PC
 refine hK _ _ m3 ?_;revert q8 ac m3;exact In.o):G:=i h
def Zp8(i:Hid P->G:=by
 intro In;obtain⟨g,cp,bU,ej,kN⟩:=h.first hk;have np:=lh kN;obtain⟨q,hq⟩:∃q,q=r.length:=⟨_,rfl⟩
 revert g cp bU ej kN np q hq;exact In.o):G:=i h
def WV(i:Hid P->G:=by
 intro In;obtain⟨HC,HG,ii⟩:=ds hc hg hI;obtain⟨n,bF⟩:∃n,n=l.length:=⟨_,rfl⟩
 revert HC HG ii n bF;exact In.o):G:=i h
def Zlx(i:Hid P->G:=by
 intro In;have im:o∈a.kids:=Qp
 have k0:=bO 0 o rfl;have c1:=ha.c1;revert im k0 c1;exact In.o):G:=i h
def XB(i:Hid P->G:=by
 intro In;have bj:=(((bM.o.fr (.drew (.refl M z))).apart (b':=w.heap.size+1) Px 0 (vI 0)).apart (b':=w.heap.size+1) Px 1 (vI 0)).apart (b':=w.heap.size+1) Px 2 (.string ⟨#[]⟩);revert bj;exact In.o):G:=i h
def Zts(i:Hid P->G:=by
 intro In;obtain⟨g1,g2,g3⟩:=(hL.fr hF).ret (x':=(vI k)) (y':=(vI n)) (z':=.string t) hM ((MFr.of_below hz).trans hF);revert g1 g2 g3;exact In.o):G:=i h
def Zxe(i:Hid P->G:=by
 intro In;refine HN.o.mono ?_;rintro e wn⟨rfl,jw⟩;have bj:kW w4 wn:=by rw[jw];exact ah.alloc PE _
 have aZ:(w4.alloc (.cells #[vP x.b] 22)).heap.size=sb+1:=by rw[cE.o];simp
 revert wn jw bj aZ;exact In.o):G:=i h
def Yy(i:Hid P->G:=by
 intro In;have q0:=M5.scan.c0;have q1:=M5.scan.c1;have t0:=M5.cell 0 rfl;have t1:=M5.cell 1 rfl;have t2:=M5.cell 2 rfl;have t3:=M5.cell 3 rfl;have z0:=M5.fz 0;have z1:=M5.fz 1;have z2:=M5.fz 2;have z3:=M5.fz 3;have zs:=M5.scan.fz 1;have ee:=M5.lt;have cR:=M5.tlt;have bV:=M5.scan.lt;revert q0 q1 t0 t1 t2 t3 z0 z1 z2 z3 zs ee cR bV;exact In.o):G:=i h
def Xq(i:Hid P->G:=by
 intro In;have q0:=hM.scan.c0;have q1:=hM.scan.c1;have t0:=hM.cell 0 rfl;have t1:=hM.cell 1 rfl;have t2:=hM.cell 2 rfl;have t3:=hM.cell 3 rfl;have z0:=hM.fz 0;have z1:=hM.fz 1;have z2:=hM.fz 2;have z3:=hM.fz 3;have zs:=hM.scan.fz 1;have ee:=hM.lt;have cR:=hM.tlt;have bV:=hM.scan.lt;revert q0 q1 t0 t1 t2 t3 z0 z1 z2 z3 zs ee cR bV;exact In.o):G:=i h
def Zwb(i:Hid P->G:=by
 intro In;refine bE.o.mono ?_;rintro e W1⟨M1,k1,n1,t1,bL,rfl,ah⟩;simp only[ag];obtain⟨q0,q1,q2,z0,z1,z2⟩:=(HLR.o.fr ah.2.1).six;have av:=lh ah;clear ah;revert W1 M1 k1 n1 t1 bL q0 q1 q2 z0 z1 z2 av;exact In.o):G:=i h
def V6(i:Hid P->G:=by
 intro In;obtain⟨j6,jl,j7,j0,c1',eh,_⟩:=ao _ (Below.refl _ _);revert j6 jl j7 j0 c1' eh;exact In.o):G:=i h
def Zz4(i:Hid P->G:=by
 intro In;have hl:=Z5a (text:=text) (i:=j+1) Px;have b0:=Zk text (j:=j) (k:=j+2) (i:=0) Px Px;have b1:=Zk text (j:=j) (k:=j+2) (i:=1) Px Px;revert hl b0 b1;exact In.o):G:=i h
def Zw7(i:Hid P->G:=by
 intro In;have dX:x∈a.kids:=Qe
 have ex:y∈a.kids:=Qe
 have k0:=bO 0 x rfl;have k1:=bO 1 y rfl;revert dX ex k0 k1;exact In.o):G:=i h
def Zuq(i:Hid P->G:=by
 intro In;have fJ:=kJ.rfr ay (RFr.below (rb:=rb) aA);have bG:=lY.below aA;have cH:RFr w6 dx rb:=eL.trans (RFr.below aA);revert fJ bG cH;exact In.o):G:=i h
def XQ(i:Hid P->G:=by
 intro In;obtain⟨hl,he⟩:=List.getElem?_eq_some_iff.1 hy;revert hl he;exact In.o):G:=i h
def Zzw(i:Hid P->G:=by
 intro In;obtain⟨jz,NE,NA,fO⟩:=en (F6.o.trans cH) aG (show∀y∈(ATree.mk nb (.slice p kids.length cp) 38 ⟨#[]⟩ 0 kids).blocks,y<w6.drew.heap.size from λy hy=>(G6.o.new y hy).2) dr;revert jz NE NA fO;exact In.o):G:=i h
def Zu0(i:Hid P->G:=by
 intro In;obtain⟨v,bh,bc⟩:=HS.o.cell;have sv:wr.cell? ⟨w.heap.size+1,0,none⟩=some v:=by simp[vC,World.cell?,bh]
 revert v bh bc sv;exact In.o):G:=i h
def Zz9(i:Hid P->G:=by
 intro In;refine HC.o.mono ?_;rintro e w4⟨x,rfl,hX,hR,be⟩;have kT:=hX.pre F2.o;have kU:=F2.o.trans be;have ah:kW w4 (w4.alloc (.cells #[vP x.b] 22)):=(Below.refl _ _).alloc (Nat.le_refl _) _;revert w4 x hX hR be kT kU ah;exact In.o):G:=i h
def Zkm(i:Hid P->G:=by
 intro In;simp only[Nat.reduceEqDiff,if_true,if_false];exact In.o):G:=i h
def Abo(i:Hid P->G:=by
 intro In;refine(rP.o _ (Zd _)).mono ?_;rintro e W3⟨M3,k3,n3,t3,fg,rfl,bj⟩;have F3:=(MFr.drew (.refl M1 W2)).trans bj.2.1;refine hK _ _ (iB.o _ _ F3) ?_;have HB3:=lh bj;have bK:=lh (bw.o.trans ((MFr.of_below aN.o).trans F3));clear bj F3;revert W3 M3 k3 n3 t3 fg HB3 bK;exact In.o):G:=i h
def Znf(i:Hid P->G:=by
 intro In;have am:=hR.below aA;have ap:=kU.trans (RFr.below (rb:=rb) aA);revert am ap;exact In.o):G:=i h
def Ztf(i:Hid P->G:=by
 intro In;refine HP.o.mono ?_;rintro e W3⟨fg,rfl,jZ,hB3⟩;have hF3':MFr M1 M1 W1 W3:=(MFr.drew (.refl M1 W1)).trans (.of_below hB3);revert W3 fg jZ hB3 hF3';exact In.o):G:=i h
def Xv(i:Hid P->G:=by
 intro In;obtain⟨bI,HR,HS⟩:=ds an hR aq;revert bI HR HS;exact In.o):G:=i h
def Zs7(i:Hid P->G:=by
 intro In;obtain⟨q0,q1,q2,z0,z1,z2⟩:=(HLR.o.fr (ba.o.trans (.of_below hB3))).six;have HB3:=lh hB3;revert q0 q1 q2 z0 z1 z2 HB3;exact In.o):G:=i h
def Zyn(i:Hid P->G:=by
 intro In;have m4:vC w4 nb 3 (.slice (some ⟨sb,0,none⟩) 1 1):=(aB.cell_far ⟨nb,3,none⟩ PB (λe=>NE.o e.symm)).trans ((Zc dm).trans m3);revert m4;exact In.o):G:=i h
def Xk(i:Hid P->G:=by
 intro In;refine HC.o.mono ?_;rintro e w6⟨rfl,jC,fB⟩;have P6:=P5.o.tail jC fB;have F6:=F5.o.trans fB;have G6:=G5.o.rfr ay fB;have ac:=G6.at'.blkOf;simp only[ATree.b,ATree.v,ATree.kind,ATree.text,ATree.n]at ac;revert w6 jC fB P6 F6 G6 ac;exact In.o):G:=i h
def Zxl(i:Hid P->G:=by
 intro In;have gQ:∀g,(Value.slice p2 P.length jR).ownBlock=some g->g<w2.heap.size/\¬M1.has g:=λg hg=>⟨(World.ownsRow.lt cG g hg).2,HM.o.fresh (World.ownsRow.lt cG g hg).1⟩;revert gQ;exact In.o):G:=i h
def Zvu(i:Hid P->G:=by
 intro In;have iN:=lh (show ax C M3 W3 x3 fg from HB3.o.2.2);revert iN;exact In.o):G:=i h
def Zsm(i:Hid P->G:=by
 intro In;have nY:=lh (show∀y∈P,KU (y.nt C.N)from λy hy=>iI _ (List.mem_map.2 ⟨y,hy,rfl⟩));revert nY;exact In.o):G:=i h
def Zuu(i:Hid P->G:=by
 intro In;obtain⟨g1,g2,g3⟩:=(hL.fr hF).ret (x':=(vI k)) (y':=(vI n)) (z':=.string t) hM (hz.trans hF);revert g1 g2 g3;exact In.o):G:=i h
def Zow(i:Hid P->G:=by
 intro In;have e0:(a.nt C.N).kid 0=o.nt C.N:=wX (by rw[ho];rfl);revert e0;exact In.o):G:=i h
def Zyr(i:Hid P->G:=by
 intro In;have iB:=lh (λW M' (f:MFr M1 M' W2 W)=>bW.o W M' ((MFr.of_below aN.o).trans f));have rP:=lh (λW (hB:kW W2 W)=>bP.o W (aN.o.trans (hB.mono aN.o.size)));revert iB rP;exact In.o):G:=i h
def Zyv(i:Hid P->G:=by
 intro In;rintro e w3⟨rfl,bG,bg⟩;have F3:=F2.o.trans bg;have G3:=G2.o.rfr ay bg;have ah:kW w3 (w3.alloc (.cells #[vP ab] 22)):=(Below.refl _ _).alloc (Nat.le_refl _) _;revert w3 bG bg F3 G3 ah;exact In.o):G:=i h
def Zxu(i:Hid P->G:=by
 intro In;have an:=Got.push ay HP.o.le N3.o (wA:=wa) NA.o A3.o jz.o R3.o ((Below.refl _ _).alloc (Nat.le_refl _) _) aB aS (bS.imp id λh=>by omega) bY;have ct:=lh an;clear an;refine Z0 ?_;revert ct;exact In.o):G:=i h
def Zws(i:Hid P->G:=by
 intro In;have fA:=lh (show∀(K:Act->kV->Prop) c a d v w,(Exit.then K Q) (.panic c) (Act.put a d v) w->(Exit.then K Q) (.panic c) a w from λK c a d v w h=>hQ c a d v w h);revert fA;exact In.o):G:=i h
def Zjm(i:Hid P->G:=by
 intro In;have F3:=lh (F2.o.trans (RFr.below (rb:=rb) hB3));revert F3;exact In.o):G:=i h
def Zvi(i:Hid P->G:=by
 intro In;have hq:=SP (n:=n);have l1:=Z7y (n:=n);have l2:=Z70 (n:=n);have l3:=Z6w (n:=n);revert hq l1 l2 l3;exact In.o):G:=i h
def WC(i:Hid P->G:=by
 intro In;have gB:∀g,(Value.slice p5 P.length rc).ownBlock=some g->¬M1.has g:=λg hg=>HM.o.fresh (World.ownsRow.lt hZ g hg).1;obtain⟨m,eT⟩:∃m,m=P.length:=⟨_,rfl⟩
 revert gB m eT;exact In.o):G:=i h
def Zxi(i:Hid P->G:=by
 intro In;refine⟨?_,rfl,by omega⟩;simp only[List.range_succ,List.range_zero,List.nil_append,List.map_append,List.map_cons,List.map_nil,Nat.add_zero,b0,b1];exact In.o):G:=i h
def Zwq(i:Hid P->G:=by
 intro In;refine Z0 ?_;have M8:Mid w1 _ sb tb text (j+z) v l #[vI 5,.string X,vI 0,vI j]:=(M6.o.set (b:=j+z) (x:=(j:Int)+z) Px).drew;revert M8;exact In.o):G:=i h
def Zyt(i:Hid P->G:=by
 intro In;have hR:=aQ.trans (Zmb (fr:=fr) (sc:=sc) (V:=V) (D:=D) (f:=fu) (n:=a.nt C.N) hs (by rw[Zu,oY];exact .inl rfl) (by rw[Zu,oY];exact λ_=>rfl));revert hR;exact In.o):G:=i h
def Zuz(i:Hid P->G:=by
 intro In;have n3:iQ.cell? ⟨nb,3,none⟩=some (.slice p kids.length cp):=PC
 revert n3;exact In.o):G:=i h
def Xa(i:Hid P->G:=by
 intro In;have p0:=Zs ae (g:=g0) rfl (i:=0) (x:=a0.ptr) rfl;have rQ:=lp.o a0 PE;have hb0:=rQ.blkOf;have pI:=rQ.rowOf;have lq:=HX.o a0.tree (by rw[<-jD.o];simp[f6]);revert p0 rQ hb0 pI lq;exact In.o):G:=i h
def Zw9(i:Hid P->G:=by
 intro In;obtain⟨N5,kK,io,HQ1⟩:=en hZ gB gC eT;have kY:m<=9223372036854775807:=Px
 revert N5 kK io HQ1 kY;exact In.o):G:=i h
def Zua(i:Hid P->G:=by
 intro In;refine Zc8 ⟨r9,kD,kE,kF⟩ ?_ PM;simp only[Act.put,zA,zB,zC];exact In.o):G:=i h
def Xr(i:Hid P->G:=by
 intro In;have c3:w.cell? ⟨a.b,3,none⟩=some (.slice p a.kids.length cp):=by rw[<-hv];exact hT.c3
 have aE:a.kids.length<=9223372036854775807:=by unfold maxLen at ej;omega
 revert c3 aE;exact In.o):G:=i h
def Zyg(i:Hid P->G:=by
 intro In;have m4:vC w4 nb 3 (.slice none 0 0):=(aB.cell_far ⟨nb,3,none⟩ PB (λe=>NE.o e.symm)).trans ((Zc dm).trans m3);revert m4;exact In.o):G:=i h
def Zsp(i:Hid P->G:=by
 intro In;refine Ds.o.mono ?_;rintro e W2⟨rfl,M2,aM,ap⟩;have hF:=bw.o.trans ((MFr.drew (.refl M1 W1)).trans ap);revert W2 M2 aM ap hF;exact In.o):G:=i h
def Zzb(i:Hid P->G:=by
 intro In;have lp:=lh (show∀(i:Nat) (y:ATree),l[i]?=some y->z.cell? ⟨kg,i+1,none⟩=some (vP y.b)from λi y hy=>bO (i+1) y hy);revert lp;exact In.o):G:=i h
def Zxw(i:Hid P->G:=by
 intro In;refine(Hk.o wW _ (Below.refl _ _)).mono ?_;rintro e w9⟨ev,rfl,he,nq⟩;obtain⟨q0,q1,q2,z0,z1,z2⟩:=(HLR.o.fr (MFr.trans (.refl _ _) (.of_below nq))).six;have eH:=lh nq;have HE:=lh he;clear nq he;revert w9 ev q0 q1 q2 z0 z1 z2 eH HE;exact In.o):G:=i h
def AaV(i:Hid P->G:=by
 intro In;have HE:=Zdr w wn rb B d _ _ _ r ((P2.o.next (ts':=vs) hR be fO.o).next am (RFr.below (rb:=rb) bj) (Nat.le_refl _)) hA ap eY.o;simp only[ATree.b]at HE;revert HE;exact In.o):G:=i h
def Zyf(i:Hid P->G:=by
 intro In;have bD:∀y∈a.kids,(y.nt C.N).wf .s/\(y.nt C.N).tree.many<=1500:=λy hy=>ao (y.nt C.N) Q7;revert bD;exact In.o):G:=i h
def Zqt(i:Hid P->G:=by
 intro In;have cA:=h.hbLt;have ew:∀b,ρ b≠none->b<w.heap.size:=h.live;revert cA ew;exact In.o):G:=i h
def Zwf(i:Hid P->G:=by
 intro In;have nj:=lh (show∀x∈P,x∈bd.kids from λx hx=>(List.mem_filter.1 (hP▸hx)).1);revert nj;exact In.o):G:=i h
def Zq9(i:Hid P->G:=by
 intro In;refine HH.o.mono ?_;rintro e w1⟨rfl,aO⟩;have xm:=(aO.cell fl).trans fs;revert w1 aO xm;exact In.o):G:=i h
def Zpy(i:Hid P->G:=by
 intro In;refine HC.o.mono ?_;rintro e w3⟨rfl,bG,bg⟩;have R3:=lh bG;have F3:=lh bg;revert w3 bG bg R3 F3;exact In.o):G:=i h
def AcQ(i:Hid P->G:=by
 intro In;refine oK ?_;refine Zc8 (dp.o _ _ (.drew (.refl _ _))) ?_ PM;simp only[Act.put,zA,zB,zC];refine Z0 ?_;obtain⟨q0,q1,q2,z0,z1,z2⟩:=(HLR.o.fr bw.o).six;revert q0 q1 q2 z0 z1 z2;exact In.o):G:=i h
def XZ(i:Hid P->G:=by
 intro In;have aG:v.ownBlock≠some nb:=dH.1.1;have aX:kids.length=aj.length:=by
  have:=fJ.tree;exact AbS
 have gK:kids.length<=4000:=RC
 revert aG aX gK;exact In.o):G:=i h
def Zy8(i:Hid P->G:=by
 intro In;have dr:=TL hv;have eY:=lh fP;refine(HB.o wf.drew rb B d _ _ P7 hv).mono ?_;rintro e w7⟨x,rfl,hX,lY,dJ⟩;have eL:RFr wf w7 rb:=(RFr.refl wf rb).drew.trans dJ;have kJ:=N.o.rfr ay eL;revert dr eY w7 x hX lY dJ eL kJ;exact In.o):G:=i h
def Zvb(i:Hid P->G:=by
 intro In;simp only[List.set_cons_zero,List.flatMap_cons,Nat.zero_mul,Nat.zero_add];exact In.o):G:=i h
def Zx5(i:Hid P->G:=by
 intro In;refine Ze (λK hK=>?_);go_simp
 have hA:=Got.one (w0:=wf.drew) (w:=w7) (rb:=rb) (k:=14) (t:=⟨#[]⟩) (Nat.le_trans HP.o.le FQ.o.size) dJ hX;revert K hK hA;exact In.o):G:=i h
def WG(i:Hid P->G:=by
 intro In;refine HB.o.mono ?_;rintro e w5⟨rfl,eM⟩;have F5:=FF.o.trans (RFr.below (rb:=rb) eM);have G5:=GG.o.rfr ay (RFr.below (rb:=rb) eM);have R5:=Dt.o.below eM;revert w5 eM F5 G5 R5;exact In.o):G:=i h
def Zzj(i:Hid P->G:=by
 intro In;refine Ze (λK hK=>?_);go_simp
 have hA:=Got.one (w0:=w6.drew) (w:=w7) (rb:=rb) (k:=39) (t:=s) (Nat.le_trans HP.o.le F6.o.size) dJ hX;revert K hK hA;exact In.o):G:=i h
def AbN(i:Hid P->G:=by
 intro In;have dN:=lh cQ;have HX:=lh hx;have bU:n<=cp:=by
  have:=HV.o.symm.trans gm;simp only[Value.slice.injEq]at this;rw[HN.o,this.2.2];exact k1
 revert dN HX bU;exact In.o):G:=i h
def Zto(i:Hid P->G:=by
 intro In;refine Z8t PM ?_;go_simp
 refine⟨_,_,_,_,_,rfl,?_⟩;exact In.o):G:=i h
def Zsw(i:Hid P->G:=by
 intro In;have aX:kids.length=aj.length:=by
  have:=hG.tree;exact AbS
 have fm:=lh aX;revert aX fm;exact In.o):G:=i h
def X4(i:Hid P->G:=by
 intro In;refine HC.o.mono ?_;rintro e w5⟨rfl,ms,eN⟩;obtain⟨P5,F5,G5⟩:=ds (PQ.o.1.tail ms eN) (FQ.o.trans eN) (GQ.o.rfr ay eN);clear ms eN;revert w5 P5 F5 G5;exact In.o):G:=i h
def tq0(i:G:=by
 intro ca;refine o4 (λK hK=>?_);refine hK _ _ ((Zc hm4).trans s9) ?_;clear hK K;try simp only[Act.put,List.setIfInBounds_toArray]
 refine o4 (λK hK=>?_);rw[IntWalk.i64_in (3+((n0:Int)+1)) Px,IntWalk.i64_in (3+((n0:Int)+1)-1) Px,show 3+((n0:Int)+1)-1=3+(n0:Int) by omega];refine(kS.o _ (Z1 _ _).drew).mono ?_;rintro e w6⟨rfl,ρ',L',g1,q1⟩;have t9:vC w6 C.mb 9 (.slice (some ⟨gg,0,none⟩) (n0+1) cap):=(q1.cell 9 Py Py).trans ((Zc hm4).trans s9);have hma:=(H2.o.below (Z1 w4 (vO 0 0 ⟨#[]⟩))).drew;obtain⟨a1,a2⟩:=hma.heapStep g1 q1;have hL:Lo C _ w w6 w4.heap.size #[vI 0,vI 0,.string ⟨#[]⟩] 56:=
  ((Lo.new (wE:=w) H2.o (Nat.le_trans HBZ.o.size ba.o.size) HO.o _ _).fr (.drew (.refl _ _))).fr a2
 have iE:=(MFr.of_below (M:=M2) (Z1 w4 (vO 0 0 ⟨#[]⟩)).drew).trans a2;obtain⟨q0,jm,q2,z0,z1,z2⟩:=hL.six;obtain⟨v1,v2,v3,v4⟩:=hL.fill (x':=(vI 5)) (y':=(vI nO)) (z':=.string ⟨#[]⟩) a1 iE (Nat.le_refl _);have hv:Sy C w M2 w4 s4 nO (((w6.setCell ⟨w4.heap.size,0,none⟩ (vI 5)).setCell ⟨w4.heap.size,1,none⟩ (vI nO)).setCell ⟨w4.heap.size,2,none⟩ (.string ⟨#[]⟩)) w4.heap.size _:=⟨by rw[HSs4.o];exact v1,v2,v3⟩
 have HV:=lh hv;refine hK _ _ t9 ?_;clear hK K hma a1 a2 g1 q1 hL iE v1 v2 v3 v4 hv;iterate 1 (refine Z57 ?_ PM PM (λw'=>?_) ?_;rotate_left;(go_simp;first|done|with_reducible rfl);try simp only[Act.put,List.setIfInBounds_toArray])
 refine G9 (λK hK=>?_);refine hK _ _ (Si ?_);clear hK K t9 q0 jm q2 z0 z1 z2;have hv:=HV.o;clear HV;generalize((w6.setCell ⟨w4.heap.size,0,none⟩ (vI 5)).setCell ⟨w4.heap.size,1,none⟩ (vI nO)).setCell ⟨w4.heap.size,2,none⟩ (.string ⟨#[]⟩)=W2 at hv ⊢;generalize w4.heap.size=p2 at hv ⊢;obtain⟨M3,hv⟩:∃M3,Sy C w M2 w4 s4 nO W2 p2 M3:=⟨_,hv⟩
 exact ca.o W2 p2 M3 hv):G:=i
def tq1(i:G:=by
 intro ca;refine o4 (λK hK=>?_);rw[IntWalk.i64_in (3+((n0:Int)+1)) Px,IntWalk.i64_in (3+((n0:Int)+1)-1) Px,show 3+((n0:Int)+1)-1=3+(n0:Int) by omega];refine(kS.o _ (Zd _)).mono ?_;rintro e w6⟨rfl,ρ',L',g1,q1⟩;have t9:vC w6 C.mb 9 (.slice (some ⟨gg,0,none⟩) (n0+1) cap):=(q1.cell 9 Py Py).trans s9;obtain⟨a1,a2⟩:=H2.o.drew.heapStep g1 q1;have oZ:=lh a1;have o5:=lh ((MFr.drew (.refl M2 w4)).trans a2);refine hK _ _ t9 ?_;clear hK K a1 a2 g1 q1
 iterate 1 (refine Z57 ?_ PM PM (λw'=>?_) ?_;rotate_left;(go_simp;first|done|with_reducible rfl);simp only[Act.put,List.setIfInBounds_toArray])
 refine o4 (λK hK=>?_);refine hK _ _ ((Zc oZ.o.mbLt).trans t9) ?_;clear hK K;refine G9 (λK hK=>?_);refine hK _ _ (Si ?_);clear hK K t9;have hv:Sy C w M2 w4 s4 nO (w6.alloc (.cells #[vI 5,vI nO,.string ⟨#[]⟩] 56)) w6.heap.size _:=
  ⟨by have:=oZ.o.below (Z1 w6 (.cells #[vI 5,vI nO,.string ⟨#[]⟩] 56));rw[HSs4.o];exact this,o5.o.trans (.of_below (Z1 _ _)),Lo.new oZ.o (Nat.le_trans HBZ.o.size (Nat.le_trans ba.o.size o5.o.size)) HO.o _ _⟩
 generalize w6.alloc (.cells #[vI 5,vI nO,.string ⟨#[]⟩] 56)=W2 at hv ⊢;generalize w6.heap.size=p2 at hv ⊢;obtain⟨M3,hv⟩:∃M3,Sy C w M2 w4 s4 nO W2 p2 M3:=⟨_,hv⟩
 exact ca.o W2 p2 M3 hv):G:=i
def tq2(i:G:=by
 intro m;induction m with
 |zero=>intro a h;exfalso;cases a;simp[ATree.many]at h
 |succ m ih=>
   intro a hm hT s hg w hI;obtain⟨IH,HT,HG,HM⟩:=en ih hT hg hm;have HC:=hg a s (.self a s) w hI;rw[Z8o];unfold ATree.ptr at HC ⊢;have kh:∀(i:Nat) (k x:ATree) (s':σ),(g s a).1=true->a.kids[i]?=some k->Reach g k (pV g (a.kids.take i) (g s a).2) x s'->Reach g a s x s':=λi k x s' h1 h2 h3=>.kid h1 h2 h3;obtain⟨ok,s1,pJ⟩:∃ok s1,g s a=(ok,s1):=⟨_,_,rfl⟩
   rw[pJ]at HC kh ⊢;have pK:=lh kh;clear kh;have HC:=lh HC;clear ih hT hg hm hI pJ;cases ok;·exact Aaw
   .simp only[if_true];go_enter func11,ntmps11
    go_wp2_with fail
    refine Zz3 ?_;intro w1 fW nn ac ae p cp hv;rw[hv]at ac;refine Xg ?_;intro c3 aE eC HV n hn;rw[<-hn]at c3 aE;have HN:=lh hn;clear fW nn ac ae hv hn HC;go_wp2_with fail
    go_loopw [19] (λi wr=>∃k:Nat,k<=n/\i=(vI k)/\Hid (Inv (pV g (a.kids.take k) s1) wr)) (λi _=>n-(intOf i).toNat)
    case atStart=>exact⟨0,Nat.zero_le _,rfl,lh (by simpa[pV]using eC.o)⟩
    case round=>
     obtain⟨k,hk,rfl,HI⟩:=hrel;by_cases bX:k<n
     .obtain⟨x,hx⟩:∃x,a.kids[k]? =some x:=⟨_,List.getElem?_eq_getElem PU⟩
      have eB:=HT.o _ _ HI.o;have ae:=eB.rowOf;rcases Z4 ae with⟨_,h2⟩|⟨g0,gA,gm,k1,k2,k3⟩;·rw[<-HN.o]at h2;omega
      have hp:p=some ⟨g0,0,none⟩:=by
       have:=HV.o.symm.trans gm;simp only[Value.slice.injEq]at this;exact this.1
      subst hp;refine SE ?_;intro cx;unfold ATree.ptr at cx;have aT:x∈a.kids:=List.mem_of_getElem? hx;have cQ:=IH.o x (by have:=XR aT;have:=HM.o;omega) (λs w h=>(HT.o s w h).kid aT) _ (λy s' hy=>HG.o y s' (pK.o k x y s' (by first|rfl|trivial) hx hy)) _ HI.o;exact tr8
     .have aR:k=n:=by omega
      subst aR;go_wp2;go_end0
      refine⟨rfl,?_⟩;have:=HI.o;rwa[List.take_of_length_le RE]at this):G:=i
def tq3(i:G:=by
 go_wp2_with fail
 go_loopw [8] (λi wr=>∃(k:Nat),k<=n/\i=(vI k)/\Hid (∀x∈l.take k,g x=false)/\Hid (Inv wr)) (λi _=>n-(intOf i).toNat)
 case atStart=>exact⟨0,Nat.zero_le _,rfl,lh PE,ii⟩
 case round=>
  obtain⟨k,hk,rfl,HF,HI⟩:=hrel;clear ii;by_cases bX:k<n
  .obtain⟨x,hx⟩:∃x,l[k]? =some x:=⟨_,List.getElem?_eq_getElem PU⟩
   obtain⟨b,off,hp,bh⟩:=HC.o k x hx;subst hp;have cx:=bh wr HI.o;have dN:=HG.o x (List.mem_of_getElem? hx) wr HI.o;obtain⟨vx,pL⟩:∃v,v=enc x:=⟨_,rfl⟩
   rw[<-pL]at cx dN;obtain⟨gx,BR⟩:∃v,v=g x:=⟨_,rfl⟩
   rw[<-BR]at dN;obtain⟨rR,HX,HGX⟩:=ds dN hx BR;have Hl:((⟨b,off,none⟩:Addr).add k)=⟨b,off+k,none⟩:=by unfold Addr.add;split<;>simp_all
   have hkI:(k:Int)<=9223372036854775807:=Px
   clear bh dN pL hx BR;go_wp2_with fail
   refine rR.o.mono ?_;rintro e w1⟨rfl,fW⟩;have eC:=lh fW;clear fW rR;cases gx
   .go_wp2;go_roundw
    case rel=>
     refine⟨k+1,by omega,by go_num,lh ?_,eC⟩;intro y hy;obtain⟨aX,re⟩:=List.getElem?_eq_some_iff.1 HX.o;rw[List.take_succ_eq_append_getElem aX,List.mem_append]at hy;rcases hy with hy|hy;·exact HF.o y hy
     .simp only[List.mem_singleton]at hy;rw[hy,re];exact HGX.o.symm
    case measure=>simp[intOf];omega
   .go_wp2;go_ret;refine⟨⟨_,rfl,?_⟩,eC.o⟩;rw[List.any_eq_true.2 ⟨x,List.mem_of_getElem? HX.o,HGX.o.symm⟩];simp
  .have aR:k=n:=by omega
   subst aR;go_wp2;go_ret;refine⟨⟨_,rfl,?_⟩,HI.o⟩;have ao:l.any g=false:=by
    rw[List.any_eq_false];intro y hy;have:=HF.o y (by rw[List.take_of_length_le RE];exact hy);simp[this]
   rw[ao];rfl):G:=i
def tq4(i:G:=by
 obtain⟨k,v,rfl,hk,rfl,TX,NO,HB⟩:=hrel;clear uI N2 aN;by_cases bX:k<m
 .obtain⟨x,hx⟩:∃x,P[k]? =some x:=⟨_,List.getElem?_eq_getElem RB⟩
  obtain⟨g0,hp⟩:∃g,p2=some ⟨g,0,none⟩:=by
   rcases NO.o.form with⟨h1,h2⟩|⟨g,cap,h1,_⟩;·rw[h2]at hx;simp at hx
   .exact V2
  subst hp;have cx:=NO.o.cell rfl hx;have ey:=(HT.o.bel HB.o).kid (qV.o x (List.mem_of_getElem? hx));have c1:=ey.c1;have ia:(yB l0 (P.take k)).length<1099511627776:=by
   have:=Za9 l0 (P.take k);have h3:(P.take k).length<=k:=PB
   have h4:=bT.o;omega
  have HA:=lh (Zgk wr w.heap.size v _ x.text TX.o HB.o.size ia);have HX:=lh hx;clear ey hx ia;go_wp2_with fail
  refine HA.o.mono ?_;rintro e w3⟨v3,rfl,ht3,bj,xf⟩;have hsn:yB l0 (P.take (k+1))=jf (yB l0 (P.take k)) x.text:=by rw[Z31 HX.o,Zcu]
  have qP:Hid (Zz w3 w.heap.size v3 (yB l0 (P.take (k+1)))):=lh (by rw[hsn];exact ht3);exact Aca
 .have aR:k=m:=by omega
  subst aR;have cr:Zz wr w.heap.size v (yB l0 P):=by
   have:=TX.o;rwa[List.take_of_length_le (by rw[<-bT.o];exact Nat.le_refl _)]at this
  have qP:=lh cr;have Du:=Za9 l0 P;obtain⟨l1,kj⟩:∃l,l=yB l0 P:=⟨_,rfl⟩
  rw[<-kj]at qP Du;have jS:=lh kj;clear cr TX NO kj;go_wp2_with fail
  refine(HL.o wr (HT.o.bel HB.o)).mono ?_;rintro e w4⟨v4,rfl,uJ,fX⟩;obtain⟨p4,cp4,rfl,hge4,hmx4⟩:∃p cp,v4=.slice p Q.length cp/\Q.length<=cp/\cp<=maxLen:=by
   rcases uJ.form with⟨h1,h2⟩|⟨g,cap,h1,h2,h3⟩;·exact⟨none,0,by rw[h1,h2];rfl,by rw[h2];exact Nat.le_refl _,by unfold maxLen;omega⟩
   .exact⟨_,_,h1,h2,h3⟩
  have rS:=lh (qP.o.bel fX);have eg:=zT HB fX;have N4:=lh uJ;obtain⟨q,cS⟩:∃q,q=Q.length:=⟨_,rfl⟩
  have ni:q<=9223372036854775807:=by unfold maxLen at hmx4;omega
  rw[<-cS]at hge4 N4 dA ⊢;have HQ1:=lh cS;clear uJ fX cS qP HB;obtain⟨bb,rf⟩:∃b,b=wr.heap.size:=⟨_,rfl⟩
  rw[<-rf]at N4;clear rf;go_wp2_with fail
  go_loopw [5,30] (λv i wr=>∃(k:Nat) (v':Value),v'=v/\k<=q/\i=(vI k)/\Hid (Zz wr w.heap.size v' (yB l1 (Q.take k)))/\Hid (ll wr bb (.slice p4 q cp4) Q)/\Hid (kW w wr)) (λ_ i _=>q-(intOf i).toNat)
  case atStart=>exact⟨0,_,rfl,Nat.zero_le _,rfl,rS,N4,eg⟩
  case round=>
   obtain⟨k,v,rfl,hk,rfl,TX,NO,HB⟩:=hrel;clear rS N4 eg;by_cases bX:k<q
   .obtain⟨x,hx⟩:∃x,Q[k]? =some x:=⟨_,List.getElem?_eq_getElem PP⟩
    obtain⟨g0,hp⟩:∃g,p4=some ⟨g,0,none⟩:=by
     rcases NO.o.form with⟨h1,h2⟩|⟨g,cap,h1,_⟩;·rw[h2]at hx;simp at hx
     .exact V2
    subst hp;have cx:=NO.o.cell rfl hx;have ey:=(HT.o.bel HB.o).kid (jy.o x (List.mem_of_getElem? hx));have c1:=ey.c1;have ia:(yB l1 (Q.take k)).length<1099511627776:=by
     have:=Za9 l1 (Q.take k);have h3:(Q.take k).length<=k:=PB
     have h4:=bT.o;omega
    have HA:=lh (Zgk wr w.heap.size v _ x.text TX.o HB.o.size ia);have HX:=lh hx;clear ey hx ia;go_wp2_with fail
    refine HA.o.mono ?_;rintro e w3⟨v3,rfl,ht3,bj,xf⟩;have hsn:yB l1 (Q.take (k+1))=jf (yB l1 (Q.take k)) x.text:=by rw[Z31 HX.o,Zcu]
    have qP:Hid (Zz w3 w.heap.size v3 (yB l1 (Q.take (k+1)))):=lh (by rw[hsn];exact ht3);exact Aca
   .have aR:k=q:=by omega
    subst aR;have cr:Zz wr w.heap.size v (yB l1 Q):=by
     have:=TX.o;rwa[List.take_of_length_le Qr]at this
    have BS:=lh cr;clear cr TX;go_wp2;go_ret;rw[<-jS.o];exact⟨_,rfl,BS.o,HB.o⟩):G:=i
def tq5(i:G:=by
 refine Zqt ?_;intro cA ew;refine Ut ?_;intro h1 cu;refine VM ?_;intro jA;have HC:=lh (UX h1 m (getElem?_lt hm));have HA:=lh (Vh h1 (m:Int) name);rw[eU]at HA;obtain⟨i0,hi,aC,bo,bQ⟩:=info_parts Mr;obtain⟨HH,HB,HM⟩:=ds h1 cu hm;clear h h1 cu hm eU;go_enter func44,ntmps44
 go_wp2_with fail
 refine HC.o.mono ?_;rintro e w1⟨rfl,rfl⟩;go_wp2_with fail
 refine HA.o.mono ?_;rintro e w1⟨rfl,hB⟩;obtain⟨q0,q1,q2,f0,f1,f2,hs,dn⟩:=Z51 hB;have eS:=HH.o.below hB;obtain⟨ac,af⟩:=eS.scp m s HM.o;obtain⟨nv,jQ⟩:∃v,v=L.nv m:=⟨_,rfl⟩
 rw[<-jQ]at ac af;refine AaB ?_;clear hB dn eS ac af jQ;intro aK d2 kA eI qT HO HN HNe av qU;go_wp2_with fail
 refine Z7 [0,2,4,6,8,10,12,14,16,18,20,22,24,26,28,31,33] [17,18,19] (λW=>vC W (L.sb m) 2 nv/\vC W w.heap.size 0 (vI vk)/\vC W w.heap.size 1 (vI vn)/\vC W w.heap.size 2 (.string vs)) ⟨d2,q0,q1,q2⟩ λ_=>?_;refine dU ?_
 iterate 15
  refine fa ?_
 refine Zuf ?_;intro K hK;refine step_append_lies _ PM (.tmp 40) (.tmp 51) 107 PM 0 157 i0 _ 6 64 underlying107 hi aC bo bQ rfl Py nv s.names.length (s.names.flatMap LBind.cells) PM ((HO.o.alloc _).drew) ⟨w1.heap.size,0,none⟩ 1 1 (LBind.cells ⟨name,⟨vk,vn,vs⟩,kind,false⟩) PM rfl (World.news_of_block (cs:=(LBind.cells ⟨name,⟨vk,vn,vs⟩,kind,false⟩).toArray) (t:=157) (fr:=(0,0)) (heap_alloc_new w1 _)) (by simp[LBind.cells,Value.oneCell']) Py PA Px Px (w1.heap.size+1) PE ?_
 refine Aa6 ?_;clear hK K;intro gg cap w2 rL e2 HG HW HT uD;go_wp2;go_ret;refine⟨rfl,?_⟩;have an:=Zie (b:=⟨name,⟨vk,vn,vs⟩,kind,false⟩) eI.o HM.o HN.o qT.o HG.o HW.o HT.o;obtain⟨ρ',L',hA,hF⟩:=an;exact⟨ρ',L',hA,(Fr.of_below cA av.o).trans hF⟩):G:=i
def tq6(i:G:=by
 go_wp2_with fail
 refine HK.o _ _ ?_;clear HK K f0 f1 y0;have pM:=lh (bW.o.box 0 (st':=true) (vr':=rg) rfl);have mj:=lh (Zdk gy.o th.o 0 (.bool true));clear bW gy;generalize w2.setCell ⟨w.heap.size,0,none⟩ (.bool true)=W6 at pM mj ⊢;obtain⟨pb,cb,cg,bU,ej,cU⟩:=ll.slice mj.o.rowOf;obtain⟨qb,mt⟩:∃qb,qb=a.kids.length:=⟨_,rfl⟩
 rw[<-mt]at cg bU;have c3:=mj.o.c3;rw[cg]at c3;refine AaY ?_;intro pB W7 oS xj kY hnm aG;rw[aG]at hnm;simp only[ATree.ptr,ATree.b]at hnm;have rT:=lh hnm;have lu:=lh (show EvS C M w true rg M W7 s by rw[oS];exact pM.o.bel pB);have Dv:=lh (show TreeAt W7 z.heap.size a by rw[oS];exact mj.o.bel pB);have yp:=lh oS;clear cg bU ej cU mt pB oS xj hnm aG kY;refine dq ?_;intro K HK;go_wp2_with fail
 rw[<-yp.o];refine rT.o.mono ?_;rintro e w8⟨v8,rfl,uK,pN⟩;obtain⟨p8,n8,c8,rfl⟩:=uK.slice;obtain⟨xo,BT,Hm⟩:=ds (lu.o.bel pN) (Dv.o.bel pN) uK;clear pN uK rT c3;go_wp2_with fail
 refine HK.o _ _ ?_;clear HK K;refine po ?_;intro K HK;obtain⟨f0,f1⟩:=xo.o.lf.two;have eD:=Wm xo.o.mat HI.o sc (-1) (-3);obtain⟨nx,ez⟩:∃nx,nx=s.next:=⟨_,rfl⟩
 obtain⟨so,aU⟩:∃so,so=s.opens sc (-1) (-3):=⟨_,rfl⟩
 rw[<-ez,<-aU]at eD;have jE:=lh eD;have eE:=HI.o.opens (d:=d+13600) (outer:=sc) (object:=-1) (owner:=-3) (by have:=HA.o.lo;omega) HA.o.hi Py Px;have nr:=HA.o.opens eE.2;rw[<-aU]at eE;rw[<-aU,<-ez]at nr;have ng:=lh eE.1;have dW:=lh (show FAt so nx ⟨true,nx⟩from⟨nr.root,nr.lo,nr.hi,.refl,nr.lo⟩);have HBo:=lh (show b<=so.steps/\so.steps<=20000 by rw[aU];exact HB.o);have am:R=Uk D n nx ⟨true,nx⟩ so:=by rw[fY.o,ez,aU];simp[rU.o]
 have bA:=lh am;clear eD ez aU eE nr am;conv=>arg 2;whnf
 go_wp2_with fail
 refine jE.o.mono ?_;rintro e w9⟨rfl,M9,xp,mu⟩;have hS9:=xo.o.step xp mu;have ht9:=mu.tree BT.o kK.o;obtain⟨uG,HT9,rh⟩:=ds (hS9.box 1 (x:=(vI nx)) (st':=true) (vr':=nx) rfl) (Zdk ht9.1 th.o 1 (vI nx)) ht9.2;obtain⟨g0,g1⟩:=hS9.lf.two;have y1:=hS9.lf.fz 1;clear f0 f1 xp mu hS9 ht9;go_wp2_with fail
 refine HK.o _ _ ?_;clear HK K g0 g1 y1;generalize w9.setCell ⟨w.heap.size,1,none⟩ (vI nx)=W9 at uG HT9 ⊢;refine Zlp (d:=d) HC.o iP.o HD.o uG.o HT9.o rh.o il.o.1 il.o.2.1 ng.o dW.o HBo.o.1 HBo.o.2 ⟨rfl,⟨rfl,rfl,rfl,rfl,rfl,trivial⟩,rfl⟩ (λy a' w' h1 h2 h3=>bodyPost_ret h1 h2 ?_) (λ_ _ d _ _ h=>by cases d<;>exact h);rw[bA.o,<-yq.o];exact h3):G:=i
def tq7(i:G:=by
 unfold iA at HT;have HT:=lh HT;go_wp2_with fail
 refine HT.o.mono ?_;rintro e w5⟨rfl,ms,eN⟩;have P5:=PX.o.tail ms eN;have G5:=GX.o.rfr ay eN;have F5:=FX.o.trans eN;have hblk5:=G5.at'.blkOf;simp only[ATree.b,ATree.v,ATree.kind,ATree.text,ATree.n]at hblk5;have n3:w5.cell? ⟨nb,3,none⟩=some (.slice none 0 0):=by simp[vC,World.cell?,hblk5]
 obtain⟨P5,G5,F5⟩:=ds P5 G5 F5;clear ms eN hblk5 HT PX GX FX;go_wp2_with fail
 refine Z7 [0,2,4,6,8,10,13,15,17] [9,10,11] (λW=>vC W nb 3 (.slice none 0 0)) n3 λ_=>?_;refine dU ?_
 iterate 6
  refine fa ?_
 refine Ze (λK hK=>?_);go_simp
 have P6:Pre w5.drew rb B d us.tail:=P5.o.below (Below.refl _ _).drew;rcases Zf H2.o with⟨⟨c,p⟩,hv,rfl⟩|⟨t,vs,hv,gP⟩
 .refine(hV w5.drew rb B d _ _ P6 hv).mono ?_;rintro e w3⟨⟨b,rfl,h1,h2⟩,bg⟩;exact⟨rfl,mc.pre F5.o.drew (r:=.error (c,p)) ⟨⟨b,rfl,h1,h2⟩,bg⟩⟩
 .obtain rfl:=Option.some.inj gP;refine(hV w5.drew rb B d _ _ P6 hv).mono ?_;rintro e w3⟨a,rfl,hA,bG,bg⟩;have hF53:RFr w5 w3 rb:=(RFr.refl w5 rb).drew.trans bg;have fJ:=G5.o.rfr ay hF53;refine ub ?_;intro ac;have m3:w3.cell? ⟨nb,3,none⟩=some (.slice none 0 0):=by simp[vC,World.cell?,ac]
  refine Uo ?_;intro mz dm;have gK:([]:List ATree).length<=4000:=PE
  have NE:Hid ((Value.slice none 0 0).ownBlock≠some nb):=lh (by simp[Value.ownBlock]);refine S' ?_;intro N3 A3 R3;have F3:=lh (F5.o.trans hF53);refine vf ?_;intro i0 hi aC bo bQ;clear hK K hA bG bg hF53 fJ ac hv gP n3;refine t7 ?_;intro K hK
  refine step_append_lies _ PM (.tmp 27) (.tmp 30) 39 PM B 22 i0 _ 1 8 underlying39 hi aC bo bQ rfl Py (.slice none 0 0) (([]:List ATree)).length ((([]:List ATree)).map ATree.ptr) PM (N3.o.at'.rowOf.alloc _) ⟨w3.heap.size,0,none⟩ 1 1 [a.ptr] PM rfl (World.news_of_block (cs:=#[a.ptr]) (t:=22) (fr:=(0,0)) (heap_alloc_new w3 _)) PO Py PA Px Qq (w3.heap.size+1) PE ?_;intro gg cap w4 aS aB bS bY
  refine Zyg ?_;intro m4;refine uV ?_;clear hK K;intro lX;have an:=Got.push ay HP.o.le N3.o (wA:=w5.drew) (λx hx=>(G5.o.new x hx).2) A3.o F3.o R3.o ((Below.refl _ _).alloc (Nat.le_refl _) _) aB aS (bS.imp id λh=>by omega) bY;have ct:=lh an;clear aB aS bS bY an;refine Z0 ?_;go_wp2;go_ret;exact⟨_,rfl,ct.o.1,ct.o.2.2,ct.o.2.1⟩):G:=i
def tq8(i:G:=by
 refine tm8 ?_;go_wp2;refine bodyPost_ret (v:=.tuple #[.bool false,.agg #[vI 0,vI 0,.string ⟨#[]⟩],.nilIface]) ?_ rfl ?_;·exact Vl
 .exact .fine' HLR.o HFz.o bR.o.drew (ba.o.trans (.drew (.refl _ _)))):G:=i
def tq9(i:G:=by
 obtain⟨tb,off,cap,h⟩:=hR;have c1:=h.c1;have z1:=h.fz 1;have yr:=h.rlt;have hS:Rd (w.setCell ⟨rb,1,none⟩ (vI ((d:Int)+1))) rb ts (d+1):=⟨tb,off,cap,h.deep Px⟩
 obtain⟨HS,HH,HC⟩:=ds hS h HC;clear h hS;unfold x6 at hr;by_cases hd30:30<d+1
 .rw[if_pos hd30]at hr;obtain rfl:=Option.some.inj hr;have rV:decide ((d:Int)+1>30)=true:=by simp;omega
  have HF:=lh (UW _ rb ts (d+1) 4 HS.o);clear hr;go_enter func65,ntmps65
  go_wp2_with fail
  refine HF.o.mono ?_;rintro e w2⟨⟨b,rfl,h1,h2⟩,hB⟩;rw[World.size_setCell]at h1;refine⟨rfl,⟨b,rfl,h1,h2⟩,?_⟩;exact((RFr.refl w rb).set 1 _).trans (RFr.below hB)
 .rw[if_neg hd30]at hr;have aZ:(w.setCell ⟨rb,1,none⟩ (vI ((d:Int)+1))).heap.size=w.heap.size:=World.size_setCell ..;have HX:=lh (HC.o Px hr _ HS.o aZ);have xq:=lh aZ;clear aZ hr;go_enter func65,ntmps65
  go_wp2_with fail
  refine HX.o.mono ?_;rcases r with⟨c,p⟩|⟨t,ts'⟩
  .rintro e w2⟨⟨b,rfl,h1,h2⟩,hF⟩;rw[xq.o]at h1;exact⟨rfl,⟨b,rfl,h1,h2⟩,((RFr.refl w rb).set 1 _).trans hF⟩
  .rintro e w2⟨a,rfl,hG,⟨Hn,yt,iX,h2⟩,hF⟩;have k1:=h2.c1;have kz:=h2.fz 1;obtain⟨H2,HG,HF⟩:=ds h2 hG hF;clear hG h2 hF;go_wp2;go_ret;exact⟨a,rfl,(HG.o.rfr hB ((RFr.refl w2 rb).set _ _)).pre ((RFr.refl w rb).set 1 _),⟨Hn,yt,iX,H2.o.deep Px⟩,(((RFr.refl w rb).set 1 _).trans HF.o).set 1 _⟩):G:=i
def Abt(i:G:=by
 obtain⟨dp,bP,ik,rW⟩:=en (λW M' (f:MFr M M' W0 W)=>HS.o W M' ((MFr.of_below jF.o).trans f)) (λW (hB:kW W0 W)=>bE.o W (jF.o.trans (hB.mono jF.o.size))) (HM.o.below jF.o) (Nat.le_trans HE.o jF.o.size)
 refine vy (.take 0 (.take 1 (.take 2 (.take 3 (.take 4 (.take 5 (.take 6 (.take 7 (.take 8 (.two 9 (.take 10 (.take 11 (.take 12 (.go 13 (.go 14 (.go 15 (.nil))))))) 13 (.go 9 (.take 10 (.take 11 (.take 12 (.go 14 (.go 15 (.nil))))))))))))))))) 14 (λW=>vC W w.heap.size 0 (.bool fr.strict)/\vC W w.heap.size 1 (vI fr.vars)/\vC W a.b 3 (.slice (some ⟨kg,0,none⟩) 1 kc)/\vC W kg 0 (vP o.b)/\vC W o.b 0 (vI o.kind)/\vC W o.b 1 (.string o.text)) (dp.o _ _ (MFr.drew (.refl _ _))) ?_
 refine qa ?_;refine Zr ?_;apply Sx (H:=ru C w M W0 r1);·exact SU dp bP rW.o HO.o
 .exact WH dp bP ik rW.o HO.o
 intro W1 p1 M1 k1 n1 t1 bL ah;have F1:=(MFr.of_below (M:=M) jF.o).trans ah.1.2.1;have bw:=lh F1;obtain⟨s1,q1⟩:=r1;cases q1 with
 |error x1=>
   refine Xb ?_;intro he av hR;simp only at hR;subst hR;obtain⟨T1,P1,rfl,hP⟩:=he.ne;have ed:=lh he;obtain⟨q0,q1,q2,z0,z1,z2⟩:=(HLR.o.fr F1).six;obtain⟨m0,m1,m2,-,-,-⟩:=(bM.o.fr F1).six;clear ah he HR F1;go_wp2;refine bodyPost_ret (v:=.tuple #[.agg #[vI 0,vI 0,.string ⟨#[]⟩],.iface T1 (.pointer P1)]) ?_ rfl ?_;·simp[results,results121,go_sem,q0,q1,q2]
   .exact .err HLR.o HBZ.o av.o.1.1 bw.o ed.o
 |ok v1=>
   obtain⟨rfl,rfl⟩:v1=⟨k1,n1,t1⟩/\bL=.nilIface:=ah.1.2.2;have hR:=HR.o;simp only[d9]at hR;obtain⟨c0,c1,c2,-,-,-⟩:=ah.2.six;have pO:=bI.o.2.2.2.1;have bD:=Zok ah.1.1 ⟨k1,n1,t1⟩ pO.1 pO.2.1;obtain⟨ks,bO⟩:∃ks,ks=Ul s1.H ⟨k1,n1,t1⟩:=⟨_,rfl⟩
   rw[<-bO]at bD hR;simp only[LVal.agg]at bD;have pP:=lh bD;have bT:=lh ah.1.1;have am:R=(s1,.ok ⟨4,0,ks⟩):=hR;clear ah F1 HR bD bO hR pO;subst am;go_wp2_with fail
   refine pP.o.mono ?_;rintro e W2⟨rfl,ar⟩;have aN:=lh ar;have iY:=Zbe W2 ks;simp only[LVal.agg]at iY;have Dw:=lh iY;clear ar iY c0 c1 c2;go_wp2_with fail
   refine Dw.o.mono ?_;rintro e W3⟨rfl,hB3⟩;have eF:=aN.o.trans (hB3.mono aN.o.size);obtain⟨q0,q1,q2,z0,z1,z2⟩:=(HLR.o.fr (bw.o.trans (.of_below eF))).six;have eg:=lh eF;clear hB3 eF;go_wp2;refine bodyPost_ret (v:=.tuple #[.agg #[vI 4,vI 0,.string ks],.nilIface]) ?_ rfl ?_;·simp[results,results121,go_sem,q0,q1,q2]
   .exact .fine HLR.o HBZ.o (bT.o.below eg.o) (bw.o.trans (.of_below eg.o))):G:=i
def Vz(i:G:=by
 go_enter func46,ntmps46
 go_wp2_with fail
 rw[<-lS.o];clear f5 y5 g5 d3 d0 d1 f0 f1;obtain⟨m0,m1,m2,-,-,-⟩:=(bM.o.fr lT.o).six;obtain⟨q0,q1,q2,z0,z1,z2⟩:=(HLR.o.fr lT.o).six;refine tm8 ?_;go_wp2;refine bodyPost_ret (v:=.tuple #[.bool false,.agg #[vI 0,vI 0,.string ⟨#[]⟩],.nilIface]) ?_ rfl ?_;·exact Vl
 .exact .fine' HLR.o HFz.o oL.o.drew (lT.o.trans (.drew (.refl _ _)))):G:=i
def Acp(i:G:=by
 have jZ:ax C M3 W3 x3 fg:=bj.1.2.2;have bG:R=vX D sc fr ((l.drop (k+1)).map (ATree.nt C.N)) (s3,.error x3):=HR.o;obtain⟨T1,P1,rfl,hP⟩:=jZ.ne;obtain⟨iN,dQ,mv⟩:=ds jZ bG (Fin.pre d7.o.2.1 d7.o.2.2.1 bC.o);clear bj F3 jZ HR;cases b3
 .go_wp2_with fail
  refine YR ?_;intro b0 b1 b2 q0 q1 q2 z0 pA z2 jP;refine sU ?_;have HNL:=lh (iN.o.fr (.drew (.refl _ _)));have g4:=jP.o.2.2.2 _ _ HNL.o;go_wp2_with fail
  go_roundw
  case rel=>exact⟨k+1,M3,(s3,.error x3),false,k3,n3,t3,by omega,by go_num,rfl,lh jP.o.1,lh jP.o.2.1,lh jP.o.2.2.1,lh g4,mv,dQ⟩
  case measure=>simp[intOf];omega
 .go_wp2_with fail
  refine YR ?_;intro b0 b1 b2 q0 q1 q2 z0 pA z2 jP;refine sU ?_;have HNL:=lh (iN.o.fr (.drew (.refl _ _)));have g4:=jP.o.2.2.2 _ _ HNL.o;go_wp2_with fail
  go_roundw
  case rel=>exact⟨k+1,M3,(s3,.error x3),true,k3,n3,t3,by omega,by go_num,rfl,lh jP.o.1,lh jP.o.2.1,lh jP.o.2.2.1,lh g4,mv,dQ⟩
  case measure=>simp[intOf];omega):G:=i
def AcD(i:G:=by
 obtain⟨k,c,hk,rfl,rfl,rfl,HK⟩:=hrel;by_cases bX:k<q
 .obtain⟨y,hy⟩:∃y,P[k]? =some y:=⟨_,List.getElem?_eq_getElem PP⟩
  obtain⟨g0,hp⟩:=gR.o k y hy;subst hp;have aT:=nj.o y (List.mem_of_getElem? hy);have cx:=N2.o.cell rfl hy;have c1:=(gy.o.kid aT).c1;have e9:P.drop k=y::P.drop (k+1):=by
   refine XQ ?_;intro hl he;rw[List.drop_eq_getElem_cons hl,he]
  clear aT hy;cases c
  .by_cases hs:Zg y.text Za=true
   .have hb:(y.text.toList== [97,114,103,117,109,101,110,116,115])=true:=by rw[<-Zf8,Ti,hs]
    have xh:=lh (show(o||(P.map (ATree.nt C.N)).any λk=>Zg k.text Za)=(true||((P.drop (k+1)).map (ATree.nt C.N)).any λk=>Zg k.text Za) by rw[HK.o,e9,List.map_cons,List.any_cons,rH,hs];rfl);clear HK hs e9;exact AaG
   .rw[Bool.not_eq_true]at hs;have hb:(y.text.toList== [97,114,103,117,109,101,110,116,115])=false:=by rw[<-Zf8,Ti,hs]
    have xh:=lh (show(o||(P.map (ATree.nt C.N)).any λk=>Zg k.text Za)=(false||((P.drop (k+1)).map (ATree.nt C.N)).any λk=>Zg k.text Za) by rw[HK.o,e9,List.map_cons,List.any_cons,rH,hs];rfl);clear HK hs e9;go_wp2_with fail
    go_roundw
    case rel=>exact⟨k+1,false,by omega,by first|rfl|rw[hb],by go_num,trivial,xh⟩
    case measure=>simp[intOf];omega
  .have xh:=lh (show(o||(P.map (ATree.nt C.N)).any λk=>Zg k.text Za)=(true||((P.drop (k+1)).map (ATree.nt C.N)).any λk=>Zg k.text Za) by rw[HK.o];simp);clear HK e9;exact AaG
 .have aR:k=q:=by omega
  subst aR;have hR:=HK.o;rw[List.drop_eq_nil_of_le Qr,List.map_nil,List.any_nil,Bool.or_false]at hR;go_wp2_with fail
  exact HKK.o _ _ ⟨rfl,⟨rfl,rfl,rfl,rfl,rfl,rfl,by rw[hR];rfl,trivial⟩,rfl⟩ aN.o):G:=i
def YD(i:G:=by
 subst hr;clear h h1 hob cM hm dt aq hk hp af hv ae bu;go_enter func124,ntmps124
 go_wp2_with fail
 refine UL ?_;intro w1 q0 q1 q2 f0 f1 f2 hs d0 d1 d2 eI HB;go_wp2_with fail
 refine Zsq ?_;intro w2 ar fk r0 r1 r2 r3;have r4:=HR.o w2 fk 4 (vI uL) rfl;have z1:=HZ.o w2 fk (k*6+1);have z2:=HZ.o w2 fk (k*6+1+1);have z3:=HZ.o w2 fk (k*6+1+2);refine Uh ?_;intro mm jm nW;have nZ:=lh fk;have aN:=lh (HB.o.trans (ar.mono (Nat.le_of_lt hs)));clear ar fk q0 q1 q2 f0 f1 f2 d0 d1 d2;go_wp2;go_ret;exact⟨rfl,ρ,L,nZ.o,Fr.of_below cA aN.o⟩):G:=i
def Ac5(i:G:=by
 refine YJ ?_;clear s9 hm4;intro W6 p6 M6 u0 u1 q0 q1 q2 z0 z1 z2 p0 p1 p2 kH mi;have hi4:Inv s4 (d+1):=by
  rw[HSs4.o];exact(nT.o.object (d:=d+1) (code:=3+(n0:Int)) Px (by rw[HSs3.o,qQ.o];simp;omega)).1
 have eV:=Vp kH.o.1.drew hi4 nx a.text 3 ⟨5,nO,⟨#[]⟩⟩;simp only[LVal.agg]at eV;have lZ:=lh eV;clear hi4 eV
 have lu:=lh (show∀W' M',MFr M6 M' W6 W'->vC W' a.b 1 (.string a.text)/\vC W' p6 0 (vI 5)/\vC W' p6 1 (vI nO)/\vC W' p6 2 (.string ⟨#[]⟩)from
  λW' M' f=>⟨(HS.o W' M' (mi.o.trans f)).2.1,(kH.o.2.2.fr f).cell rfl,(kH.o.2.2.fr f).cell rfl,(kH.o.2.2.fr f).cell rfl⟩)
 go_wp2_with fail
 refine ow [(true,0),(true,1),(true,2),(true,3),(true,4),(true,5),(true,6),(true,7),(true,8)] [9] (λW=>vC W a.b 1 (.string a.text)/\vC W p6 0 (vI 5)/\vC W p6 1 (vI nO)/\vC W p6 2 (.string ⟨#[]⟩)) (lu.o _ _ (.drew (.refl _ _))) (λbq=>?_);refine oK ?_;refine Z0 ?_;clear q0 q1 q2 z0 z1 z2 p0 p1 p2 u0 u1;go_wp2_with fail
 refine lZ.o.mono ?_;rintro e W7⟨rfl,M7,km,dJ⟩;have hF7':=(MFr.drew (.refl M6 W6)).trans dJ;obtain⟨-,p0,p1,p2⟩:=lu.o _ _ hF7';obtain⟨q0,q1,q2,z0,z1,z2⟩:=(HLR.o.fr (mi.o.trans hF7')).six;have HMX:=lh km;have oM:=lh (mi.o.trans hF7');clear km dJ hF7';go_wp2;refine bodyPost_ret (v:=.agg #[vI 5,vI nO,.string ⟨#[]⟩]) ?_ rfl ?_;·simp[results,results23,go_sem,q0,q1,q2]
 .obtain⟨g1,g2,g3⟩:=(HLR.o.fr oM.o).ret (x':=(vI 5)) (y':=(vI nO)) (z':=.string ⟨#[]⟩) HMX.o ((MFr.of_below HBZ.o).trans oM.o);exact⟨by rw[HNO2.o],_,by rw[nu.o];exact(by have:=g1;rw[HSs4.o,HSs3.o,qQ.o]at this;rw[HNO2.o]at this ⊢;simpa[LVal.ref]using this),g2⟩):G:=i
def Wd(i:G:=by
 go_wp2_with fail
 refine HE.o.mono ?_;rcases r with⟨c,p⟩|⟨t,ts'⟩
 .rintro e wz⟨⟨b,rfl,h1,h2⟩,hF⟩;exact⟨rfl,⟨b,rfl,h1,h2⟩,hF⟩
 .rintro e wz⟨az,rfl,hG,hR,hF⟩;obtain⟨HG,HR,HF⟩:=ds hG hR hF;clear hG hR hF HE;go_wp2;go_ret;exact⟨az,rfl,HG.o,HR.o,HF.o⟩):G:=i
def Aai(i:G:=by
 obtain⟨s3,q3⟩:=R;cases q3 with
 |error x3=>
   refine Zvu ?_;intro iN;go_wp2;refine bodyPost_ret (v:=.tuple #[.bool b3,.agg #[vI k3,vI n3,.string t3],fg]) ?_ rfl ?_;·exact Vl
   .exact .err' HLR.o HFz.o HB3.o.1 bK.o iN.o
 |ok v3=>
   obtain⟨rfl,rfl⟩:v3=(b3,⟨k3,n3,t3⟩)/\fg=.nilIface:=HB3.o.2.2;go_wp2;refine bodyPost_ret (v:=.tuple #[.bool b3,.agg #[vI k3,vI n3,.string t3],.nilIface]) ?_ rfl ?_;·exact Vl
   .exact .fine' HLR.o HFz.o HB3.o.1 bK.o):G:=i
def yC(i:G:=by
 simp[results,results46,go_sem,q0,q1,q2]):G:=i
def ZZ(i:G:=by
 rw[<-mw]at av hR;subst hR;clear mw;obtain⟨s1,q⟩:=R;simp only[ag];cases q with
 |error x1=>
   have he:ax C M1 w1 x1 bL:=av.o.2.2;have HE:=lh he;clear he;go_wp2;refine bodyPost_ret (v:=.tuple #[.agg #[vI k1,vI n1,.string t1],bL]) ?_ rfl ?_;·exact UY
   .exact .err HLR.o HBZ.o av.o.1 av.o.2.1 HE.o
 |ok v1=>
   obtain⟨rfl,rfl⟩:v1=⟨k1,n1,t1⟩/\bL=.nilIface:=av.o.2.2;go_wp2;refine bodyPost_ret (v:=.tuple #[.agg #[vI k1,vI n1,.string t1],.nilIface]) ?_ rfl ?_;·exact UY
   .exact .fine HLR.o HBZ.o av.o.1 av.o.2.1):G:=i
def AaK(i:G:=by
 go_wp2;refine bodyPost_ret (v:=.agg #[vI 5,vI nO,.string ⟨#[]⟩]) ?_ rfl ?_;·simp[results,results23,go_sem,q0,q1,q2]
 .obtain⟨g1,g2,g3⟩:=(HLR.o.fr oM.o).ret (x':=(vI 5)) (y':=(vI nO)) (z':=.string ⟨#[]⟩) HMX.o ((MFr.of_below HBZ.o).trans oM.o);exact⟨by rw[HNO2.o],_,by rw[nu.o];exact(by have:=g1;rw[HSs4.o,HSs3.o,qQ.o]at this;simpa using this),g2⟩):G:=i
def Uq(i:G:=by
 have HC:=lh HC;clear hv;go_wp2_with fail
 refine HC.o.mono ?_;rintro e wz⟨⟨b,rfl,h1,h2⟩,hF⟩;exact⟨rfl,mc.pre F2.o (r:=.error (c,p)) ⟨⟨b,rfl,h1,h2⟩,hF⟩⟩):G:=i
def rp(i:G:=by
 simp[results,results78,go_sem,q0,q1,q2]):G:=i
def AcW(i:G:=by
 have dQ:=lh (show R=vX D sc fr ((l.drop (k+1)).map (ATree.nt C.N)) (s3,.ok (true,⟨k3,n3,t3⟩))from HR.o);have mv:=lh (Fin.pre d7.o.2.1 d7.o.2.2.1 bC.o);clear HR;go_wp2_with fail
 refine YR ?_;intro b0 b1 b2 q0 q1 q2 z0 pA z2 jP;refine sU ?_;go_wp2_with fail
 go_roundw
 case rel=>exact⟨k+1,M3,(s3,.ok (true,⟨k3,n3,t3⟩)),true,k3,n3,t3,by omega,by go_num,rfl,lh jP.o.1,lh jP.o.2.1,lh jP.o.2.2.1,lh ⟨rfl,rfl⟩,mv,dQ⟩
 case measure=>simp[intOf];omega):G:=i
def Ac4(i:G:=by
 rintro e wz⟨⟨b,rfl,h1,h2⟩,hF⟩;exact⟨rfl,mc.pre F2.o (r:=.error (c,p)) ⟨⟨b,rfl,h1,h2⟩,hF⟩⟩):G:=i
def AcF(i:G:=by
 have fT:Up aj=(decide (xu=18)&&Zg t1 WJ):=by rw[<-jD.o];rfl
 have il:=lh fT;clear ae pI rQ hb0 ah lq fT;by_cases uM:xu=18
 .subst uM;by_cases jG:t1=WJ
  .subst jG;have H1:=lh (yu.o (by rw[il.o];simp[Zg]));unfold WJ at e1;go_wp2;go_ret;exact H1.o
  .have H0:=lh (pQ.o (by rw[il.o];simp[Zg,jG]));have aG:¬t1.toList=WJ.toList:=λh=>jG (Z4b h);have iV:(t1.toList==WJ.toList)=false:=by simpa using aG
   have hl:WJ.toList=[117,115,101,32,115,116,114,105,99,116]:=by rw[Lib.toList_data];rfl
   have pu:¬t1.toList=[117,115,101,32,115,116,114,105,99,116]:=by rw[<-hl];exact aG
   have hne4:(t1.toList== [117,115,101,32,115,116,114,105,99,116])=false:=by simpa using pu
   unfold WJ at aG iV;clear jG hl;go_wp2;go_ret;exact H0.o
 .have n18:(xu==18)=false:=by simpa using uM
  have H0:=lh (pQ.o (by rw[il.o];simp[uM]));clear uM;go_wp2;go_ret;exact H0.o):G:=i
def ZN(i:G:=by
 rw[<-ei]at h1;have eC:=lh h1;clear h1 ei hR;subst am;go_enter func120,ntmps120
 go_wp2_with fail
 rw[<-HZ.o];clear x0 x1 x2 y0 y1 y2;refine eC.o.mono ?_;refine Zm9 ?_;intro w1 q0 q1 q2 z0 z1 z2 av;go_wp2;refine bodyPost_ret (v:=.tuple #[.agg #[vI 2,vI ib,.string ⟨#[]⟩],.nilIface]) ?_ rfl ?_;·exact UY
 .exact .fine HLR.o HBZ.o (HM.o.below av.o) (.of_below av.o)):G:=i
def Acm(i:G:=by
 go_wp2_with fail
 refine Z7 [0,2,4,6,8,10,12,14,16,18,20,22,24,26,28,30,32,34,36] [19,20,21] (λW=>vC W sb 0 (.string text)/\vC W sb 1 (vI i)) ⟨q0,q1⟩ λ_=>?_;refine dU ?_
 iterate 19
  refine fa ?_
 refine Z0 ?_;go_wp2;refine Z7 [0,2,4,6,8,10] [6] (λW=>vC W sb 1 (vI i)) q1 λ_=>?_;refine dU ?_
 iterate 6
  refine fa ?_
 refine Z0 ?_;go_wp2;go_ret3
 rw[bA.o];exact⟨rfl,SI.o.drew.drew⟩):G:=i
def Wk(i:G:=by
 rintro e w9⟨⟨b,rfl,h1,h2⟩,hB⟩;exact⟨rfl,mc.err FQ.o ⟨b,rfl,h1,h2⟩ hB⟩):G:=i
def Aa8(i:G:=by
 exact⟨rfl,mc.pre F2.o (r:=.error (c,p)) ⟨⟨b,rfl,h1,h2⟩,hF⟩⟩):G:=i
def Wp(i:G:=by
 simp only[ATree.tree,Tree.mk.injEq,true_and]at h2;rw[h2]at h1;exact h1):G:=i
def Abh(i:G:=by
 go_wp2_with fail
 rw[<-mB.o];refine(kn.o w1 Dx.o).mono ?_;rintro e w3⟨rfl,bj⟩;obtain⟨r0,r1,iC,mn⟩:=cN.o w3 bj;have gI:=lh iC;have mp:=lh mn;clear bj iC mn q0 q1;cases SB
 .simp only[Bool.false_eq_true,if_false]at xv ⊢;go_wp2_with fail
  refine(gu.o w3 mp.o).mono ?_;rintro e w4⟨rfl,fX⟩;have kH:=zT gI fX;clear fX;by_cases hz:RK=0
  .subst hz;go_wp2;go_ret;exact⟨by rw[xv.o];rfl,kH.o⟩
  .have n0:(RK !=0)=true:=by simpa using hz
   have HEV2:Hid (ev=.iface 44 (vI RK)):=lh (by rw[xv.o];unfold da;rw[if_neg hz]);clear hz xv;go_wp2;go_ret;exact⟨by rw[HEV2.o];rfl,kH.o⟩
 .simp only[if_true]at xv ⊢;go_wp2;go_ret;exact⟨by rw[xv.o];rfl,gI.o⟩):G:=i
def Aah(i:G:=by
 have HC:=lh (Xp w3 rb B _ d _ _ P3.o.rd (by have:=P3.o.deep;omega) ay hv λhd h1 w4 hR hs=>HS.o w4 rb B (d+1) _ _ ⟨hR,hd,ay,by have:=P3.o.le;omega,P3.o.few⟩ h1);clear hv;go_wp2_with fail
 refine HC.o.mono ?_;rintro e wz⟨⟨b,rfl,h1,h2⟩,hF⟩;exact⟨rfl,mc.pre F3.o (r:=.error (c,p)) ⟨⟨b,rfl,h1,h2⟩,hF⟩⟩):G:=i
def Aae(i:G:=by
 refine oK ?_;refine Z0 ?_;go_wp2_with fail
 refine HW.o.mono ?_;rintro e W4⟨rfl,M4,fC,be⟩;have iZ:=lh fC;have ko:=lh ((dZ.o.trans bK.o).trans ((MFr.drew (.refl M3 W3)).trans be));clear fC be;go_wp2_with fail
 go_roundw
 case rel=>exact⟨k+1,M4,sb,by omega,by go_num,iZ,ko,ti,tj,bA⟩
 case measure=>simp[intOf];omega):G:=i
def Aa3(i:G:=by
 rw[e];clear e;go_enter func131,ntmps131
 go_wp2_with fail
 refine Z7 [0,2,4,6,8,10,12,14,16] [9,10,11] (λW=>vC W w.heap.size 0 (vI 5)/\vC W w.heap.size 1 (vI n)) ⟨World.cell?_alloc_new _ _ _ 0,World.cell?_alloc_new _ _ _ 1⟩ λ_=>?_;refine dU ?_
 iterate 9
  refine fa ?_
 refine Z0 ?_;go_wp2_with fail
 refine HC.o.mono ?_;rintro e w1⟨rfl,rfl⟩;go_wp2;go_ret;exact⟨rfl,HB.o.drew⟩):G:=i
def Aaa(i:G:=by
 exact⟨mb,⟨λ_=>⟨e,h1,Nat.lt_of_lt_of_le h2 hg.size,_,by have:(false).toNat=0:=rfl;have:(true).toNat=1:=rfl;omega,ho⟩,(λh=>by cases h),hm.2.2.1,(λh=>by cases h)⟩,hc.keep hr hB hg.size hg.os hg.tape hg.output (λx hx hn=>hg.block x hx (λe=>hn (by cases e;rfl))) h1 (.inl rfl),hr,hB,Nat.le_trans hs hg.size⟩):G:=i
def Abl(i:G:=by
 rw[<-Dy]at hR eH;clear Dy;subst hR;obtain⟨s9,q9⟩:=R;cases q9 with
 |error x9=>
   have HE9:=lh (show ax C M9 W9 x9 BU from eH.o.2.2);go_wp2;refine bodyPost_ret (v:=.tuple #[.bool b9,.agg #[vI k9,vI n9,.string t9],BU]) ?_ rfl ?_;·simp[results,results81,go_sem,q0,q1,q2]
   .exact .err HLR.o HBZ.o eH.o.1 rh.o HE9.o
 |ok v9=>
   obtain⟨rfl,rfl⟩:v9=(b9,⟨k9,n9,t9⟩)/\BU=.nilIface:=eH.o.2.2;go_wp2;refine bodyPost_ret (v:=.tuple #[.bool b9,.agg #[vI k9,vI n9,.string t9],.nilIface]) ?_ rfl ?_;·simp[results,results81,go_sem,q0,q1,q2]
   .exact .fine HLR.o HBZ.o eH.o.1 rh.o):G:=i
def BG(i:G:=by
 simp[results,results121,go_sem,q0,q1,q2]):G:=i
def Nj(i:G:=by
 go_wp2_with fail
 refine HC.o.mono ?_;rintro e w1⟨rfl,rfl⟩;go_wp2;go_ret;exact⟨rfl,rfl⟩):G:=i
def Aa7(i:G:=by
 go_wp2;refine Z7 [0,2,4,10,7,8] [6] (λW=>vC W tb 3 (vI j)) t3 λ_=>?_;refine dU ?_
 iterate 4
  refine fa ?_
 refine WM ?_
 iterate 1
  refine fa ?_
 refine Z0 ?_;go_wp2;go_ret2
 rw[HE.o];exact Zhw (M4.o.scan.belowOf B1.o hb0) _):G:=i
def YS(i:G:=by
 go_wp2_with fail
 refine HQ.o.mono ?_;rintro e w4⟨ev,rfl,he,eF⟩;have eg:=lh eF;have HE:=lh he;clear eF he;go_wp2;go_ret;have hR:=HR.o;simp[tE,r']at hR;rw[hR];exact⟨M2,(H2.o.below HB3.o).below eg.o,gY.o.trans (ba.o.trans ((MFr.of_below HB3.o).trans (.of_below eg.o))),ev,rfl,HE.o⟩):G:=i
def Tv(i:G:=by
 go_wp2_with fail
 refine HC.o.mono ?_;rintro e w1⟨rfl,rfl⟩;go_wp2;go_ret;exact⟨rfl,ρ,L,HH.o,Fr.of_below cA HB.o⟩):G:=i
def Acc(i:G:=by
 rcases BV with h3|⟨h3,tt⟩
 all_goals
  go_enter func120,ntmps120
  go_wp2_with fail
  rw[<-HZ.o];clear x0 x1 x2 y0 y1 y2;refine Zxw ?_;intro w9 ev q0 q1 q2 z0 z1 z2 eH HE;subst hR;go_wp2;refine bodyPost_ret (v:=.tuple #[.agg #[vI 0,vI 0,.string ⟨#[]⟩],ev]) ?_ rfl ?_;·simp[results,results120,go_sem,q0,q1,q2]
  .exact .err HLR.o HBZ.o (HM.o.below eH.o) (MFr.trans (.refl _ _) (.of_below eH.o)) HE.o):G:=i
def Ms(i:G:=by
 obtain⟨wA,hr⟩:=hc.row;obtain⟨pv,cv,h,-⟩:=hr.form;exact⟨pv,_,cv,h⟩):G:=i
def Acg(i:G:=by
 have gJ:g≠b:=by
  rcases HT.o with h|h;·exact λe=>tu.o (by rw[h,e])
  .omega
 have ac:w2.heap[b]?=some (.cells #[vP b,v] 184 (0,0)):=(HG.o.block b PB (λe=>tu.o e.symm)).trans ((Below.heap_alloc _ _ _ iJ).trans HB.o.blk);refine⟨Zj _ ac,.inr rfl,?_,by simp only[Value.ownBlock,ne_eq,Option.some.injEq];exact gJ,Ho⟩;rw[List.length_append,<-pR.o];exact Z3 HW.o λg' eO=>Below.heap_setCell _ _ _ _ (λe=>gJ (by simp only[Value.ownBlock,Option.some.injEq]at eO;rw[eO,e]))):G:=i
def AcI(i:G:=by
 obtain⟨h1,h2,h3⟩:=h;have hL:Lo C M' w w' w.heap.size #[vI k0,vI n0,.string t0] 56:=by
  have:Lo C M w (w.alloc (vO k0 n0 t0)).drew w.heap.size #[vI k0,vI n0,.string t0] 56:=(Lo.new hM (Nat.le_refl _) (Nat.le_trans hO hE) _ _).fr (.drew (.refl _ _));exact this.fr h2
 obtain⟨g1,g2,g3,g4⟩:=hL.fill (x':=(vI k)) (y':=(vI n)) (z':=.string t) h1 ((MFr.of_below ((Z1 w (vO k0 n0 t0)).drew)).trans h2) (Nat.le_refl _);refine⟨⟨g1,g2,?_⟩,g3⟩;rcases hr:r.2 with x|v;·rw[hr]at h3;exact g4 _ _ h3
 .rw[hr]at h3;exact h3):G:=i
def Ab'(i:G:=by
 have hw:=HW.o;rw[oQ.o,j9.o]at hw;rw[j9.o];simpa[nc,nF,kr,nE,CloR.cells,ATree.ptr]using hw):G:=i
def SN(i:G:=by
 simp only[Except.ok.injEq,Prod.mk.injEq]at h;obtain⟨rfl,_⟩:=h;simp at hk):G:=i
def AcK(i:G:=by
 refine Ze (λK hK=>?_);go_simp
 refine rR.o.mono ?_;rintro e W3⟨M3,k3,n3,t3,fg,rfl,de⟩;have F3:=(MFr.drew (.refl M1 W2)).trans de.2.1;refine hK _ _ (rl.o _ _ F3) ?_;clear hK K;obtain⟨dQ,bK,oR⟩:=ds de (ba.o.trans F3) (gS.o.fr F3);refine Xw ?_;intro q0 q1 q2 z0 z1 z2;clear de F3 rR;refine B' ?_;go_wp2_with fail
 show Go.Leaves _ _ _ _ _ _ _;exact Zia (r:=r) i8.o dQ.o.1 bK.o (yv.o) pS.o oR.o yw.o fd.o dQ.o.2.2 rfl rfl):G:=i
def AbV(i:G:=by
 have jp:=Sf Dz.o.mat SO;simp only[SO]at jp;have uN:=lh jp;clear jp;go_wp2_with fail
 refine uN.o.mono ?_;rintro e w5⟨o6,rfl,rm,eM⟩;have xw:=lh (show ax C M w5 (.thr (.say SO)) o6 from rm);have lx:=lh (Dz.o.bel eM);obtain⟨q0,q1,q2,z0,z1,z2⟩:=lx.o.lr.six;clear rm eM;go_wp2_with fail
 refine bodyPost_ret (v:=.tuple #[.agg #[vI 0,vI 0,.string ⟨#[]⟩],o6]) ?_ rfl ?_;·exact ZQ
 .rw[fd.o];exact Aa5 lx.o xw.o rfl):G:=i
def Uu(i:G:=by
 have:=HV.o.symm.trans gm;simp only[Value.slice.injEq]at this;exact this.1):G:=i
def UA(i:G:=by
 rintro e w7⟨⟨b,rfl,h1,h2⟩,dJ⟩;exact⟨rfl,mc.pre FQ.o.drew (r:=.error (c,p)) ⟨⟨b,rfl,h1,h2⟩,dJ⟩⟩):G:=i
def Ab7(i:G:=by
 unfold WI Zg at hs;simp only[decide_eq_true_eq]at hs;by_cases h1:s=Hs;·exact .inl h1
 by_cases h2:s=V0;·exact .inr (.inl h2)
 by_cases h3:s=Wc;·exact .inr (.inr (.inl h3))
 by_cases h4:s=Vt;·exact .inr (.inr (.inr (.inl h4)))
 by_cases h5:s=U5;·exact .inr (.inr (.inr (.inr (.inl h5))))
 by_cases h6:s=Vn;·exact .inr (.inr (.inr (.inr (.inr (.inl h6)))))
 by_cases h7:s=V5;·exact .inr (.inr (.inr (.inr (.inr (.inr h7)))))
 simp[h1,h2,h3,h4,h5,h6,h7]at hs):G:=i
def YZ(i:G:=by
 rw[show da cd=.nilIface by rw[fZ];rfl];clear dC bg cF fZ;go_wp2_with fail
 go_roundw
 case rel=>exact⟨k+1,M3,sb,by omega,by go_num,dE,lh (dZ.o.trans bK.o),ti,tj,bA⟩
 case measure=>simp[intOf];omega):G:=i
def ZE(i:G:=by
 obtain⟨HG,HR,HF⟩:=ds (hG.pre F2.o) hR (F2.o.trans hF);clear hG hR hF HC;go_wp2;go_ret;exact⟨a,rfl,HG.o,HR.o,HF.o⟩):G:=i
def VV(i:G:=by
 go_wp2;go_ret;exact⟨a,rfl,HG.o,HR.o,HF.o⟩):G:=i
def VP(i:G:=by
 rcases iU.o with h|h;·exact .inl h
 .exact .inr Px):G:=i
def Wo(i:G:=by
 go_wp2_with fail
 refine HC.o.mono ?_;rintro e w3⟨⟨b,rfl,h1,h2⟩,hB⟩;exact⟨rfl,mc.err (RFr.refl _ _) ⟨b,rfl,h1,h2⟩ hB⟩):G:=i
def AaM(i:G:=by
 exact .err' HLR.o HFz.o HB3.o.1 bK.o iN.o):G:=i
def TC(i:G:=by
 rintro e w2⟨⟨b,rfl,h1,h2⟩,hF⟩;exact⟨rfl,⟨b,rfl,h1,h2⟩,hF⟩):G:=i
def LV(i:G:=by
 simp[results,results132,go_sem,q0,q1,q2]):G:=i
def TN(i:G:=by
 clear fI;go_wp2;go_ret;exact⟨by rw[aH.o];rfl,eH.o⟩):G:=i
def AbS(i:G:=by
 simp only[ATree.tree,Tree.mk.injEq,true_and]at this;rw[<-this,Z9z,List.length_map]):G:=i
def AaW(i:G:=by
 refine oK ?_;refine Z0 ?_;go_wp2_with fail
 refine kp.o.mono ?_;rintro e W5⟨rfl,M5,l9,eN⟩;have rn:=lh l9;have ro:=lh (bK.o.trans (((MFr.drew (.refl Mb W3)).trans (.drew (.refl _ _))).trans eN));clear l9 eN;go_wp2_with fail
 go_roundw
 case rel=>exact⟨k+1,M5,sb,by omega,by go_num,rn,ro,ti,tj,bA⟩
 case measure=>simp[intOf];omega):G:=i
def AaP(i:G:=by
 have gI:=lh eM;obtain⟨q0,q1,q2,z0,z1,z2⟩:=((HLR.o.fr HF.o).bel eM).six;clear rm eM;go_wp2_with fail
 refine⟨.tuple #[.agg #[vI 0,vI 0,.string ⟨#[]⟩],o6],?_,?_⟩;·simp[results,results133,go_sem,q0,q1,q2]
 .rw[fd.o];exact cK.err HLR.o HBZ.o (HM.o.below gI.o) (HF.o.trans (.of_below gI.o)) xw.o):G:=i
def AbZ(i:G:=by
 exact .fine' HLR.o HFz.o HB3.o.1 bK.o):G:=i
def AbQ(i:G:=by
 rw[<-jw]at am ap;obtain⟨N,FQ,PQ⟩:=ds hA ap ((P3.o.next (ts':=us) hR be ke.o).next am (RFr.below (rb:=rb) bj) (Nat.le_refl _));clear kT nX kU hY hR be ah aA bj hA am ap HN aK jw aZ dl HC;have pT:=lh (Option.some.inj uF.o).symm;go_wp2;go_ret;rw[pT.o];exact⟨_,rfl,N.o,PQ.o.rd,FQ.o⟩):G:=i
def Abe(i:G:=by
 go_roundw
 case rel=>
  refine⟨k+1,_,rfl,by omega,by go_num,lh ?_,lh ?_⟩
  .rw[HF.o,if_pos (by simp[vG,<-kO.o])];exact AaL
  .exact AcP
 case measure=>simp[intOf];omega):G:=i
def YK(i:G:=by
 have:Lo C M wE (w.alloc (vO k0 n0 t0)).drew w.heap.size #[vI k0,vI n0,.string t0] 56:=(Lo.new hM hE hO _ _).fr (.drew (.refl _ _));exact this.fr h.2.1):G:=i
def AbX(i:G:=by
 have:m=((List.range l.toArray.size).map λj=>!ph.contains j).toArray:=by
  apply Array.ext;·simp only[hs,List.size_toArray,List.length_map,List.length_range]
  .intro j h1 h2;have:=rX j Px;simp only[List.getElem_toArray,List.getElem_map,List.getElem_range];rw[<-this];simp[h1]
 rw[this];exact rY):G:=i
def Aar(i:G:=by
 have bX:k=n:=Px
 subst bX;have HO:=lh dO;clear dO aE hc;go_wp2;go_ret;exact⟨by rw[findIdx?_none_of (by rw[<-HN.o];exact HO.o)];rfl,hB⟩):G:=i
def ZX(i:G:=by
 split at h;·cases h
 .simp only[Except.ok.injEq,Prod.mk.injEq]at h;obtain⟨rfl,_⟩:=h;exact⟨by simp,(λh=>by simp at h),(λh=>by simp at h)⟩):G:=i
def AcH(i:G:=by
 have tv:=lh jq.1;clear hy mC i' eV hR jq;go_wp2_with fail
 refine lZ.o.mono ?_;rintro e W4⟨rfl,M4,fC,be⟩;have iZ:=lh fC;have ko:=lh (HFk.o.trans be);clear fC be;go_wp2_with fail
 go_roundw
 case rel=>exact⟨k+1,M4,_,by omega,by go_num,iZ,ko,tv,HR⟩
 case measure=>simp[intOf];omega):G:=i
def Vq(i:G:=by
 go_enter func82,ntmps82
 go_wp2;go_ret;exact⟨by simp,(Below.refl _ _).alloc (Nat.le_refl _) _⟩):G:=i
def Aba(i:G:=by
 go_roundw
 case rel=>
  refine⟨k+1,by go_num,by omega,λj a hj ha=>?_,hB.trans (aO.mono hB.size)⟩;by_cases pU:j=k
  .subst pU;have:=HG.o.symm.trans ha;simp only[Option.some.injEq]at this;subst this;simpa[LBind.is]using hq
  .exact HO.o j a Px ha
 case measure=>simp[intOf];omega):G:=i
def UJ(i:G:=by
 exact⟨g.1,g.2.1,g.2.2.1,by show _<=20000*(s.steps.toNat+1);omega⟩):G:=i
def AaE(i:G:=by
 refine Eq.trans (show _=z.cell? ⟨0,0,none⟩from ?_) cV;refine Eq.trans (World.cell?_setCell_other _ _ _ _ QO) (Eq.trans (World.cell?_setCell_other _ _ _ _ QO) (World.cell?_setCell_other _ _ _ _ QO))):G:=i
def Abb(i:G:=by
 simp only[Act.put,zA,zB,zC];go_wp2;go_ret;exact⟨rfl,mD.o,⟨oa.o.os.trans HG.o.os,oa.o.tape.trans HG.o.tape,oa.o.output.trans HG.o.output,Nat.le_trans HG.o.size oa.o.size,λb h1 h2=>(oa.o.block b (Nat.lt_of_lt_of_le h1 HG.o.size) h2).trans (HG.o.block b h1 h2)⟩⟩):G:=i
def Ab0(i:G:=by
 go_wp2;go_loop [8] (λi=>i=(vI 0)) (λ_=>0)
 case atStart=>rfl
 case round=>
  subst hrel;go_wp2;go_ret;exact⟨rfl,Below.refl _ _⟩):G:=i
def SG(i:G:=by
 simp[results,results119,go_sem,q0,q1,q2]):G:=i
def UI(i:G:=by
 simp[results,results133,go_sem,q0,q1,q2]):G:=i
def UB(i:G:=by
 go_enter func26,ntmps26
 go_wp2;go_ret;exact⟨rfl,HB.o _⟩):G:=i
def Ac1(i:G:=by
 exact⟨none,0,by rw[h1,h2];rfl,by rw[h2];exact Nat.le_refl _,by unfold maxLen;omega⟩):G:=i
def Aa'(i:G:=by
 unfold Sq at h;by_cases h1:ak TP ts=true;·exact Zm h1
 .by_cases h2:ak Un ts=true;·exact Zm h2
  .by_cases h3:ak Vg ts=true;·exact Zm h3
   .by_cases h4:ak Vw ts=true;·exact Zm h4
    .simp[h1,h2,h3,h4]at h):G:=i
def Abm(i:G:=by
 have S9:=MT.o.app HZ.o HG.o;have S9:=lh S9;go_roundw
 case rel=>exact⟨j+z,f,l++[⟨5,X,0,j⟩],_,rfl,S9.o,Z55 o7.o,Z6d HQ.o HJ.o ay HT.o,by omega,by omega,by simp;omega⟩
 case measure=>
  rw[S9.o.c1,CI.o];simp[intOf];omega):G:=i
def AbM(i:G:=by
 refine Vu ?_;refine HK.o _ _ ?_;exact HN.o _ _ M7 _ ⟨rfl,⟨rfl,rfl,rfl,rfl,trivial⟩,rfl⟩ (yx.o.below o8.o).drew ((tz.o.trans (.of_below o8.o)).trans (.drew (.refl _ _))) (HL.o.fr (.drew (.refl _ _)))):G:=i
def Acy(i:G:=by
 go_wp2_with fail
 refine HC.o.mono ?_;rintro e w9⟨⟨b,rfl,h1,h2⟩,hB⟩;exact⟨rfl,mc.err F5.o ⟨b,rfl,h1,h2⟩ hB⟩):G:=i
def Acu(i:G:=by
 have:=Zm h;refine Z8.bind (ih _ _ _ PD) (L .around _ _) λt us h2=>?_;exact Z8.bind (Z8.within (ih _ _ _ PK)) (Leaves.within (L .stmt _ _)) λt vs h3=>Z8.ok):G:=i
def AaN(i:G:=by
 rcases h.form with⟨h1,h2⟩|⟨g,cap,h1,h2,h3⟩;·exact⟨none,0,by rw[h1,h2];rfl,by rw[h2];exact Nat.le_refl _,by unfold maxLen;omega,λi x hx=>by rw[h2]at hx;simp at hx⟩
 .exact⟨_,_,h1,h2,h3,λi x hx=>⟨g,rfl⟩⟩):G:=i
def VN(i:G:=by
 exact⟨rfl,mc.pre F4.o (r:=.error (c,p)) ⟨⟨b,rfl,h1,h2⟩,hF⟩⟩):G:=i
def To(i:G:=by
 exact⟨by simp[Dc,hx];decide,by decide⟩):G:=i
def ZC(i:G:=by
 simp only[Except.ok.injEq,Prod.mk.injEq]at h;obtain⟨rfl,_⟩:=h;simp at h1):G:=i
def Aa2(i:G:=by
 refine Near.scope (m:=m) hm PE λp hp=>?_;have rZ:=List.mem_of_getElem? hb;rcases List.mem_or_eq_of_mem_set hp with h|rfl;·exact⟨.inr ⟨p,h,rfl⟩,.inr ⟨p,h,rfl⟩⟩
 .exact⟨.inl hv,.inr ⟨b,rZ,rfl⟩⟩):G:=i
def YW(i:G:=by
 go_enter func72,ntmps72
 go_wp2;go_ret;refine⟨by rw[aH.o];rfl,?_⟩;rw[<-fq.o];exact fc.o):G:=i
def Vm(i:G:=by
 have h3:dd=D:=h3;subst h3;exact congrArg (λt=>(⟨t,dd⟩:Act)) e):G:=i
def AbP(i:G:=by
 go_enter func20,ntmps20
 go_wp2_with fail
 refine HC.o.mono ?_;rintro e w1⟨rfl,rfl⟩;go_wp2_with fail
 refine HB.o.mono ?_;rintro e w1⟨rfl,hB⟩;have dn:=lh hB;clear hB;go_wp2;go_ret;exact⟨rfl,dn.o⟩):G:=i
def Abu(i:G:=by
 subst cJ;rw[List.getElem?_append_right (Nat.le_refl _)]at hj;simp only[Nat.sub_self,List.getElem?_cons_zero,Option.some.injEq]at hj;subst hj;simp only[n,if_true];exact⟨ac,by simpa using World.ownsRow_nil _ _ _ _⟩):G:=i
def AbD(i:G:=by
 go_wp2;go_ret2
 rw[HE.o];exact Zhw (M4.o.scan.belowOf B1.o hb0) _):G:=i
def AcE(i:G:=by
 have gL:Up aj=false:=by rw[<-jD.o];rfl
 have H0:=lh (pQ.o gL);clear gL;rcases Z4 ae with⟨rfl,_⟩|⟨g0,gA,rfl,_,_,_⟩
 all_goals
  clear ae;go_wp2;go_ret;exact H0.o):G:=i
def YT(i:G:=by
 go_wp2_with fail
 refine HC.o.mono ?_;rintro e w1⟨rfl,rfl⟩;go_wp2;go_ret;exact⟨rfl,Below.refl _ _⟩):G:=i
def Zq0(i:G:=by
 go_enter func108,ntmps108
 go_wp2;go_ret;exact⟨rfl,HB.o⟩):G:=i
def XI(i:G:=by
 intro j o hj;have iF:=getElem?_lt hj;exact⟨by rw[far _ _ (h.rob j iF) PE PE];exact(h.obj j o hj).1,Z3 (h.obj j o hj).2 λg hg=>far g _ (h.rpv j g iF hg) PE PE⟩):G:=i
def Zzq(i:G:=by
 intro j o hj;have iF:=getElem?_lt hj;exact⟨by rw[far _ _ (h.rsb j iF) PE PE];exact(h.scp j o hj).1,Z3 (h.scp j o hj).2 λg hg=>far g _ (h.rnv j g iF hg) PE PE⟩):G:=i
def Zsy(i:G:=by
 exact .err HLR.o HBZ.o av.o.1.1 bw.o ed.o):G:=i
def Zpd(i:G:=by
 go_enter func113,ntmps113
 go_wp2;go_ret;exact⟨rfl,rfl⟩):G:=i
def Zpm(i:G:=by
 exact .fine' HLR.o HFz.o (HM.o.below av.o) (.of_below av.o)):G:=i
def Zrj(i:G:=by
 by_cases h:c;·rw[if_pos h];exact hp h
 .rw[if_neg h];exact hq h):G:=i
def Zrp(i:G:=by
 go_enter func40,ntmps40
 go_wp2;go_ret2
 exact⟨rfl,rfl⟩):G:=i
def Zs0(i:G:=by
 go_enter func34,ntmps34
 go_wp2;go_ret2
 exact⟨rfl,rfl⟩):G:=i
def Zy2(i:G:=by
 have n15:(xx==15)=false:=by simpa using xy
 have H0:=lh (pQ.o (by rw[<-jD.o];cases l0<;>simp[f6,ATree.tree,Up,xy]));clear ae pI rQ hb0 lq xy;go_wp2;go_ret;exact H0.o):G:=i
def Zy0(i:G:=by
 have h3:=Lo.new (wE:=w) (h.below h1) Px h.old.size #[vI 0,vI 0,.string ⟨#[]⟩] 56;rw[hs]at h3;exact⟨h1.trans ((Z1 _ _).mono h1.size),h2.bel (Z1 _ _),h3⟩):G:=i
def Zrx(i:G:=by
 go_enter func56,ntmps56
 go_wp2;go_ret;exact⟨rfl,rfl⟩):G:=i
def Zrh(i:G:=by
 go_enter func18,ntmps18
 go_wp2;go_ret;exact⟨rfl,rfl⟩):G:=i
def WK(i:G:=by
 obtain⟨c1,f1,h1⟩:=Lib.ownsRow_kind h k hk;obtain⟨c2,f2,h2⟩:=Lib.ownsRow_kind ht k e;rw[h1]at h2;simp only[Option.some.injEq,Obj.cells.injEq]at h2;exact absurd h2.2.1 Py):G:=i
def Zop(i:G:=by
 go_ret;exact⟨by rw[aH.o];rfl,gI.o⟩):G:=i
def Zps(i:G:=by
 apply Array.ext;·simp[h1]
 .intro i g1 g2;simp at g2;simp[g1]):G:=i
def Zyc(i:G:=by
 refine(HV.o g Px w6.drew rb B d _ _ P7 hv).mono ?_;rintro e w7⟨⟨b,rfl,h1,h2⟩,dJ⟩;exact⟨rfl,mc.pre F6.o.drew (r:=.error (c,p)) ⟨⟨b,rfl,h1,h2⟩,dJ⟩⟩):G:=i
def Wv(i:G:=by
 rintro e w4⟨rfl,M3,h3,f3⟩;have H3:=lh h3;have bK:=lh (gY.o.trans ((MFr.of_below av.o.drew).trans f3));clear h3 f3;go_wp2;go_ret;rw[bA.o];exact⟨M3,H3.o,bK.o,rfl⟩):G:=i
def Zz5(i:G:=by
 intro l;induction l with
 |nil=>intro h;cases h
 |cons y l ih=>
   intro h;simp only[lw,List.mem_append];rcases List.mem_cons.1 h with rfl|h;·exact .inl hx
   .exact .inr (ih h)):G:=i
def Ztu(i:G:=by
 unfold iq;rw[if_neg (by rw[hq];decide),if_neg (by rw[hq];decide),if_pos hq,hr];simp):G:=i
def Zv9(i:G:=by
 go_ret;exact⟨by rw[findIdx?_some_of HO.o HG.o hq];rfl,hB.trans (aO.mono (hB.size))⟩):G:=i
def Ztx(i:G:=by
 go_wp2;go_ret;exact⟨by rw[<-Ti];rfl,(Below.refl _ _).alloc (Nat.le_refl _) _⟩):G:=i
def Zwc(i:G:=by
 obtain⟨x,vs,hx,h⟩:=Sg h;have:=Zn9 hx;have:=cr h;subst this;omega):G:=i
def Zt0(i:G:=by
 have:=Z6m (ts:=ts) Px;simp only[Job.base,y9,Wr]at *;omega):G:=i
def Zui(i:G:=by
 rw[cF];exact(ng.o.clos (d:=d+2) (c:=⟨a.nt C.N,nx,Zi body⟩) gX.o).1):G:=i
def Zww(i:G:=by
 have:=Zm h;exact al.bind (ih .around _ _) λt us h2=>al.bind (al.within (ih .stmt _ _)) λt vs h3=>al.ok Ri):G:=i
def Zzy(i:G:=by
 have aK:=HS.o;rw[<-HN.o]at aK;rw[<-HN.o,<-aK];exact Z3 HW.o λg' eO=>k5 g' Qc):G:=i
def Zyx(i:G:=by
 rcases Z4 G3.at'.rowOf with⟨h1,h2⟩|⟨g0,gA,h1,_⟩;·exact Aa9
 .exact⟨_,_,h1⟩):G:=i
def Zwy(i:G:=by
 clear hv;go_wp2_with fail
 refine HV.o.mono ?_;rintro e w2⟨⟨b,rfl,h1,h2⟩,hF⟩;exact⟨rfl,mc.pre F1.o (r:=.error (c,p)) ⟨⟨b,rfl,h1,h2⟩,hF⟩⟩):G:=i
def Zty(i:G:=by
 exact .fine HLR.o HBZ.o (bR.o.below HB3.o) (ba.o.trans (.of_below HB3.o))):G:=i
def Zzi(i:G:=by
 exact⟨rfl,mc.err F2.o ⟨b,rfl,h1,h2⟩ hB⟩):G:=i
def Zyk(i:G:=by
 unfold x6 at hv;by_cases h30:30<d+1;·rw[if_pos h30]at hv;cases hv
 .rw[if_neg h30]at hv;cases g with
  |zero=>cases hv
  |succ g=>exact Zon hv):G:=i
def Zzg(i:G:=by
 obtain⟨h1,h2,h3⟩:=h;refine⟨h1.below hB,h2.trans (.of_below hB),?_⟩;rcases hr:r.2 with x|v;·rw[hr]at h3;exact h3.bel hB
 .rw[hr]at h3;exact h3):G:=i
def Zsx(i:G:=by
 rw[cF];exact(ng.o.clos (d:=d+2) (c:=⟨a.nt C.N,nx,true⟩) gX.o).1):G:=i
def Zy3(i:G:=by
 exact wpOp_mono (λa' w' h'=>⟨λhh=>h'.1 ((cO _ fe).symm.trans hh),Z2r dy hQ ri _ _ a' w' QX (cO _ fe) aO h'.1 h'.2⟩) h.1):G:=i
def XA(i:G:=by
 cases ph with
 |nil=>simp[SS]at r8
 |cons t r=>
   simp only[SS,Bool.and_eq_true]at r8;intro u hu;simpa using List.all_eq_true.1 r8.1.1.2 u hu):G:=i
def Zx6(i:G:=by
 rcases Z4 h with⟨h1,h2⟩|⟨g,cap,h1,h2,h3,_⟩;·exact .inl ⟨h1,List.eq_nil_of_length_eq_zero h2⟩
 .exact .inr ⟨g,cap,h1,h2,h3⟩):G:=i
def Zue(i:G:=by
 have:=h.szO;show s.H.objects.length+d<=20000*(s.steps.toNat+1);omega):G:=i
def Zuc(i:G:=by
 have:=h.szS;show s.H.scopes.length+d<=20000*(s.steps.toNat+1);omega):G:=i
def Xc(i:G:=by
 split at ht;·cases ht
 .simp only[Except.ok.injEq,Prod.mk.injEq]at ht;obtain⟨rfl,rfl⟩:=ht;rw[if_neg Qd,if_neg Qd];rfl):G:=i
def WW(i:G:=by
 refine Zts ?_;intro g1 g2 g3;exact⟨M1,g1,g2,rfl⟩):G:=i
def Zw4(i:G:=by
 exact Z3 h.rowO λg hg=>far g _ (h.rvo g hg) PE PE):G:=i
def Zv3(i:G:=by
 exact Z3 h.rowS λg hg=>far g _ (h.rvs g hg) PE PE):G:=i
def Zub(i:G:=by
 rw[Zk text Px Px,show j+(i-j)=i by omega]):G:=i
def Zzz(i:G:=by
 unfold Z2;refine Z8.want λh=>Z8.bind (ih _ _ _ PD) (L _ _ _) λt us h=>Z8.want λh2=>Z8.ok):G:=i
def Zwj(i:G:=by
 refine Zkm ?_;rw[d1,n5];exact hK w4 h4 g4):G:=i
def Zzv(i:G:=by
 clear hc;go_enter func26,ntmps26
 go_wp2_with fail
 refine(HC.o _).mono ?_;rintro e w1⟨rfl,rfl⟩;go_wp2;go_ret;exact⟨rfl,HB.o _⟩):G:=i
def Ztm(i:G:=by
 rw[e];go_enter func58,ntmps58
 go_wp2;go_ret;exact⟨rfl,rfl⟩):G:=i
def Zzu(i:G:=by
 intro g' eO;simp only[Value.ownBlock,Option.some.injEq]at eO;subst eO;rw[<-jQ];rcases gM with h'|h';·exact .inl h'
 .exact .inr Px):G:=i
def Zv6(i:G:=by
 have:=h.szC;show s.clos.length+d<=20000*(s.steps.toNat+1);omega):G:=i
def Zuy(i:G:=by
 have:=h.szN;show s.seen.length+d<=20000*(s.steps.toNat+1);omega):G:=i
def Xj(i:G:=by
 intro g' eO;simp only[Value.ownBlock,Option.some.injEq]at eO;subst eO;rw[<-hv];rcases HT.o with h|h;·exact .inl h
 .exact .inr Px):G:=i
def Zy7(i:G:=by
 intro b du;by_cases e:nv'.ownBlock=some b;·exact(af.lt b e).2
 .simp only[ρ',if_neg e]at du;exact Nat.lt_of_lt_of_le (h.live b du) aZ):G:=i
def Zvw(i:G:=by
 have:=h.szL;show s.log.length+d<=20000*(s.steps.toNat+1);omega):G:=i
def Zwg(i:G:=by
 rw[if_pos h8]at h;exact(Option.some.inj h).symm):G:=i
def Zpc(i:G:=by
 simp[results,results24,go_sem,q0,q1,q2]):G:=i
def AbC(i:G:=by
 rcases Z4 ae with⟨h1,h2⟩|⟨g0,gA,h1,h2,_⟩;·exact⟨none,0,by rw[h1,h2],by omega⟩
 .exact⟨_,_,h1,h2⟩):G:=i
def Zwl(i:G:=by
 refine Zuu ?_;intro g1 g2 g3;exact⟨M1,g1,g2,rfl⟩):G:=i
def Zsr(i:G:=by
 intro b _ _ h3;rw[hv]at h3;exact far b (λe=>h3 (by rw[e];rfl))):G:=i
def Ztd(i:G:=by
 exact Fin.raise (h.less Px) (Ext.refl _) rfl hs K0.2.2.2.1):G:=i
def XW(i:G:=by
 go_wp2_with fail
 refine HC.o.mono ?_;rintro e w9⟨⟨b,rfl,h1,h2⟩,hB⟩;exact⟨rfl,mc.err F3.o ⟨b,rfl,h1,h2⟩ hB⟩):G:=i
def Zt9(i:G:=by
 go_enter func39,ntmps39
 go_wp2;go_ret;exact⟨rfl,rfl⟩):G:=i
def Zz0(i:G:=by
 rintro e w3⟨⟨b,rfl,h1,h2⟩,bg⟩;exact⟨rfl,mc.pre F2.o.drew (r:=.error (c,p)) ⟨⟨b,rfl,h1,h2⟩,bg⟩⟩):G:=i
def Zyi(i:G:=by
 rw[tA.o,h];obtain⟨h1,h2,h3⟩:=Got.text (t':=Cw) ay HP.o.le G2.o F2.o R2.o;exact⟨_,rfl,h1,h3,h2⟩):G:=i
def Zzf(i:G:=by
 unfold MSt.loose;split;·rfl
 .split;·exact(ZU (sn _)).ls
  .exact(Z6l (sn _) Py Py).ls):G:=i
def XT(i:G:=by
 rcases Nat.lt_or_ge j K with h'|h';·exact h'
 .have:=s4 Px;rw[show K=j by omega,Z7m hl]at this;cases this):G:=i
def Zxf(i:G:=by
 rintro e wz⟨⟨b,rfl,h1,h2⟩,hF⟩;exact⟨rfl,mc.pre FQ.o.drew (r:=.error (c,p)) ⟨⟨b,rfl,h1,h2⟩,hF⟩⟩):G:=i
def AcO(i:G:=by
 rintro e w3⟨rfl,hD⟩;have HD':=lh ((MFr.of_below (M:=M) HB.o).does hD);clear hD;go_wp2;go_end0
 exact⟨rfl,HD'.o⟩):G:=i
def Ww(i:G:=by
 have:=Z3 af λg' eO=>k5 g' Qc;simpa using this):G:=i
def Zwv(i:G:=by
 clear fC be;go_wp2_with fail
 exact HKK.o _ _ M4 ⟨rfl,⟨rfl,rfl,rfl,rfl,rfl,rfl,trivial⟩,rfl⟩ iZ.o ko.o):G:=i
def Aa1(i:G:=by
 rcases List.mem_append.1 hx with hx|hx;·exact HX.o x hx
 .simp only[List.mem_singleton]at hx;subst hx;exact Hp.o):G:=i
def Wt(i:G:=by
 rw[World.cell?_alloc_lt _ _ ⟨1,0,none⟩ Qa,World.cell?_alloc_lt _ _ ⟨1,0,none⟩ ay];exact hg):G:=i
def Zzl(i:G:=by
 obtain⟨x,vs,hx,h⟩:=Sg h;obtain⟨y,vs,hx,h⟩:=Sg h;obtain⟨rfl,_⟩:=TS h;cases hk):G:=i
def Zwm(i:G:=by
 exact⟨ht.1.keepB λk hk=>ac k (ht.1.has k hk).2 (ht.2 k hk),λk hk=>eW k (ht.1.has k hk).2 (ht.2 k hk)⟩):G:=i
def Zyb(i:G:=by
 rcases hx with⟨_,rfl⟩|⟨q,_,hx⟩;·exact⟨_,_,rfl⟩
 .obtain⟨_,rfl,_⟩:=hx;exact⟨_,_,rfl⟩):G:=i
def Zy6(i:G:=by
 unfold Instr.lookup;simp[run_underlying underlying47,Go.MapKept.run_getObj_map hb,Zcd,hj,Result.andThen]):G:=i
def Zyq(i:G:=by
 go_enter func25,ntmps25
 go_wp2;refine wp_loop_rounds 1 ?_;rw[rounds_succ];go_wp2;go_ret;exact⟨rfl,rfl⟩):G:=i
def Zwo(i:G:=by
 rcases hob:H.scope? n with _|s;·simp[LHeap.has,hob]at hq
 .exact⟨s,rfl,by rw[<-has_eq hob];exact hq⟩):G:=i
def Zwu(i:G:=by
 rw[k6 w.heap.size PB Px (λe=>by have:=ym _ e.symm;omega)];exact heap_alloc2_old w _ _):G:=i
def Xf(i:G:=by
 rw[ct.o.2.2.left,RL.o];exact Nat.lt_of_lt_of_le (by have:=Zav hk;rw[List.length_tail];omega) PL.o):G:=i
def Wz(i:G:=by
 rcases Nat.lt_or_ge t.block w.heap.size with h|h;·exact h
 .simp[vC,World.cell?,Array.getElem?_eq_none h]at BX):G:=i
def XF(i:G:=by
 exact al.bind (ih .value _ _) λt us h2=>al.end' Rj):G:=i
def XV(i:G:=by
 go_roundw
 case rel=>exact⟨k+1,by omega,by go_num,lh HB.o.drew⟩
 case measure=>simp[intOf];omega):G:=i
def Zyo(i:G:=by
 obtain⟨h1,h2,_⟩:=List.findIdx?_eq_some_iff_getElem.1 h;exact⟨_,List.getElem?_eq_getElem h1,h2⟩):G:=i
def XX(i:G:=by
 simp only[Value.ownBlock,ne_eq,Option.some.injEq];rcases HT.o with h|h;·have:=ym g h;omega
 .omega):G:=i
def Xo(i:G:=by
 rcases Nat.lt_or_ge 1 w.heap.size with h|h;·exact h
 .simp[vC,World.cell?,Array.getElem?_eq_none h]at hg):G:=i
def Ws(i:G:=by
 exact⟨rfl,((aN.o.setCell (Nat.le_refl _) _).setCell (Nat.le_refl _) _).setCell (Nat.le_refl _) _⟩):G:=i
def Zzh(i:G:=by
 simp only[List.length_append,List.length_cons,List.length_nil,Nat.zero_add];rw[Zll];exact af):G:=i
def Zyp(i:G:=by
 exact⟨rfl,((HB.o.setCell (Nat.le_refl _) _).setCell (Nat.le_refl _) _).setCell (Nat.le_refl _) _⟩):G:=i
def Xl(i:G:=by
 rintro e w9⟨⟨b,rfl,h1,h2⟩,hB⟩;exact⟨rfl,mc.err FQ.o.drew ⟨b,rfl,h1,h2⟩ hB⟩):G:=i
def WB(i:G:=by
 exact(HB3.o.alloc DA _).grown HG.o PB λj hj=>(World.ownsRow.lt rS.o j hj).1):G:=i
def Zxk(i:G:=by
 go_enter func64,ntmps64
 go_wp2;go_ret;rw[HB.o,<-Ti];exact⟨rfl,uO.o _⟩):G:=i
def WO(i:G:=by
 obtain⟨aX,re⟩:=List.getElem?_eq_some_iff.1 se;rw[List.take_succ_eq_append_getElem aX,re]):G:=i
def Zx2(i:G:=by
 by_cases h9:ix<0;·exact .inl ⟨decide_eq_true h9,h9⟩
 .exact .inr ⟨decide_eq_false h9,h9⟩):G:=i
def Wu(i:G:=by
 exact .err' HLR.o HFz.o dE.o bK.o iN.o):G:=i
def Zz6(i:G:=by
 simp only[List.getElem?_cons_succ,List.getElem?_cons_zero,Option.some.injEq]at h;subst h;cases hp):G:=i
def Zwr(i:G:=by
 exact .err HLR.o HBZ.o (av.o.1.below aN.o).drew (ba.o.trans (.drew (.refl _ _))) ed.o):G:=i
def WP(i:G:=by
 split;·exact h
 .split;·exact h
  .split;·exact h
   .exact h.names (Zyu (h.scp m o hm) hv)):G:=i
def Zug(i:G:=by
 exact .err HLR.o HBZ.o dE.o bK.o iN.o):G:=i
def Zwx(i:G:=by
 rw[hR];exact⟨M2,H2.o.below HB3.o,gY.o.trans (ba.o.trans (.of_below HB3.o)),rfl⟩):G:=i
def Ztp(i:G:=by
 simp[results,results84,go_sem,q0,q1,q2]):G:=i
def Zz2(i:G:=by
 subst cJ;rw[List.getElem?_set_self fe]at hj;cases hj;simp only[if_true];exact⟨ac,af⟩):G:=i
def Zvq(i:G:=by
 exact λg hg=>role _ _ (h.rvo g hg) PE):G:=i
def Ztz(i:G:=by
 exact λg hg=>role _ _ (h.rvs g hg) PE):G:=i
def AcJ(i:G:=by
 rw[ct.o.2.2.left,RL.o];have:=fO.o;simp only[Job.least]at this;have:=PL.o;omega):G:=i
def Zyh(i:G:=by
 simp only[vX,if_neg h];rcases D (k.kid 0) sc fr s with⟨s1,e|⟨_|_,u⟩⟩<;>rfl):G:=i
def Zv7(i:G:=by
 rw[if_pos h];exact hk _ (Z6m Px)):G:=i
def Zxm(i:G:=by
 rw[Below.heap_setCell _ _ _ _ hb,Below.heap_setCell _ _ _ _ hb,Below.heap_setCell _ _ _ _ hb]):G:=i
def Zxt(i:G:=by
 unfold Oper.wp;simp[execOp,eD,hm,hx,hv,ip,Result.andThen];exact BY _ _ (hK w' r1 r2)):G:=i
def Zxz(i:G:=by
 subst cJ;exact hy.wpOp hi (key _ _ h1 hS) ⟨λh=>hS ((same aa).symm.trans h),H⟩):G:=i
def Zzp(i:G:=by
 obtain⟨h1,h2⟩:=List.getElem?_eq_some_iff.1 hy;rw[List.drop_eq_getElem_cons h1,h2]):G:=i
def Zxd(i:G:=by
 intro a v hv;simp[LProp.cells]at hv;rcases hv with rfl|rfl|rfl|rfl|rfl<;>rfl):G:=i
def AcS(i:G:=by
 exact .err' HLR.o HFz.o av.o.1.1.drew (bw.o.trans (.drew (.refl _ _))) ed.o):G:=i
def AaT(i:G:=by
 exact .fine' HLR.o HFz.o (bT.o.below aN.o) (bw.o.trans (.of_below aN.o))):G:=i
def Zzx(i:G:=by
 simp only[ρ',if_neg e,if_neg e1]at du;exact Nat.lt_of_lt_of_le (h.live b du) aZ):G:=i
def WU(i:G:=by
 rcases Hq with rfl|⟨c,rfl⟩
 all_goals
  go_wp2;go_ret;exact⟨rfl,o9.o⟩):G:=i
def AbK(i:G:=by
 exact .err' HLR.o HFz.o jv.o.drew (dZ.o.trans (.drew (.refl _ _))) ed.o):G:=i
def Zzc(i:G:=by
 exact .err' HLR.o HFz.o dE.o.drew (bK.o.trans (.drew (.refl _ _))) ed.o):G:=i
def Zya(i:G:=by
 rcases hz with⟨h2,-⟩|⟨c,h2,-⟩;·exact .inl h2
 .exact .inr ⟨c,h2⟩):G:=i
def WZ(i:G:=by
 show(if preB text j 0 then sN 0 else D4 text j 0)=_;rw[<-tB.o];rfl):G:=i
def Zxb(i:G:=by
 show(if preB text j 1 then sN 1 else D4 text j 1)=_;rw[<-tB.o];rfl):G:=i
def X1(i:G:=by
 show(if preB text j 2 then sN 2 else D4 text j 2)=_;rw[<-tB.o];rfl):G:=i
def XD(i:G:=by
 split at hx;·simp only[Option.some.injEq]at hx;subst hx;exact hp
 .cases hx):G:=i
def Wy(i:G:=by
 simp only[binOp];unfold pY at h0 ⊢;simp[Op.equal,Op.maxDepth,h0 9998]):G:=i
def Xs(i:G:=by
 have h1:=h.rpv m g dw PW;rw[e,h.rob m dw]at h1;cases h1):G:=i
def Xy(i:G:=by
 have h1:=h.rnv m g dw PW;rw[e,h.rsb m dw]at h1;cases h1):G:=i
def WN(i:G:=by
 obtain⟨x,vs,_,h⟩:=Sg h;obtain⟨rfl,_⟩:=TS h;rfl):G:=i
def Zzk(i:G:=by
 obtain⟨x,vs,hx,h⟩:=Sg h;have:=cr h;subst this;cases hk):G:=i
def Zzm(i:G:=by
 obtain⟨es,dR,hb,hx⟩:=h5;exact⟨es,dR,rf.trans hb,hx⟩):G:=i
def Zxj(i:G:=by
 exact⟨g.1,g.2.1,g.2.2.1,by show _<=20000*(k.toNat+1);omega⟩):G:=i
def Zxc(i:G:=by
 subst e;obtain rfl:=Option.some.inj (HX.o.symm.trans hy);exact HS.o):G:=i
def Zwn(i:G:=by
 go_enter func55,ntmps55
 go_wp2;go_ret;exact⟨rfl,rfl⟩):G:=i
def XG(i:G:=by
 rcases List.mem_cons.1 hy with rfl|hy;·exact k1
 .exact ih k2 y hy):G:=i
def X'(i:G:=by
 rw[<-yy.o];have h2:=Zc0 HW.o;rw[cR]at h2;exact h2):G:=i
def Zxh(i:G:=by
 rw[Zch hk,hb];by_cases e:k=t;·subst e;simp
 .simp[e]):G:=i
def Zxg(i:G:=by
 rcases List.mem_cons.1 h with rfl|h;·omega
 .have:=ih h;omega):G:=i
def XM(i:G:=by
 have:=getElem?_lt hj;simp at this;simp only[n]at cJ;omega):G:=i
def Zyd(i:G:=by
 rw[lF,if_neg hc]at cS;exact(Option.some.inj cS).symm):G:=i
def Zxy(i:G:=by
 have e2:=SI.o.c1;rw[e1,e2];simp[intOf];omega):G:=i
end
def tu0{G p1:Prop}(h1:p1)(i:p1->G:=by
 intro tC;go_wp2;refine Z7 [0,2,4,10,7,8] [6] (λW=>vC W tb 3 (vI j)) t3 λ_=>?_;refine dU ?_
 iterate 4
  refine fa ?_
 refine WM ?_
 iterate 1
  refine fa ?_
 refine Z0 ?_;go_wp2;go_ret2
 rw[HE.o];exact Zhw (tC.o.scan.belowOf B1.o hb0) _):G:=i h1
def tu1{G p4:Prop}(h4:p4)(i:p4->G:=by
 intro uP;subst aR;have hR:=HRk.o;rw[List.drop_eq_nil_of_le Qr]at hR;have am:S=sk:=hR;go_wp2_with fail
 exact HKK.o _ _ Mk ⟨rfl,⟨rfl,rfl,rfl,rfl,rfl,rfl,rfl,trivial⟩,rfl⟩ QL ((MFr.of_below uP.o).trans HFk.o)):G:=i h4
def tu2{G p4:Prop}(h4:p4)(i:p4->G:=by
 intro uP;subst aR;have hR:=HRk.o;rw[List.drop_eq_nil_of_le Qr]at hR;have am:S=sk:=hR;go_wp2_with fail
 exact HKK.o _ _ Mk ⟨rfl,⟨rfl,rfl,rfl,rfl,trivial⟩,rfl⟩ QL ((MFr.of_below uP.o).trans HFk.o)):G:=i h4
def tu3{G p2:Prop}(h2:p2)(i:p2->G:=by
 intro uQ;go_enter func161,ntmps161
 go_wp2_with fail
 refine HH.o.mono ?_;rintro e w1⟨rfl,hB⟩;have HB:=lh hB;clear hB;go_wp2_with fail
 refine(HO.o w1 HB.o).mono ?_;rintro e w2⟨rfl,rfl⟩;go_wp2_with fail
 refine(uQ.o w2 HB.o).mono ?_;exact AcO):G:=i h2
def tu4{G p2 p4:Prop}(h2:p2)(h4:p4)(i:p2->p4->G:=by
 intro uQ uP;have iN:=lh he;clear hB3 he;go_wp2;refine bodyPost_ret (v:=.tuple #[.agg #[vI 0,vI 0,.string ⟨#[]⟩],ev]) ?_ rfl ?_;·exact LV
 .exact .err HLR.o HBZ.o (uQ.o.below HB3.o) (uP.o.trans (.of_below HB3.o)) iN.o):G:=i h2 h4
def tu5{G p2 p3 p4:Prop}(h2:p2)(h3:p3)(h4:p4)(i:p2->p3->p4->G:=by
 intro uQ KX uP;go_wp2;refine bodyPost_ret (v:=.tuple #[.agg #[vI 0,vI 0,.string ⟨#[]⟩],.iface T1 (.pointer P1)]) ?_ rfl ?_;·exact rp
 .exact .err' HLR.o HFz.o uQ.o.1.1 KX.o uP.o):G:=i h2 h3 h4
def tu6{G p1:Prop}(h1:p1)(i:p1->G:=by
 intro tC;go_wp2_with fail
 refine HF.o.mono ?_;rintro e w2⟨⟨b,rfl,h1,h2⟩,hB⟩;exact⟨rfl,⟨b,rfl,Nat.le_trans tC.o.size h1,h2⟩,tC.o.trans (hB.mono tC.o.size)⟩):G:=i h1
def tu7{G:Prop}(i:G:=by
 refine f8 ?_;intro K hK;refine Abo ?_;clear hK K b0 b1 b2;intro W3 M3 k3 n3 t3 fg HB3 bK;refine B' ?_;refine Xw ?_;intro q0 q1 q2 z0 z1 z2;obtain⟨s3,q3⟩:=R;exact tr1):G:=i
def tu8{G p1 p2:Prop}(h1:p1)(h2:p2)(i:p1->p2->G:=by
 intro tC uQ;obtain⟨q0,q1,q2,z0,z1,z2⟩:=(HLR.o.fr (tC.o.trans hF3')).six;have dE:=lh (uQ.o.drew.below hB3);have bK:=lh (tC.o.trans hF3');exact Ac7):G:=i h1 h2
def uZ(c:Int):Bool:=(decide (97<=c)&&decide (c<=122))||decide (c=95)
def mE(c:Int):Bool:=decide (48<=c)&&decide (c<=57)
def mF(c:Int):Bool:=decide (c=32)||decide (c=10)
def wG(c:Int):Bool:=uZ c||mE c
def Zca(w:kV)(c:Int):kC 56 #[.int .u8 c] w λe w'=>e=.returned (.bool (uZ c))/\w'=w:=by
 by_cases h1:97<=c
 .by_cases m:c<=122
  .have e:uZ c=true:=by simp[uZ,h1,m]
   rw[e];exact Zrx
  .have e:uZ c=false:=by simp[uZ,h1,m];omega
   have g:(c==95)=false:=PB
   rw[e];exact Zrx
 .by_cases g:c=95
  .subst g;exact Zrx
  .have e:uZ c=false:=by simp[uZ,h1,g]
   have p:(c==95)=false:=by simp[g]
   rw[e];exact Zrx
def Zbh(w:kV)(c:Int):kC 58 #[.int .u8 c] w λe w'=>e=.returned (.bool (mE c))/\w'=w:=by
 by_cases h1:48<=c
 .by_cases g:c<=57
  .have e:mE c=true:=by simp[mE,h1,g]
   exact Ztm
  .have e:mE c=false:=by simp[mE,g]
   exact Ztm
 .have e:mE c=false:=by simp[mE,h1]
  exact Ztm
def Znu(w:kV)(c:Int):kC 55 #[.int .u8 c] w λe w'=>e=.returned (.bool (mF c))/\w'=w:=by
 by_cases h1:c=32
 .subst h1;exact Zwn
 .have g:(c==32)=false:=by simp[h1]
  have e:mF c=(c==10):=by simp[mF,h1];rfl
  rw[e];exact Zwn
def Zpu(w:kV)(c:Int):kC 57 #[.int .u8 c] w λe w'=>e=.returned (.bool (wG c))/\w'=w:=by
 have HL:=Lib.hid (Zca w c);have g:=Lib.hid (Zbh w c);unfold wG;cases hl:uZ c
 .rw[hl]at HL;go_enter func57,ntmps57
  go_wp2_with fail
  refine HL.o.mono ?_;rintro e w1⟨rfl,rfl⟩;go_wp2_with fail
  refine g.o.mono ?_;rintro e w1⟨rfl,rfl⟩;go_wp2;go_ret;exact⟨rfl,rfl⟩
 .rw[hl]at HL;go_enter func57,ntmps57
  go_wp2_with fail
  refine HL.o.mono ?_;rintro e w1⟨rfl,rfl⟩;go_wp2;go_ret;exact⟨rfl,rfl⟩
section
variable {P:Program}{ai:Array Oper}{md:Region.Mode}
def Ends(K:Act->kV->Prop)(Q:Exit->Act->kV->Prop):Exit->Act->kV->Prop
 | .normal,a,w=>K a w
 |e,a,w=>Q e a w
def Zw8{Q g:Exit->Act->kV->Prop}{o:Oper}{a:Act}{w:kV}{K:Act->kV->Prop}
 (hp:∀c a w,g (.panic c) a w->Q (.panic c) a w)(ho:LetsOut g->LetsOut Q)(h:o.wp P a w K g):o.wp P a w K Q:=by
 unfold Oper.wp at *;generalize(execOp a.eval o).run P w=r at *;cases r with
 |ok n w'=>
   cases n<;>simp only[Oper.upon]at h ⊢<;>
    first
     |exact h
     |exact Calls.mono h (λe dL he=>by cases e<;>first|exact he|exact hp _ _ _ he|exact ho he)
 |halt x w'=>cases x<;>simp only[Oper.upon]at h ⊢<;>exact hp _ _ _ h
def Znc{Q:Exit->Act->kV->Prop}{R:Act->kV->Prop}{i:Nat}{a:Act}{w:kV}{K:Act->kV->Prop}
 (h:wpOp P ai (Ends R Q) i K a w):wpOp P ai Q i K a w:=by
 unfold wpOp at *;split;·rename_i ho;simp only[ho]at h;exact h
 .rename_i o ho;simp only[ho]at h;split
  .rename_i hw;simp only[hw,if_true]at h;rcases h with h|⟨h1,g⟩;·exact .inl (Zw8 (λ_ _ _ h=>h) (λh=>h) h)
   .exact .inr ⟨h1,g⟩
  .rename_i hw;simp only[hw]at h;exact h
theorem Zcf{Q:Exit->Act->kV->Prop}:∀(f:Nat) (g:Array Bool) (a:Act) (w:kV),wpAny P md ai Q f g a w->wpAny P md ai Q (f+1) g a w
 |0,g,a,w,h=>⟨λ_=>h.2,by rw[h.1];simp⟩
 |f+1,g,a,w,h=>⟨h.1,λi hi=>wpOp_mono (λa' w' m=>Zcf f _ a' w' m) (h.2 i hi)⟩
def Zhe{Q:Exit->Act->kV->Prop}{f g:Nat}(p:f<=g){m:Array Bool}{a:Act}{w:kV}(h:wpAny P md ai Q f m a w):wpAny P md ai Q g m a w:=by
 obtain⟨d,rfl⟩:=Nat.exists_eq_add_of_le p;induction d with
 |zero=>exact h
 |succ d u=>exact Zcf _ _ _ _ (u Px)
def Z67(m j:Nat):(Array.replicate m false).getD j false=false:=by
 rcases Nat.lt_or_ge j m with h|h<;>simp[h]
def uq(l:List Nat)(m:Array Bool):Array Bool:=l.foldl (λm i=>m.setIfInBounds i true) m
def Z3m(l:List Nat)(m:Array Bool):(uq l m).size=m.size:=by
 unfold uq;induction l generalizing m with
 |nil=>rfl
 |cons i l g=>simp only[List.foldl_cons];rw[g];simp
def Z3z{l:List Nat}{m:Array Bool}{j:Nat}(d:Bool)(h:j∉l):(uq l m).getD j d=m.getD j d:=by
 unfold uq;induction l generalizing m with
 |nil=>rfl
 |cons i l g=>
   simp only[List.mem_cons,not_or]at h;simp only[List.foldl_cons];rw[g h.2,getD_set_ne d (Ne.symm h.1)]
def Z3g{l:List Nat}{m:Array Bool}{j:Nat}(h:m.getD j false=true):(uq l m).getD j false=true:=by
 unfold uq;induction l generalizing m with
 |nil=>exact h
 |cons i l g=>simp only[List.foldl_cons];exact g (getD_set_true h)
def Z4j{l:List Nat}{m:Array Bool}{j:Nat}(h:j∈l)(g:j<m.size):(uq l m).getD j false=true:=by
 unfold uq;induction l generalizing m with
 |nil=>cases h
 |cons i l p=>
   simp only[List.foldl_cons];rcases List.mem_cons.1 h with rfl|h;·exact Z3g (l:=l) (by simp[g])
   .exact p h (by simpa using g)
def Z8c(m:Array Bool)(i j:Nat):(m.setIfInBounds i true).setIfInBounds j true=(m.setIfInBounds j true).setIfInBounds i true:=by
 by_cases h:i=j;·subst h;rfl
 .exact Array.setIfInBounds_comm _ _ h
def Zgr(l:List Nat)(m:Array Bool)(i:Nat):uq l (m.setIfInBounds i true)=(uq l m).setIfInBounds i true:=by
 unfold uq;induction l generalizing m with
 |nil=>rfl
 |cons j l g=>simp only[List.foldl_cons];rw[Z8c,g]
def Closed(md:Region.Mode)(ai:Array Oper)(m:Array Bool):Prop:=
 ∀j o,ai[j]?=some o->m.getD j false=true->∀e∈o.after,Region.binds md e=true->m.getD e.on false=true
def Closed.set{m:Array Bool}(h:Closed md ai m){i:Nat}(hi:i∈Region.ready md ai m):Closed md ai (m.setIfInBounds i true):=by
 obtain⟨_,u,y,F⟩:=mem_ready.1 hi;intro j o g hl e he hb;by_cases p:i=j
 .subst p;have:o=u:=Option.some.inj (g.symm.trans y);subst this;exact getD_set_true (F e he hb)
 .rw[getD_set_ne false p]at hl;exact getD_set_true (h j o g hl e he hb)
def Z56(md:Region.Mode)(ai:Array Oper)(m:Array Bool)(j:Nat):Array Bool:=
 match ai[j]? with
 |some o=>o.after.toList.foldl (λm e=>if Region.binds md e then m.setIfInBounds e.on true else m) m
 |none=>m
def Ztn(md:Region.Mode)(ai:Array Oper)(t:Nat):Array Bool:=
 (List.range t).reverse.foldl (λm j=>if m.getD j false then Z56 md ai m j else m) (Z56 md ai (Array.replicate ai.size false) t)
def Z7x{m g:Array Bool}(hm:∀k,m.getD k false=true->g.getD k false=true){j:Nat}
 (u:∀o,ai[j]?=some o->∀e∈o.after,Region.binds md e=true->g.getD e.on false=true):∀k,(Z56 md ai m j).getD k false=true->g.getD k false=true:=by
 unfold Z56;cases ho:ai[j]? with
 |none=>exact hm
 |some o=>
   simp only;have y:=u o ho
   have:∀(l:List Edge),(∀e∈l,Region.binds md e=true->g.getD e.on false=true)->∀m:Array Bool,(∀k,m.getD k false=true->g.getD k false=true)->
    ∀k,(l.foldl (λm e=>if Region.binds md e then m.setIfInBounds e.on true else m) m).getD k false=true->g.getD k false=true:=by
    intro l;induction l with
    |nil=>intro _ m hm;exact hm
    |cons e l F=>
      intro he m hm;simp only[List.foldl_cons];refine F (λG I=>he G (List.mem_cons_of_mem _ I)) _ λk hk=>?_;by_cases hb:Region.binds md e=true
      .rw[if_pos hb]at hk;by_cases p:e.on=k;·subst p;exact he e (List.mem_cons_self ..) hb
       .rw[getD_set_ne false p]at hk;exact hm k hk
      .rw[if_neg hb]at hk;exact hm k hk
   exact this o.after.toList (λe he=>y e (Array.mem_toList_iff.1 he)) m hm
def Zoo{g:Array Bool}(hc:Closed md ai g){t:Nat}(ht:∀o,ai[t]?=some o->∀e∈o.after,Region.binds md e=true->g.getD e.on false=true) :
 ∀k,(Ztn md ai t).getD k false=true->g.getD k false=true:=by
 unfold Ztn;have u:∀k,(Z56 md ai (Array.replicate ai.size false) t).getD k false=true->g.getD k false=true:=
  Z7x (λk hk=>by
   rcases Nat.lt_or_ge k ai.size with h|h;·simp[h]at hk
   .simp[h]at hk) ht
 have:∀(l:List Nat) (m:Array Bool),(∀k,m.getD k false=true->g.getD k false=true)->
  ∀k,(l.foldl (λm j=>if m.getD j false then Z56 md ai m j else m) m).getD k false=true->g.getD k false=true:=by
  intro l;induction l with
  |nil=>intro m hm;exact hm
  |cons j l y=>
    intro m hm;simp only[List.foldl_cons];refine y _ ?_;by_cases p:m.getD j false=true
    .rw[if_pos p];exact Z7x hm (λo ho e he hb=>hc j o ho (hm j p) e he hb)
    .rw[if_neg p];exact hm
 exact this _ _ u
def waits(md:Region.Mode)(ai:Array Oper)(j i:Nat):Bool:=
 match ai[j]? with
 |some o=>o.after.any λe=>Region.binds md e&&e.on==i
 |none=>false
def Zp5(md:Region.Mode)(ai:Array Oper):Bool:=
 (List.range ai.size).all λj=>match ai[j]? with|some o=>o.after.all λe=>!Region.binds md e||decide (e.on<j)|none=>true
def Zdj(md:Region.Mode)(ai:Array Oper):Nat->List Nat->Bool
 |_,[]=>true
 |t,u::r=>waits md ai u t&&Zdj md ai u r
def SS(md:Region.Mode)(ai:Array Oper):List Nat->Bool
 | []=>false
 |t::r=>Zp5 md ai&&((t::r).all λj=>decide (j<ai.size))&&((List.range ai.size).all λj=>(t::r).contains j||(Ztn md ai t).getD j false)&&Zdj md ai t r
def Zhk(md:Region.Mode)(ai:Array Oper):List Nat->Array Bool->Bool
 | [],g=>(Region.ready md ai g).isEmpty
 |t::r,g=>decide (Region.ready md ai g=[t])&&Zhk md ai r (g.setIfInBounds t true)
def Ze6{t:Nat}:∀{r:List Nat},Zdj md ai t r=true->∀u∈r,∃s∈t::r,waits md ai u s=true:=by
 intro r;induction r generalizing t with
 |nil=>intro _ u g;cases g
 |cons v r m=>
   intro h u g;simp only[Zdj,Bool.and_eq_true]at h;rcases List.mem_cons.1 g with rfl|g;·exact⟨t,List.mem_cons_self ..,h.1⟩
   .obtain⟨s,hs,hw⟩:=m h.2 u g;exact⟨s,List.mem_cons_of_mem _ hs,hw⟩
def Z8w{j i:Nat}(h:waits md ai j i=true){m:Array Bool}(g:j∈Region.ready md ai m):m.getD i false=true:=by
 obtain⟨_,o,ho,p⟩:=mem_ready.1 g;unfold waits at h;rw[ho]at h;obtain⟨e,he,hb⟩:=Array.any_eq_true'.1 h;simp only[Bool.and_eq_true,beq_iff_eq]at hb;rw[<-hb.2];exact p e he hb.1
def Zmn{g:List Nat}(p:SS md ai g=true){m:Array Bool}(hc:Closed md ai m)(F:∀t∈g,m.getD t false=false)
 {j:Nat}(G:j<ai.size)(I:j∉g)(J:m.getD j false=false):∀t∈g,t∉Region.ready md ai m:=by
 cases g with
 |nil=>simp[SS]at p
 |cons t r=>
   simp only[SS,Bool.and_eq_true]at p;obtain⟨⟨⟨_,_⟩,hd⟩,O⟩:=p;intro u U hr;rcases List.mem_cons.1 U with rfl|X
   .obtain⟨_,o,ho,Y⟩:=mem_ready.1 hr;have h1:=List.all_eq_true.1 hd j (List.mem_range.2 G);simp only[Bool.or_eq_true,List.contains_eq_mem,decide_eq_true_eq]at h1;have Z:=h1.resolve_left I;have:=Zoo hc (t:=u) (λo' DB e he hb=>by
     have:o'=o:=Option.some.inj (DB.symm.trans ho);subst this;exact Y e he hb) j Z
    rw[J]at this;cases this
   .obtain⟨s,hs,hw⟩:=Ze6 O u X;have y:=Z8w hw hr;rw[F s hs]at y;cases y
theorem Zdm{m:Array Bool}{j:Nat}(h:j<m.size):m.getD j true=m.getD j false:=by simp[h]
def Z8u(u:Zp5 md ai=true){m:Array Bool}(hs:m.size=ai.size):∀j,j<ai.size->m.getD j false=false->Region.ready md ai m≠[]:=by
 intro j;induction j using Nat.strongRecOn with
 |_ j y=>
   intro p F;have ho:ai[j]?=some ai[j]:=Array.getElem?_eq_getElem p;have h1:=List.all_eq_true.1 u j (List.mem_range.2 p);rw[ho]at h1;simp only[Array.all_eq_true_iff_forall_mem,Bool.or_eq_true,Bool.not_eq_true',decide_eq_true_eq]at h1;by_cases g:∀e∈ai[j].after,Region.binds md e=true->m.getD e.on false=true
   .intro I;have:j∈Region.ready md ai m:=mem_ready.2 ⟨by rw[Zdm Px];exact F,_,ho,g⟩;rw[I]at this;cases this
   .simp only[Classical.not_forall]at g;obtain⟨e,he,hb,hn⟩:=g;have J:e.on<j:=(h1 e he).resolve_left (by simp[hb]);exact y e.on J Px (by simpa using hn)
theorem Z8b{Q:Exit->Act->kV->Prop}:∀(l:List Nat) (m:Array Bool) (a:Act) (w:kV),Zhk md ai l m=true->
 wpList P ai Q (l.filterMap (ai[·]?)) a w->wpAny P md ai Q l.length m a w
 | [],m,a,w,g,h=>⟨by simpa[Zhk]using g,h⟩
 |t::l,m,a,w,g,h=>by
   simp only[Zhk,Bool.and_eq_true,decide_eq_true_eq]at g;refine⟨λh1=>(by rw[g.1]at h1;cases h1),λi hi=>?_⟩;have p:=hi;rw[g.1]at hi;have u:i=t:=by simpa using hi
   subst u;obtain⟨_,o,ho,_⟩:=mem_ready.1 p;rw[List.filterMap_cons,ho]at h;simp only[wpList]at h;have hw:wpOp P ai Q i (wpList P ai Q (l.filterMap (ai[·]?))) a w:=by unfold wpOp;simp only[ho];exact h
   exact wpOp_mono (λa' w' y=>Z8b l _ a' w' g.2 y) hw
def Za4{Q:Exit->Act->kV->Prop}{y:List Nat}(J:SS md ai y=true)(rY:∀m:Array Bool,m.size=ai.size->(∀j,j<ai.size->m.getD j false=!y.contains j)->Zhk md ai y m=true) :
 ∀ (f : Nat) (p : Array Bool) (a : Act) (w : kV), p.size = ai.size → Closed md ai p → (∀ t ∈ y, p.getD t false = false) →
   wpAny P md ai (Ends (wpList P ai Q (y.filterMap (ai[·]?))) Q) f (uq y p) a w->wpAny P md ai Q (f+y.length) p a w:=by
 have Z:Zp5 md ai=true:=by
  cases y with
  |nil=>simp[SS]at J
  |cons t r=>simp only[SS,Bool.and_eq_true]at J;exact J.1.1.1
 have jq:∀t∈y,t<ai.size:=by
  cases y with
  |nil=>simp[SS]at J
  |cons t r=>
    simp only[SS,Bool.and_eq_true]at J;intro u hu;simpa using List.all_eq_true.1 J.1.1.2 u hu
 have fin:∀(g:Nat) (p:Array Bool) (a:Act) (w:kV),p.size=ai.size->(∀t∈y,p.getD t false=false)->(∀j,j<ai.size->j∉y->p.getD j false=true)->
  wpList P ai Q (y.filterMap (ai[·]?)) a w->wpAny P md ai Q (g+y.length) p a w:=by
  intro g p a w hs O U h;refine Zhe (Nat.le_add_left _ _) (Z8b y p a w (rY p hs λj X=>?_) h);by_cases I:j∈y;·rw[O j I];simp[I]
  .rw[U j X I];simp[I]
 have done:∀(p:Array Bool),p.size=ai.size->Region.ready md ai (uq y p)=[]->∀j,j<ai.size->j∉y->p.getD j false=true:=by
  intro p hs hr j X I;cases h:p.getD j false with
  |true=>rfl
  |false=>exact absurd hr (Z8u Z (by rw[Z3m];exact hs) j X (by rw[Z3z false I];exact h))
 intro f;induction f with
 |zero=>
   intro p a w hs hc O h;exact fin 0 p a w hs O (done p hs h.1) h.2
 |succ f ih=>
   intro p a w hs hc O h;by_cases U:∀j,j<ai.size->j∉y->p.getD j false=true
   .refine fin (f+1) p a w hs O U (h.1 ?_);refine List.eq_nil_iff_forall_not_mem.2 λi hi=>?_;obtain⟨F,o,ho,_⟩:=mem_ready.1 hi;have fe:i<ai.size:=(Array.getElem?_eq_some_iff.1 ho).1;rw[Zdm (by rw[Z3m];omega)]at F;by_cases Y:i∈y;·rw[Z4j Y Px]at F;cases F
    .rw[Z3z false Y,U i fe Y]at F;cases F
   .simp only[Classical.not_forall]at U;obtain⟨j,X,I,yz⟩:=U;have yA:p.getD j false=false:=by simpa using yz
    have K7:=Zmn J hc O X I yA;rw[show f+1+y.length=(f+y.length)+1 by omega];refine⟨λF=>absurd F (Z8u Z hs j X yA),λi hi=>?_⟩;have Y:i∉y:=λhp=>K7 i hp hi;obtain⟨F,o,ho,Hl⟩:=mem_ready.1 hi;have DC:i∈Region.ready md ai (uq y p):=mem_ready.2 ⟨by rw[Z3z true Y];exact F,o,ho,λe he hb=>Z3g (Hl e he hb)⟩;refine wpOp_mono (λa' w' h'=>?_) (Znc (h.2 i DC));refine ih _ a' w' (by simpa using hs) (hc.set hi) (λt ht=>?_) (by rw[Zgr];exact h');rw[getD_set_ne false (by rintro rfl;exact Y ht)]
    exact O t ht
def zq(P:Program)(ai:Array Oper)(Q:Exit->Act->kV->Prop)(S:kV->Prop):List (Bool×Oper)->Act->kV->Prop
 | [],a,w=>Q .normal a w
 |(true,o)::r,a,w=>∃v,YieldsIf P ai S o v a/\zq P ai Q S r (a.put o.dst v) w
 |(false,o)::r,a,w=>if Region.wanted o (yielded ai a.tmps)=true then o.wp P a w (λa' w'=>S w'/\zq P ai Q S r a' w') Q else zq P ai Q S r (a.put o.dst undef) w
def YI(md:Region.Mode)(ai:Array Oper):List (Bool×Nat)->Array Bool->Bool
 | [],g=>(Region.ready md ai g).isEmpty
 |(true,i)::r,g=>(Region.ready md ai g).contains i&&Region.free md ai g i&&YI md ai r (g.setIfInBounds i true)
 |(false,i)::r,g=>decide (Region.ready md ai g=[i])&&YI md ai r (g.setIfInBounds i true)
def TU(ai:Array Oper)(l:List (Bool×Nat)):List (Bool×Oper):=l.filterMap λx=>(ai[x.2]?).map λo=>(x.1,o)
theorem Z4q{Q:Exit->Act->kV->Prop}{S:kV->Prop}(y:Region.noSelect ai=true)(F:∀c a d v w,Q (.panic c) (Act.put a d v) w->Q (.panic c) a w) :
 ∀(l:List (Bool×Nat)) (g:Array Bool) (a:Act) (w:kV),YI md ai l g=true->S w->zq P ai Q S (TU ai l) a w->wpAnyH P md ai Q S l.length g a w
 | [],g,a,w,m,_,h=>⟨by simpa[YI]using m,h⟩
 |(true,i)::l,g,a,w,m,p,h=>by
   simp only[YI,Bool.and_eq_true]at m;obtain⟨⟨hr,hf⟩,I⟩:=m;obtain⟨_,o,ho,_⟩:=mem_ready.1 (show i∈Region.ready md ai g by simpa using hr);have e:TU ai ((true,i)::l)=(true,o)::TU ai l:=by simp[TU,ho]
   rw[e]at h;obtain⟨v,J,u⟩:=h;exact wpAnyH_take ho y hf hr (λc a w=>F c a _ _ w) J p (Z4q y F l _ _ w I p u)
 |(false,i)::l,g,a,w,m,p,h=>by
   simp only[YI,Bool.and_eq_true,decide_eq_true_eq]at m;obtain⟨hr,I⟩:=m;obtain⟨_,o,ho,_⟩:=mem_ready.1 (show i∈Region.ready md ai g by rw[hr];simp);have e:TU ai ((false,i)::l)=(false,o)::TU ai l:=by simp[TU,ho]
   rw[e]at h;refine wpAnyH_all hr PE λk hk=>?_;have O:k=i:=Ra
   subst O;unfold wpOp;simp only[ho];unfold zq at h;split at h
   .rename_i hw;rw[if_pos hw];exact .inl (Oper.wp_mono (λa' w' u=>⟨u.1,Z4q y F l _ a' w' I u.1 u.2⟩) h)
   .rename_i hw;rw[if_neg hw];exact⟨p,Z4q y F l _ _ w I p h⟩
def Za3{Q:Exit->Act->kV->Prop}{S:kV->Prop}{o:Oper}{r:List (Bool×Oper)}{a:Act}{w:kV}(v:Value)
 (hw:Region.wanted o (yielded ai a.tmps)=true)(g:∀w',S w'->(execOp a.eval o).run P w'=.ok (.value v) w')(h:zq P ai Q S r (a.put o.dst v) w):zq P ai Q S ((true,o)::r) a w:=
 ⟨v,.inl ⟨hw,g⟩,h⟩
def Zhg{Q:Exit->Act->kV->Prop}{S:kV->Prop}{o:Oper}{r:List (Bool×Oper)}{a:Act}{w:kV}
 (hw:Region.wanted o (yielded ai a.tmps)=false)(h:zq P ai Q S r (a.put o.dst undef) w):zq P ai Q S ((true,o)::r) a w:=
 ⟨undef,.inr ⟨hw,rfl⟩,h⟩
def Zis{Q:Exit->Act->kV->Prop}{S:kV->Prop}{o:Oper}{r:List (Bool×Oper)}{a:Act}{w:kV}(v:Value)(h:zq P ai Q S r (a.put o.dst v) w)
 (hw:Region.wanted o (yielded ai a.tmps)=true:=by rfl)(hy:∀w',S w'->(execOp a.eval o).run P w'=.ok (.value v) w':=by(intro w' kI;(repeat(have Hr:=kI.1;replace kI:=kI.2));go_simp;first|done|with_reducible rfl)) :
 zq P ai Q S ((true,o)::r) a w:=⟨v,.inl ⟨hw,hy⟩,h⟩
def Zid{Q:Exit->Act->kV->Prop}{S:kV->Prop}{o:Oper}{r:List (Bool×Oper)}{a:Act}{w:kV}(h:zq P ai Q S r (a.put o.dst undef) w)
 (hw:Region.wanted o (yielded ai a.tmps)=false:=by rfl):zq P ai Q S ((true,o)::r) a w:=⟨undef,.inr ⟨hw,rfl⟩,h⟩
def Ze{Q:Exit->Act->kV->Prop}{S:kV->Prop}{o:Oper}{r:List (Bool×Oper)}{a:Act}{w:kV}
 (h:∀K:Act->kV->Prop,(∀a' w',S w'->zq P ai Q S r a' w'->K a' w')->if Region.wanted o (yielded ai a.tmps)=true then o.wp P a w K Q else K (a.put o.dst undef) w) :
 zq P ai Q S ((false,o)::r) a w:=by
 unfold zq;by_cases hw:Region.wanted o (yielded ai a.tmps)=true
 .rw[if_pos hw];have:=h (λa' w'=>S w'/\zq P ai Q S r a' w') (λ_ _ h1 g=>⟨h1,g⟩);rwa[if_pos hw]at this
 .rw[if_neg hw];have:=h (λa' w'=>S w'/\zq P ai Q S r a' w') (λ_ _ h1 g=>⟨h1,g⟩);rw[if_neg hw]at this;exact this.2
theorem Z0{Q:Exit->Act->kV->Prop}{S:kV->Prop}{a:Act}{w:kV}{l:List Oper}(h:wpList P ai Q l a w):zq P ai (Ends (wpList P ai Q l) Q) S [] a w:=h
def Wq(md:Region.Mode)(ai:Array Oper)(m:List (Bool×Nat))(g:List Nat):Bool:=
 Region.noSelect ai&&SS md ai g&&Zhk md ai g (((List.range ai.size).map λj=>!g.contains j).toArray)&&YI md ai m (uq g (Array.replicate ai.size false))&&decide (m.length+g.length=ai.size)
def Z9{Q:Exit->Act->kV->Prop}{id:Nat}{l:List Oper}{a:Act}{w:kV}(p:List (Bool×Nat))(ph:List Nat)(S:kV->Prop)(hm:P.follows .mixedOrders=true)
 (y:Wq .any l.toArray p ph=true)(I:∀c a d v w,Q (.panic c) (Act.put a d v) w->Q (.panic c) a w)(F:S w.drew)
 (h:S w.drew->zq P l.toArray (Ends (wpList P l.toArray Q (ph.filterMap (l.toArray[·]?))) Q) S (TU l.toArray p) a w.drew):(Code.region id l.toArray true).wp P Q a w:=by
 simp only[Wq,Bool.and_eq_true,decide_eq_true_eq]at y;obtain⟨⟨⟨⟨J,r8⟩,rY⟩,O⟩,U⟩:=y;refine wp_region_any hm ?_;have X:∀t∈ph,t<l.toArray.size:=by
  exact XA
 have H:=Z4q (P:=P) (md:=.any) (Q:=Ends (wpList P l.toArray Q (ph.filterMap (l.toArray[·]?))) Q) J I p _ a w.drew O F (h F);have g:=Za4 (Q:=Q) r8 (λm hs rX=>?_) p.length (Array.replicate l.toArray.size false) a w.drew PE ?_ ?_ (wpAny_of_held _ _ _ _ H);·rw[U]at g;exact g
 .exact AbX
 .intro j o _ hl;rw[Z67]at hl;cases hl
 .intro t _;exact Z67 _ _
def ow{Q:Exit->Act->kV->Prop}{id:Nat}{l:List Oper}{a:Act}{w:kV}(gD:List (Bool×Nat))(ph:List Nat)(S:kV->Prop)(hS:S w.drew)
 (h:S w.drew->zq P l.toArray (Ends (wpList P l.toArray Q (ph.filterMap (l.toArray[·]?))) Q) S (TU l.toArray gD) a w.drew)
 (hm:P.follows .mixedOrders=true:=by kernel_rfl)(hB:Wq .any l.toArray gD ph=true:=by kernel_rfl)(hQ:∀c a d v w,Q (.panic c) (Act.put a d v) w->Q (.panic c) a w:=by(intro _ _ d _ _ h;cases d<;>exact h)):(Code.region id l.toArray true).wp P Q a w:=
 Z9 gD ph S hm hB hQ hS h
def pD(n:Nat):Bool×Nat:=(n %2==0,n/2)
def Z7{Q:Exit->Act->kV->Prop}{id:Nat}{l:List Oper}{a:Act}{w:kV}(gD:List Nat)(ph:List Nat)(S:kV->Prop)(hS:S w.drew)
 (h:S w.drew->zq P l.toArray (Ends (wpList P l.toArray Q (ph.filterMap (l.toArray[·]?))) Q) S (TU l.toArray (gD.map pD)) a w.drew)(hm:P.follows .mixedOrders=true:=by kernel_rfl)
 (hB:Wq .any l.toArray (gD.map pD) ph=true:=by kernel_rfl)(hQ:∀c a d v w,Q (.panic c) (Act.put a d v) w->Q (.panic c) a w:=by(intro _ _ d _ _ h;cases d<;>exact h)):(Code.region id l.toArray true).wp P Q a w:=
 Z9 (gD.map pD) ph S hm hB hQ hS h
end
structure LVal where
 kind:Int
 n:Int
 s:kB
def LVal.agg(v:LVal):Value:=.agg #[vI v.kind,vI v.n,.string v.s]
structure LBind where
 name:kB
 v:LVal
 kind:Int
 ready:Bool
def LBind.cells(b:LBind):List Value:=[.string b.name,vI b.v.kind,vI b.v.n,.string b.v.s,vI b.kind,.bool b.ready]
structure LProp where
 name:kB
 v:LVal
 fixed:Bool
def LProp.cells(b:LProp):List Value:=[.string b.name,vI b.v.kind,vI b.v.n,.string b.v.s,.bool b.fixed]
structure LObj where
 props:List LProp
 code:Int
structure LScope where
 outer:Int
 object:Int
 names:List LBind
structure LHeap where
 objects:List LObj
 scopes:List LScope
def Zg(a b:kB):Bool:=decide (a=b)
theorem Z7z{a b:kB}:Zg a b=true↔a=b:=by simp[Zg]
def Z4b{a b:kB}(h:a.toList=b.toList):a=b:=by
 obtain⟨⟨a⟩⟩:=a;obtain⟨⟨b⟩⟩:=b;simpa[ByteArray.toList_eq]using h
def Ti(a b:kB):(a.toList==b.toList)=Zg a b:=by
 unfold Zg;by_cases h:a=b;·simp[h]
 .simp only[h,decide_false,beq_eq_false_iff_ne,ne_eq];exact λe=>h (Z4b e)
theorem getElem?_flatMap{α β:Type}(f:α->List β)(m:Nat)(hf:∀a,(f a).length=m)(l:List α)(i j:Nat)(p:j<m) :
 (l.flatMap f)[i*m+j]?=(l[i]?).bind λa=>(f a)[j]?:=by
 induction l generalizing i with
 |nil=>simp
 |cons a l g=>
   rw[List.flatMap_cons];cases i with
   |zero=>rw[List.getElem?_append_left (by rw[hf];omega)];simp
   |succ i=>
     rw[List.getElem?_append_right Rf,hf,show(i+1)*m+j-m=i*m+j by rw[Nat.succ_mul];omega,g];simp
def SH{w:kV}{base:Nat}{e:TypeId}{m:Nat}{v:Value}{n:Nat}{α:Type}{f:α->List Value}{l:List α}(hf:∀a,(f a).length=m)
 (h:w.ownsRow base e m v n (l.flatMap f)){g:Nat}(u:v.ownBlock=some g){i j:Nat}{a:α}{x:Value}(hi:l[i]?=some a)(p:(f a)[j]?=some x) :
 w.cell? ⟨g,i*m+j,none⟩=some x:=by
 have y:j<m:=by rw[<-hf a];exact(List.getElem?_eq_some_iff.1 p).1
 have:=h.cells u (i*m+j) x (by rw[getElem?_flatMap f m hf l i j y,hi];exact p);rwa[show((⟨g,0,none⟩:Addr).add (i*m+j))=⟨g,i*m+j,none⟩ by unfold Addr.add;split<;>simp_all]at this
def Z3{w w':kV}{base:Nat}{e:TypeId}{m:Nat}{v:Value}{n:Nat}{xs:List Value}(h:w.ownsRow base e m v n xs)
 (hb:∀g,v.ownBlock=some g->w'.heap[g]?=w.heap[g]?):w'.ownsRow base e m v n xs:=by
 refine⟨h.1,?_⟩;rcases h.2 with hn|⟨g,cap,p,rfl,u,y,F⟩;·exact .inl hn
 .exact .inr ⟨g,cap,p,rfl,u,by rw[hb g rfl];exact y,F⟩
def Z4{w:kV}{base:Nat}{e:TypeId}{m:Nat}{v:Value}{n:Nat}{xs:List Value}(h:w.ownsRow base e m v n xs) :
 (v=.slice none 0 0/\n=0)\/∃g cap,v=.slice (some ⟨g,0,none⟩) n cap/\n<=cap/\cap<=maxLen/\g<w.heap.size:=by
 rcases h.2 with hn|⟨g,cap,y,rfl,_,p,h1,u,_⟩;·exact .inl hn
 .exact .inr ⟨g,cap,rfl,h1,u,(Array.getElem?_eq_some_iff.1 p).1⟩
def Uf{w:kV}{base:Nat}{e:TypeId}{m:Nat}{v:Value}{n:Nat}{xs:List Value}(h:w.ownsRow base e m v n xs){g:Nat}(p:v.ownBlock=some g)(o:Nat) :
 w.frozen? ⟨g,o,none⟩=false:=by
 rcases h.2 with⟨rfl,_⟩|⟨y,cap,F,rfl,_,u,_⟩;·cases p
 .simp only[Value.ownBlock,Option.some.injEq]at p;subst p;simp[World.frozen?,u]
inductive Role
 |hp|objs|scps
 |obj(i:Nat)|prp(i:Nat)|scp(i:Nat)|nam(i:Nat)
structure HL where
 vo:Value
 vs:Value
 ob:Nat->Nat
 pv:Nat->Value
 sb:Nat->Nat
 nv:Nat->Value
def Am(f:Nat->Nat)(n:Nat):List Value:=(List.range n).map λi=>.pointer (some ⟨f i,0,none⟩)
structure HeapAt(ρ:Nat->Option Role)(w:kV)(hb ho:Nat)(L:HL)(H:LHeap):Prop where
 cellO:w.cell? ⟨hb,ho,none⟩=some L.vo
 cellS:w.cell? ⟨hb,ho+1,none⟩=some L.vs
 frO:w.frozen? ⟨hb,ho,none⟩=false
 frS:w.frozen? ⟨hb,ho+1,none⟩=false
 rowO:w.ownsRow 0 93 1 L.vo H.objects.length (Am L.ob H.objects.length)
 rowS:w.ownsRow 0 104 1 L.vs H.scopes.length (Am L.sb H.scopes.length)
 obj:∀i o,H.objects[i]?=some o->w.heap[L.ob i]?=some (.cells #[L.pv i,vI o.code] 96 (0,0))/\w.ownsRow 0 101 5 (L.pv i) o.props.length (o.props.flatMap LProp.cells)
 scp:∀i s,H.scopes[i]?=some s->w.heap[L.sb i]?=some (.cells #[vI s.outer,vI s.object,L.nv i] 109 (0,0))/\w.ownsRow 0 157 6 (L.nv i) s.names.length (s.names.flatMap LBind.cells)
 rhp:ρ hb=some .hp
 rvo:∀g,L.vo.ownBlock=some g->ρ g=some .objs
 rvs:∀g,L.vs.ownBlock=some g->ρ g=some .scps
 rob:∀i,i<H.objects.length->ρ (L.ob i)=some (.obj i)
 rpv:∀i g,i<H.objects.length->(L.pv i).ownBlock=some g->ρ g=some (.prp i)
 rsb:∀i,i<H.scopes.length->ρ (L.sb i)=some (.scp i)
 rnv:∀i g,i<H.scopes.length->(L.nv i).ownBlock=some g->ρ g=some (.nam i)
 live:∀b,ρ b≠none->b<w.heap.size
theorem getElem?_lt{α:Type}{l:List α}{i:Nat}{a:α}(h:l[i]?=some a):i<l.length:=(List.getElem?_eq_some_iff.1 h).1
def HeapAt.keep{ρ:Nat->Option Role}{w w':kV}{hb ho:Nat}{L:HL}{H:LHeap}(h:HeapAt ρ w hb ho L H)(hs:w.heap.size<=w'.heap.size)
 (hk:∀b,ρ b≠none->w'.heap[b]?=w.heap[b]?):HeapAt ρ w' hb ho L H where
 cellO:=(World.cell?_of_block (hk hb RI)).trans h.cellO
 cellS:=(World.cell?_of_block (hk hb RI)).trans h.cellS
 frO:=(World.frozen?_of_block (hk hb RI)).trans h.frO
 frS:=(World.frozen?_of_block (hk hb RI)).trans h.frS
 rowO:=Z3 h.rowO λg m=>hk g (by simp[h.rvo g m])
 rowS:=Z3 h.rowS λg m=>hk g (by simp[h.rvs g m])
 obj i o ho:=⟨by rw[hk _ (by simp[h.rob i (getElem?_lt ho)])];exact(h.obj i o ho).1,Z3 (h.obj i o ho).2 λg m=>hk g (by simp[h.rpv i g (getElem?_lt ho) m])⟩
 scp i o ho:=⟨by rw[hk _ (by simp[h.rsb i (getElem?_lt ho)])];exact(h.scp i o ho).1,Z3 (h.scp i o ho).2 λg m=>hk g (by simp[h.rnv i g (getElem?_lt ho) m])⟩
 rhp:=h.rhp
 rvo:=h.rvo
 rvs:=h.rvs
 rob:=h.rob
 rpv:=h.rpv
 rsb:=h.rsb
 rnv:=h.rnv
 live b hb:=Nat.lt_of_lt_of_le (h.live b hb) hs
def HeapAt.below{ρ:Nat->Option Role}{w w':kV}{hb ho:Nat}{L:HL}{H:LHeap}(h:HeapAt ρ w hb ho L H)(g:kW w w'):HeapAt ρ w' hb ho L H:=
 h.keep g.size λb hb=>g.block b (h.live b hb)
structure Fr(ρ ρ':Nat->Option Role)(hb ho:Nat)(w w':kV):Prop where
 os:w'.os=w.os
 tape:w'.tape=w.tape
 output:w'.output=w.output
 size:w.heap.size<=w'.heap.size
 block:∀k,k<w.heap.size->ρ k=none->w'.heap[k]?=w.heap[k]?
 role:∀k,k<w.heap.size->ρ k=none->ρ' k=none
 cell:∀o,o≠ho->o≠ho+1->w'.cell? ⟨hb,o,none⟩=w.cell? ⟨hb,o,none⟩
 frz:∀o,w'.frozen? ⟨hb,o,none⟩=w.frozen? ⟨hb,o,none⟩
theorem Fr.refl(ρ:Nat->Option Role)(hb ho:Nat)(w:kV):Fr ρ ρ hb ho w w:=⟨rfl,rfl,rfl,Nat.le_refl _,λ_ _ _=>rfl,λ_ _ h=>h,λ_ _ _=>rfl,λ_=>rfl⟩
theorem Fr.trans{ρ ρ' ρ'':Nat->Option Role}{hb ho:Nat}{w w' dL:kV}(a:Fr ρ ρ' hb ho w w')(b:Fr ρ' ρ'' hb ho w' dL):Fr ρ ρ'' hb ho w dL:=
 ⟨b.os.trans a.os, b.tape.trans a.tape, b.output.trans a.output, Nat.le_trans a.size b.size,
  λk hk hr=>(b.block k (Nat.lt_of_lt_of_le hk a.size) (a.role k hk hr)).trans (a.block k hk hr),
  λk hk hr=>b.role k (Nat.lt_of_lt_of_le hk a.size) (a.role k hk hr),
  λo h1 g=>(b.cell o h1 g).trans (a.cell o h1 g),λo=>(b.frz o).trans (a.frz o)⟩
def Fr.of_below{ρ:Nat->Option Role}{hb ho:Nat}{w w':kV}(m:hb<w.heap.size)(g:kW w w'):Fr ρ ρ hb ho w w':=
 ⟨g.os,g.tape,g.output,g.size,λk hk _=>g.block k hk,λ_ _ h=>h,λ_ _ _=>g.cell (p:=⟨hb,_,none⟩) m,λ_=>g.frozen (p:=⟨hb,_,none⟩) m⟩
theorem HeapAt.drew{ρ:Nat->Option Role}{w:kV}{hb ho:Nat}{L:HL}{H:LHeap}(h:HeapAt ρ w hb ho L H):HeapAt ρ w.drew hb ho L H:=h.keep (Nat.le_refl _) λ_ _=>rfl
theorem Fr.drew{ρ ρ':Nat->Option Role}{hb ho:Nat}{w w':kV}(a:Fr ρ ρ' hb ho w w'):Fr ρ ρ' hb ho w w'.drew:=⟨a.os,a.tape,a.output,a.size,a.block,a.role,a.cell,a.frz⟩
theorem HeapAt.hbLt{ρ:Nat->Option Role}{w:kV}{hb ho:Nat}{L:HL}{H:LHeap}(h:HeapAt ρ w hb ho L H):hb<w.heap.size:=h.live hb RI
def Zy{w w1:kV}{c:Array Value}{T:TypeId}(g:Below (w.alloc (.cells c T)).heap.size (w.alloc (.cells c T)) w1)(i:Nat)(x:Value)(h:c[i]?=some x):w1.cell? ⟨w.heap.size,i,none⟩=some x:=
 (g.cell (p:=⟨w.heap.size,i,none⟩) PE).trans ((World.cell?_alloc_new _ _ _ i).trans h)
def Z1n{w w1:kV}{c:Array Value}{T:TypeId}(g:Below (w.alloc (.cells c T)).heap.size (w.alloc (.cells c T)) w1)(i:Nat):w1.frozen? ⟨w.heap.size,i,none⟩=false:=
 (g.frozen (p:=⟨w.heap.size,i,none⟩) PE).trans (World.frozen?_alloc_new _ _ _ _)
theorem Z5k{w w1:kV}{o:Obj}(g:Below (w.alloc o).heap.size (w.alloc o) w1):w.heap.size<w1.heap.size:=by have:=g.size;simp at this;omega
theorem Xm{w w1:kV}{o:Obj}(g:Below (w.alloc o).heap.size (w.alloc o) w1):kW w w1:=((Below.refl _ _).alloc (Nat.le_refl _) _).trans (g.mono PE)
theorem Zdn{k:IntKind}{a b:Int}(h:a=b):Ending.returned (.int k a)=.returned (.int k b):=by rw[h]
theorem Zs8{a b:Bool}(h:a=b):Ending.returned (.bool a)=.returned (.bool b):=by rw[h]
theorem Zc{w:kV}{o:Obj}{p:Addr}(h:p.block<w.heap.size):(w.alloc o).cell? p=w.cell? p:=((Below.refl w.heap.size w).alloc (Nat.le_refl _) o).cell h
theorem TG{w:kV}{o:Obj}{p:Addr}(h:p.block<w.heap.size):(w.alloc o).frozen? p=w.frozen? p:=((Below.refl w.heap.size w).alloc (Nat.le_refl _) o).frozen h
def Zj{w:kV}{b o:Nat}{c:Array Value}{T:TypeId}{mk:Nat×Nat}(v:Value)(h:w.heap[b]?=some (.cells c T mk)) :
 (w.setCell ⟨b,o,none⟩ v).heap[b]?=some (.cells (c.setIfInBounds o v) T mk):=by
 simp[World.setCell,Array.getElem?_modify,h]
def Z4d{w wA w1:kV}{row:Option Nat}{hb off:Nat}{x:Value}(g:Value)(m:kW w wA)(p:wA.grownBy w1 row)(I:hb<w.heap.size)(y:row≠some hb)
 (hc:w.cell? ⟨hb,off,none⟩=some x) :
 (w1.setCell ⟨hb,off,none⟩ g).cell? ⟨hb,off,none⟩=some g/\(∀o,o≠off->(w1.setCell ⟨hb,off,none⟩ g).cell? ⟨hb,o,none⟩=w.cell? ⟨hb,o,none⟩)/\
 (∀o,(w1.setCell ⟨hb,off,none⟩ g).frozen? ⟨hb,o,none⟩=w.frozen? ⟨hb,o,none⟩)/\
 (∀b,b<w.heap.size->b≠hb->some b≠row->(w1.setCell ⟨hb,off,none⟩ g).heap[b]?=w.heap[b]?)/\
 (∀b,b≠hb->(w1.setCell ⟨hb,off,none⟩ g).heap[b]?=w1.heap[b]?)/\
 (∀b,b<wA.heap.size->b≠hb->some b≠row->(w1.setCell ⟨hb,off,none⟩ g).heap[b]?=wA.heap[b]?)/\
 w.heap.size<=(w1.setCell ⟨hb,off,none⟩ g).heap.size/\(w1.setCell ⟨hb,off,none⟩ g).os=w.os/\(w1.setCell ⟨hb,off,none⟩ g).tape=w.tape/\(w1.setCell ⟨hb,off,none⟩ g).output=w.output:=by
 have O:hb<wA.heap.size:=Nat.lt_of_lt_of_le I m.size;have J:w1.heap[hb]?=w.heap[hb]?:=(p.block hb O (λe=>y e.symm)).trans (m.block hb I);have c1:∀o,w1.cell? ⟨hb,o,none⟩=w.cell? ⟨hb,o,none⟩:=λo=>World.cell?_of_block J;have U:∀o,w1.frozen? ⟨hb,o,none⟩=w.frozen? ⟨hb,o,none⟩:=λo=>World.frozen?_of_block J;have hs:∀b,b≠hb->(w1.setCell ⟨hb,off,none⟩ g).heap[b]?=w1.heap[b]?:=λb y=>Below.heap_setCell _ _ _ _ y
 refine⟨World.cell?_setCell_same _ _ _ ((c1 off).trans hc),λo ho=>?_,λo=>?_,λb u h1 F=>?_,hs,λb u h1 F=>?_,?_,p.os.trans m.os,p.tape.trans m.tape,p.output.trans m.output⟩;·rw[World.cell?_setCell_other _ _ _ _ (by intro e;cases e;exact ho rfl)];exact c1 o
 .rw[World.frozen?_setCell];exact U o
 .exact(hs b h1).trans ((p.block b (Nat.lt_of_lt_of_le u m.size) F).trans (m.block b u))
 .exact(hs b h1).trans (p.block b u F)
 .exact Nat.le_trans m.size (Nat.le_trans p.size Qb)
section
variable {ρ:Nat->Option Role}{w w':kV}{hb ho:Nat}{L:HL}{H:LHeap}
def ZL{α:Type}{f:α->List Value}{m:Nat}(hf:∀a,(f a).length=m)(l:List α):(l.flatMap f).length=l.length*m:=by
 induction l with
 |nil=>simp
 |cons a l g=>rw[List.flatMap_cons,List.length_append,g,hf,List.length_cons,Nat.succ_mul,Nat.add_comm]
def HeapAt.setNames(h:HeapAt ρ w hb ho L H){i:Nat}{s:LScope}(hi:H.scopes[i]?=some s){nv':Value}{names':List LBind}
 (ac:w'.heap[L.sb i]?=some (.cells #[vI s.outer,vI s.object,nv'] 109 (0,0)))
 (af:w'.ownsRow 0 157 6 nv' names'.length (names'.flatMap LBind.cells))
 (aZ:w.heap.size<=w'.heap.size)
 (p:∀b,b<w.heap.size->b≠L.sb i->some b≠(L.nv i).ownBlock->w'.heap[b]?=w.heap[b]?)
 (u:∀g,nv'.ownBlock=some g->(L.nv i).ownBlock=some g\/w.heap.size<=g)
 (h1:w'.os=w.os)(y:w'.tape=w.tape)(F:w'.output=w.output) :
 ∃ρ' I,HeapAt ρ' w' hb ho I {H with scopes:=H.scopes.set i {s with names:=names'}}/\Fr ρ ρ' hb ho w w':=by
 have fe:=getElem?_lt hi;let ρ':Nat->Option Role:=λb=>if nv'.ownBlock=some b then some (.nam i)else ρ b
 have far:∀b r,ρ b=some r->r≠.scp i->r≠.nam i->w'.heap[b]?=w.heap[b]?:=λb r hr J O=>
  p b (h.live b QV) (by rintro rfl;rw[h.rsb i fe]at hr;exact J (Option.some.inj hr).symm)
   (by intro e;rw[h.rnv i b fe e.symm]at hr;exact O (Option.some.inj hr).symm)
 have role:∀b r,ρ b=some r->r≠.nam i->ρ' b=some r:=λb r hr n=>by
  have:nv'.ownBlock≠some b:=λe=>by
   rcases u b e with e|e;·rw[h.rnv i b fe e]at hr;exact n (Option.some.inj hr).symm
   .have:=h.live b QV;omega
  simp only[ρ',if_neg this];exact hr
 have m:w'.heap[hb]?=w.heap[hb]?:=far hb .hp h.rhp PE PE;refine⟨ρ',{L with nv:=λj=>if j=i then nv' else L.nv j},?_,?_⟩
 .refine{cellO:=?_,cellS:=?_,frO:=?_,frS:=?_,rowO:=?_,rowS:=?_,obj:=?_,scp:=?_,rhp:=?_,rvo:=?_,rvs:=?_,rob:=?_,rpv:=?_,rsb:=?_,rnv:=?_,live:=?_};·exact(World.cell?_of_block m).trans h.cellO
  .exact(World.cell?_of_block m).trans h.cellS
  .exact(World.frozen?_of_block m).trans h.frO
  .exact(World.frozen?_of_block m).trans h.frS
  .exact Zw4
  .simp only[List.length_set];exact Zv3
  .exact XI
  .intro j t hj;by_cases cJ:j=i;·exact Zz2
   .simp only[if_neg cJ];rw[List.getElem?_set_ne Px]at hj;have iF:=getElem?_lt hj;exact⟨by rw[far _ _ (h.rsb j iF) PB PE];exact(h.scp j t hj).1,Z3 (h.scp j t hj).2 λg hg=>far g _ (h.rnv j g iF hg) PE PB⟩
  .exact role _ _ h.rhp PE
  .exact Zvq
  .exact Ztz
  .exact λj hj=>role _ _ (h.rob j hj) PE
  .exact λj g hj hg=>role _ _ (h.rpv j g hj hg) PE
  .intro j hj;simp only[List.length_set]at hj;exact role _ _ (h.rsb j hj) PE
  .intro j g hj hg;simp only[List.length_set]at hj;by_cases cJ:j=i
   .subst cJ;simp only[if_true]at hg;simp[ρ',hg]
   .simp only[if_neg cJ]at hg;exact role _ _ (h.rnv j g hj hg) PB
  .exact Zy7
 .refine⟨h1,y,F,aZ,λk hk hr=>?_,λk hk hr=>?_,λ_ _ _=>World.cell?_of_block m,λ_=>World.frozen?_of_block m⟩;·exact p k hk (by rintro rfl;simp[h.rsb i fe]at hr) (by intro e;simp[h.rnv i k fe e.symm]at hr)
  .have:nv'.ownBlock≠some k:=λe=>by
    rcases u k e with e|e;·simp[h.rnv i k fe e]at hr
    .omega
   simp only[ρ',if_neg this];exact hr
def HeapAt.setProps(h:HeapAt ρ w hb ho L H){i:Nat}{s:LObj}(hi:H.objects[i]?=some s){nv':Value}{props':List LProp}
 (ac:w'.heap[L.ob i]?=some (.cells #[nv',vI s.code] 96 (0,0)))
 (af:w'.ownsRow 0 101 5 nv' props'.length (props'.flatMap LProp.cells))
 (aZ:w.heap.size<=w'.heap.size)
 (p:∀b,b<w.heap.size->b≠L.ob i->some b≠(L.pv i).ownBlock->w'.heap[b]?=w.heap[b]?)
 (u:∀g,nv'.ownBlock=some g->(L.pv i).ownBlock=some g\/w.heap.size<=g)
 (h1:w'.os=w.os)(y:w'.tape=w.tape)(F:w'.output=w.output) :
 ∃ρ' I,HeapAt ρ' w' hb ho I {H with objects:=H.objects.set i {s with props:=props'}}/\Fr ρ ρ' hb ho w w':=by
 have fe:=getElem?_lt hi;let ρ':Nat->Option Role:=λb=>if nv'.ownBlock=some b then some (.prp i)else ρ b
 have far:∀b r,ρ b=some r->r≠.obj i->r≠.prp i->w'.heap[b]?=w.heap[b]?:=λb r hr J O=>
  p b (h.live b QV) (by rintro rfl;rw[h.rob i fe]at hr;exact J (Option.some.inj hr).symm)
   (by intro e;rw[h.rpv i b fe e.symm]at hr;exact O (Option.some.inj hr).symm)
 have role:∀b r,ρ b=some r->r≠.prp i->ρ' b=some r:=λb r hr n=>by
  have:nv'.ownBlock≠some b:=λe=>by
   rcases u b e with e|e;·rw[h.rpv i b fe e]at hr;exact n (Option.some.inj hr).symm
   .have:=h.live b QV;omega
  simp only[ρ',if_neg this];exact hr
 have m:w'.heap[hb]?=w.heap[hb]?:=far hb .hp h.rhp PE PE;refine⟨ρ',{L with pv:=λj=>if j=i then nv' else L.pv j},?_,?_⟩
 .refine{cellO:=?_,cellS:=?_,frO:=?_,frS:=?_,rowO:=?_,rowS:=?_,obj:=?_,scp:=?_,rhp:=?_,rvo:=?_,rvs:=?_,rob:=?_,rpv:=?_,rsb:=?_,rnv:=?_,live:=?_};·exact(World.cell?_of_block m).trans h.cellO
  .exact(World.cell?_of_block m).trans h.cellS
  .exact(World.frozen?_of_block m).trans h.frO
  .exact(World.frozen?_of_block m).trans h.frS
  .simp only[List.length_set];exact Zw4
  .exact Zv3
  .intro j t hj;by_cases cJ:j=i;·exact Zz2
   .simp only[if_neg cJ];rw[List.getElem?_set_ne Px]at hj;have iF:=getElem?_lt hj;exact⟨by rw[far _ _ (h.rob j iF) PB PE];exact(h.obj j t hj).1,Z3 (h.obj j t hj).2 λg hg=>far g _ (h.rpv j g iF hg) PE PB⟩
  .exact Zzq
  .exact role _ _ h.rhp PE
  .exact Zvq
  .exact Ztz
  .intro j hj;simp only[List.length_set]at hj;exact role _ _ (h.rob j hj) PE
  .intro j g hj hg;simp only[List.length_set]at hj;by_cases cJ:j=i
   .subst cJ;simp only[if_true]at hg;simp[ρ',hg]
   .simp only[if_neg cJ]at hg;exact role _ _ (h.rpv j g hj hg) PB
  .exact λj hj=>role _ _ (h.rsb j hj) PE
  .exact λj g hj hg=>role _ _ (h.rnv j g hj hg) PE
  .exact Zy7
 .refine⟨h1,y,F,aZ,λk hk hr=>?_,λk hk hr=>?_,λ_ _ _=>World.cell?_of_block m,λ_=>World.frozen?_of_block m⟩;·exact p k hk (by rintro rfl;simp[h.rob i fe]at hr) (by intro e;simp[h.rpv i k fe e.symm]at hr)
  .have:nv'.ownBlock≠some k:=λe=>by
    rcases u k e with e|e;·simp[h.rpv i k fe e]at hr
    .omega
   simp only[ρ',if_neg this];exact hr
def Zll(f:Nat->Nat)(n nb:Nat):Am (λj=>if j=n then nb else f j) (n+1)=Am f n++[vP nb]:=by
 unfold Am;rw[List.range_succ,List.map_append];congr 1
 .refine List.map_congr_left λj g=>?_;have:=List.mem_range.1 g;simp only[if_neg (show j≠n by omega)]
 .simp
def HeapAt.addScope(h:HeapAt ρ w hb ho L H){nb:Nat}{m:Value}{outer object:Int}
 (J:w'.cell? ⟨hb,ho+1,none⟩=some m)(ac:w'.heap[nb]?=some (.cells #[vI outer,vI object,.slice none 0 0] 109 (0,0)))
 (af:w'.ownsRow 0 104 1 m (H.scopes.length+1) (Am L.sb H.scopes.length++[vP nb]))
 (dl:w.heap.size<=nb)(aZ:w.heap.size<=w'.heap.size)
 (y:∀b,b<w.heap.size->b≠hb->some b≠L.vs.ownBlock->w'.heap[b]?=w.heap[b]?)
 (F:∀o,o≠ho+1->w'.cell? ⟨hb,o,none⟩=w.cell? ⟨hb,o,none⟩)(p:∀o,w'.frozen? ⟨hb,o,none⟩=w.frozen? ⟨hb,o,none⟩)
 (I:∀g,m.ownBlock=some g->L.vs.ownBlock=some g\/w.heap.size<=g)(O:m.ownBlock≠some nb)
 (h1:w'.os=w.os)(u:w'.tape=w.tape)(U:w'.output=w.output) :
 ∃ρ' X,HeapAt ρ' w' hb ho X {H with scopes:=H.scopes++[⟨outer,object,[]⟩]}/\Fr ρ ρ' hb ho w w':=by
 let n:=H.scopes.length
 let ρ':Nat->Option Role:=λb=>if b=nb then some (.scp n)else if m.ownBlock=some b then some .scps else ρ b
 have far:∀b r,ρ b=some r->r≠.hp->r≠.scps->w'.heap[b]?=w.heap[b]?:=λb r hr n1 Y=>
  y b (h.live b QV) Qy
   (by intro e;rw[h.rvs b e.symm]at hr;exact Y (Option.some.inj hr).symm)
 have role:∀b r,ρ b=some r->r≠.scps->ρ' b=some r:=λb r hr hn=>by
  have ay:=h.live b QV;have h1:b≠nb:=Px
  have u:m.ownBlock≠some b:=λe=>by
   rcases I b e with e|e;·rw[h.rvs b e]at hr;exact hn (Option.some.inj hr).symm
   .omega
  simp only[ρ',if_neg h1,if_neg u];exact hr
 refine⟨ρ',{L with vs:=m,sb:=λj=>if j=n then nb else L.sb j,nv:=λj=>if j=n then .slice none 0 0 else L.nv j},?_,?_⟩
 .refine{cellO:=?_,cellS:=?_,frO:=?_,frS:=?_,rowO:=?_,rowS:=?_,obj:=?_,scp:=?_,rhp:=?_,rvo:=?_,rvs:=?_,rob:=?_,rpv:=?_,rsb:=?_,rnv:=?_,live:=?_};·exact(F ho Px).trans h.cellO
  .exact J
  .exact(p ho).trans h.frO
  .exact(p _).trans h.frS
  .exact Zw4
  .exact Zzh
  .exact XI
  .intro j t hj;by_cases cJ:j=n;·exact Abu
   .simp only[if_neg cJ];have iF:j<H.scopes.length:=by
     exact XM
    rw[List.getElem?_append_left iF]at hj;exact⟨by rw[far _ _ (h.rsb j iF) PE PE];exact(h.scp j t hj).1,Z3 (h.scp j t hj).2 λg hg=>far g _ (h.rnv j g iF hg) PE PE⟩
  .exact role _ _ h.rhp PE
  .exact Zvq
  .intro g hg;have :g≠nb:=by rintro rfl;exact O hg
   simp[ρ',this,show m.ownBlock=some g from hg]
  .exact λj hj=>role _ _ (h.rob j hj) PE
  .exact λj g hj hg=>role _ _ (h.rpv j g hj hg) PE
  .intro j hj;by_cases cJ:j=n;·subst cJ;simp[ρ']
   .simp only[if_neg cJ];simp only[List.length_append,List.length_cons,List.length_nil]at hj;exact role _ _ (h.rsb j QQ) PE
  .intro j g hj hg;by_cases cJ:j=n;·subst cJ;simp[Value.ownBlock]at hg
   .simp only[if_neg cJ]at hg;simp only[List.length_append,List.length_cons,List.length_nil]at hj;exact role _ _ (h.rnv j g QQ hg) PE
  .intro b du;by_cases e1:b=nb;·subst e1;exact(Array.getElem?_eq_some_iff.1 ac).1
   .by_cases e:m.ownBlock=some b;·exact(af.lt b e).2
    .exact Zzx
 .refine⟨h1,u,U,aZ,λk hk hr=>?_,λk hk hr=>?_,λo _ Z=>F o Z,p⟩;·exact y k hk (by rintro rfl;simp[h.rhp]at hr) (by intro e;simp[h.rvs k e.symm]at hr)
  .have h4:k≠nb:=by omega
   have:m.ownBlock≠some k:=λe=>by
    rcases I k e with e|e;·simp[h.rvs k e]at hr
    .omega
   simp only[ρ',if_neg this,if_neg h4];exact hr
def HeapAt.addObject(h:HeapAt ρ w hb ho L H){nb:Nat}{m:Value}{code:Int}
 (J:w'.cell? ⟨hb,ho,none⟩=some m)(ac:w'.heap[nb]?=some (.cells #[.slice none 0 0,vI code] 96 (0,0)))
 (af:w'.ownsRow 0 93 1 m (H.objects.length+1) (Am L.ob H.objects.length++[vP nb]))
 (dl:w.heap.size<=nb)(aZ:w.heap.size<=w'.heap.size)
 (y:∀b,b<w.heap.size->b≠hb->some b≠L.vo.ownBlock->w'.heap[b]?=w.heap[b]?)
 (F:∀o,o≠ho->w'.cell? ⟨hb,o,none⟩=w.cell? ⟨hb,o,none⟩)(p:∀o,w'.frozen? ⟨hb,o,none⟩=w.frozen? ⟨hb,o,none⟩)
 (I:∀g,m.ownBlock=some g->L.vo.ownBlock=some g\/w.heap.size<=g)(O:m.ownBlock≠some nb)
 (h1:w'.os=w.os)(u:w'.tape=w.tape)(U:w'.output=w.output) :
 ∃ρ' X,HeapAt ρ' w' hb ho X {H with objects:=H.objects++[⟨[],code⟩]}/\Fr ρ ρ' hb ho w w':=by
 let n:=H.objects.length
 let ρ':Nat->Option Role:=λb=>if b=nb then some (.obj n)else if m.ownBlock=some b then some .objs else ρ b
 have far:∀b r,ρ b=some r->r≠.hp->r≠.objs->w'.heap[b]?=w.heap[b]?:=λb r hr n1 Y=>
  y b (h.live b QV) Qy
   (by intro e;rw[h.rvo b e.symm]at hr;exact Y (Option.some.inj hr).symm)
 have role:∀b r,ρ b=some r->r≠.objs->ρ' b=some r:=λb r hr hn=>by
  have ay:=h.live b QV;have h1:b≠nb:=Px
  have u:m.ownBlock≠some b:=λe=>by
   rcases I b e with e|e;·rw[h.rvo b e]at hr;exact hn (Option.some.inj hr).symm
   .omega
  simp only[ρ',if_neg h1,if_neg u];exact hr
 refine⟨ρ',{L with vo:=m,ob:=λj=>if j=n then nb else L.ob j,pv:=λj=>if j=n then .slice none 0 0 else L.pv j},?_,?_⟩
 .refine{cellO:=?_,cellS:=?_,frO:=?_,frS:=?_,rowO:=?_,rowS:=?_,obj:=?_,scp:=?_,rhp:=?_,rvo:=?_,rvs:=?_,rob:=?_,rpv:=?_,rsb:=?_,rnv:=?_,live:=?_};·exact J
  .exact(F (ho+1) Px).trans h.cellS
  .exact(p ho).trans h.frO
  .exact(p _).trans h.frS
  .exact Zzh
  .exact Zv3
  .intro j t hj;by_cases cJ:j=n;·exact Abu
   .simp only[if_neg cJ];have iF:j<H.objects.length:=by
     exact XM
    rw[List.getElem?_append_left iF]at hj;exact⟨by rw[far _ _ (h.rob j iF) PE PE];exact(h.obj j t hj).1,Z3 (h.obj j t hj).2 λg hg=>far g _ (h.rpv j g iF hg) PE PE⟩
  .exact Zzq
  .exact role _ _ h.rhp PE
  .intro g hg;have :g≠nb:=by rintro rfl;exact O hg
   simp[ρ',this,show m.ownBlock=some g from hg]
  .exact Ztz
  .intro j hj;by_cases cJ:j=n;·subst cJ;simp[ρ']
   .simp only[if_neg cJ];simp only[List.length_append,List.length_cons,List.length_nil]at hj;exact role _ _ (h.rob j QQ) PE
  .intro j g hj hg;by_cases cJ:j=n;·subst cJ;simp[Value.ownBlock]at hg
   .simp only[if_neg cJ]at hg;simp only[List.length_append,List.length_cons,List.length_nil]at hj;exact role _ _ (h.rpv j g QQ hg) PE
  .exact λj hj=>role _ _ (h.rsb j hj) PE
  .exact λj g hj hg=>role _ _ (h.rnv j g hj hg) PE
  .intro b du;by_cases e1:b=nb;·subst e1;exact(Array.getElem?_eq_some_iff.1 ac).1
   .by_cases e:m.ownBlock=some b;·exact(af.lt b e).2
    .exact Zzx
 .refine⟨h1,u,U,aZ,λk hk hr=>?_,λk hk hr=>?_,λo Z _=>F o Z,p⟩;·exact y k hk (by rintro rfl;simp[h.rhp]at hr) (by intro e;simp[h.rvo k e.symm]at hr)
  .have h4:k≠nb:=by omega
   have:m.ownBlock≠some k:=λe=>by
    rcases I k e with e|e;·simp[h.rvo k e]at hr
    .omega
   simp only[ρ',if_neg this,if_neg h4];exact hr
end
structure ScanAt(w0 w:kV)(sb:Nat)(text:kB)(at':Nat):Prop where
 blk:w.heap[sb]?=some (.cells #[.string text,vI at'] 135 (0,0))
 os:w.os=w0.os
 tape:w.tape=w0.tape
 output:w.output=w0.output
 size:w0.heap.size<=w.heap.size
 block:∀k,k<w0.heap.size->k≠sb->w.heap[k]?=w0.heap[k]?
variable {w0 w w':kV}{sb:Nat}{text:kB}{a b:Nat}
theorem ScanAt.refl(h:w.heap[sb]?=some (.cells #[.string text,vI a] 135 (0,0))):ScanAt w w sb text a:=⟨h,rfl,rfl,rfl,Nat.le_refl _,λ_ _ _=>rfl⟩
theorem ScanAt.trans(h:ScanAt w0 w sb text a)(g:ScanAt w w' sb text b):ScanAt w0 w' sb text b:=
 ⟨g.blk,g.os.trans h.os,g.tape.trans h.tape,g.output.trans h.output,Nat.le_trans h.size g.size,λk hk hn=>(g.block k (Nat.lt_of_lt_of_le hk h.size) hn).trans (h.block k hk hn)⟩
theorem ScanAt.drew(h:ScanAt w0 w sb text a):ScanAt w0 w.drew sb text a:=⟨h.blk,h.os,h.tape,h.output,h.size,h.block⟩
theorem ScanAt.lt(h:ScanAt w0 w sb text a):sb<w.heap.size:=(Array.getElem?_eq_some_iff.1 h.blk).1
def ScanAt.below(h:ScanAt w0 w sb text a)(g:kW w w'):ScanAt w0 w' sb text a:=
 ⟨(g.block sb h.lt).trans h.blk,g.os.trans h.os,g.tape.trans h.tape,g.output.trans h.output,Nat.le_trans h.size g.size,λk hk hn=>(g.block k (Nat.lt_of_lt_of_le hk h.size)).trans (h.block k hk hn)⟩
theorem ScanAt.c0(h:ScanAt w0 w sb text a):w.cell? ⟨sb,0,none⟩=some (.string text):=by simp[vC,World.cell?,h.blk]
theorem ScanAt.c1(h:ScanAt w0 w sb text a):w.cell? ⟨sb,1,none⟩=some (vI a):=by simp[vC,World.cell?,h.blk]
theorem ScanAt.fz(h:ScanAt w0 w sb text a)(o:Nat):w.frozen? ⟨sb,o,none⟩=false:=by simp[World.frozen?,h.blk]
def ScanAt.set(h:ScanAt w0 w sb text a)(b:Nat):ScanAt w0 (w.setCell ⟨sb,1,none⟩ (vI b)) sb text b:=
 ⟨Zj _ h.blk,h.os,h.tape,h.output,by simpa using h.size,λk hk hn=>(Below.heap_setCell _ _ _ _ hn).trans (h.block k hk hn)⟩
def Z5(text:kB)(i:Nat):Int:=((text.data.getD i 0).toNat:Int)
def Zh(p:Int->Bool)(text:kB):Nat->Nat->Nat
 |0,i=>i
 |f+1,i=>if i<text.size&&p (Z5 text i)then Zh p text f (i+1)else i
def Z4y{i:Nat}(h:i<text.size):Z5 text i=((text[i]'h).toNat:Int):=by
 unfold Z5;have:i<text.data.size:=h;simp only[Array.getD,dif_pos this];rfl
def Zf3{p:Int->Bool}{j:Nat}(h:j<text.size)(hp:p (Z5 text j)=true):Zh p text (text.size-j) j=Zh p text (text.size-(j+1)) (j+1):=by
 obtain⟨f,hf⟩:∃f,text.size-j=f+1:=⟨text.size-j-1,by omega⟩
 rw[hf,show text.size-(j+1)=f by omega];simp[Zh,h,hp]
def Z6q{p:Int->Bool}{j:Nat}(hp:¬j<text.size\/p (Z5 text j)=false):Zh p text (text.size-j) j=j:=by
 cases hf:text.size-j with
 |zero=>rfl
 |succ f=>
   rcases hp with h|h;·omega
   .simp[Zh,h]
def Zg6{u:Value}{p:Int->Bool}(Lb:(u=.func (.func 55) #[] #[]/\p=mF)\/(u=.func (.func 57) #[] #[]/\p=wG)\/(u=.func (.func 58) #[] #[]/\p=mE))(h:w.heap[sb]?=some (.cells #[.string text,vI a] 135 (0,0)))(ha:a<=text.size)(hm:text.size<=1000000) :
 kC 54 #[vP sb,u] w λe w'=>∃b,b=Zh p text (text.size-a) a/\a<=b/\b<=text.size/\e=.returned (.string (text.extract a b))/\ScanAt w w' sb text b:=by
 rcases Lb with⟨rfl,rfl⟩|⟨rfl,rfl⟩|⟨rfl,rfl⟩;have HL:=Lib.hid (λw c=>Znu w c);obtain⟨P,g⟩:∃P,P=mF:=⟨_,rfl⟩
 rw[<-g]at HL ⊢;clear g;rotate_left
 have HL:=Lib.hid (λw c=>Zpu w c);obtain⟨P,g⟩:∃P,P=wG:=⟨_,rfl⟩
 rw[<-g]at HL ⊢;clear g;rotate_left
 have HL:=Lib.hid (λw c=>Zbh w c);obtain⟨P,g⟩:∃P,P=mE:=⟨_,rfl⟩
 rw[<-g]at HL ⊢;clear g;rotate_left
 all_goals
  have J:=Lib.hid (ScanAt.refl h);have c0:=J.o.c0;have c1:=J.o.c1;clear h;go_enter func54,ntmps54
  go_wp2;go_loopw [] (λwr=>∃j:Nat,a<=j/\j<=text.size/\Zh P text (text.size-j) j=Zh P text (text.size-a) a/\ScanAt w wr sb text j) (λwr=>text.size-(intOf ((wr.cell? ⟨sb,1,none⟩).getD .nilIface)).toNat)
  case atStart=>exact⟨a,Nat.le_refl _,ha,rfl,J.o⟩
  case round=>
   obtain⟨j,X,Y,Z,hS⟩:=hrel;have y:=hS.c0;have F:=hS.c1;have m:=Lib.hid hS;have O:=Lib.hid Z;clear hS Z c0 c1;by_cases U:j<text.size
   .obtain⟨B,hB⟩:∃B,B=P (Z5 text j):=⟨_,rfl⟩
    have HB:=Lib.hid hB;have I:=HL.o wr.drew (Z5 text j);rw[<-hB,Z4y U]at I;have I:=Lib.hid I;clear hB;cases B
    all_goals
     go_wp2_with fail
     refine Z7 [0,2,4,6,8,10,12,14,16,18,20,22,24,26,28,30,32,34,36,38,40] [21,22] (λW=>vC W sb 0 (.string text)/\vC W sb 1 (vI j)) ⟨y,F⟩ λ_=>?_;refine dU ?_
     iterate 21
      refine Zrb ?_
     refine Z0 ?_;go_wp2_with fail
     refine I.o.mono ?_;rintro e w1⟨rfl,rfl⟩
    .go_wp2_with fail
     refine Z7 [0,2,4,6,8,10,12,14,16] [9,10] (λW=>vC W sb 0 (.string text)/\vC W sb 1 (vI j)) ⟨y,F⟩ λ_=>?_;refine dU ?_
     iterate 9
      refine Zrb ?_
     refine Z0 ?_;go_wp2;go_ret;exact⟨j,by rw[<-O.o];exact(Z6q (.inr HB.o.symm)).symm,X,Y,rfl,m.o.drew.drew⟩
    .have z1:=m.o.fz 1;go_wp2;go_roundw
     case rel=>exact⟨j+1,by omega,by omega,by rw[<-Zf3 U HB.o.symm];exact O.o,m.o.drew.set (j+1)⟩
     case measure=>
      have e1:(wr.setCell ⟨sb,1,none⟩ (vI ((j:Int)+1))).cell? ⟨sb,1,none⟩=some (vI ((j:Int)+1)):=(m.o.set (j+1)).c1;have e2:=m.o.c1;rw[World.cell?_drew,e1,e2];simp[intOf];omega
   .go_wp2_with fail
    refine Z7 [0,2,4,6,8,10,12,14,16,18,20,22,24,26,28,30,32,34,36,38,40] [21,22] (λW=>vC W sb 0 (.string text)/\vC W sb 1 (vI j)) ⟨y,F⟩ λ_=>?_;refine dU ?_
    iterate 21
     refine Zrb ?_
    refine Z0 ?_;go_wp2_with fail
    refine Z7 [0,2,4,6,8,10,12,14,16] [9,10] (λW=>vC W sb 0 (.string text)/\vC W sb 1 (vI j)) ⟨y,F⟩ λ_=>?_;refine dU ?_
    iterate 9
     refine Zrb ?_
    refine Z0 ?_;go_wp2;go_ret;exact⟨j,by rw[<-O.o];exact(Z6q (.inl U)).symm,X,Y,rfl,m.o.drew.drew⟩
def Zn8(h:w.heap[sb]?=some (.cells #[.string text,vI a] 135 (0,0)))(ha:a<=text.size)(hm:text.size<=1000000) :
 kC 54 #[vP sb,.func (.func 55) #[] #[]] w λe w'=>∃b,b=Zh mF text (text.size-a) a/\a<=b/\b<=text.size/\e=.returned (.string (text.extract a b))/\ScanAt w w' sb text b:=Zg6 (.inl ⟨rfl,rfl⟩) h ha hm
def Zqn(h:w.heap[sb]?=some (.cells #[.string text,vI a] 135 (0,0)))(ha:a<=text.size)(hm:text.size<=1000000) :
 kC 54 #[vP sb,.func (.func 57) #[] #[]] w λe w'=>∃b,b=Zh wG text (text.size-a) a/\a<=b/\b<=text.size/\e=.returned (.string (text.extract a b))/\ScanAt w w' sb text b:=Zg6 (.inr (.inl ⟨rfl,rfl⟩)) h ha hm
def Zlu(h:w.heap[sb]?=some (.cells #[.string text,vI a] 135 (0,0)))(ha:a<=text.size)(hm:text.size<=1000000) :
 kC 54 #[vP sb,.func (.func 58) #[] #[]] w λe w'=>∃b,b=Zh mE text (text.size-a) a/\a<=b/\b<=text.size/\e=.returned (.string (text.extract a b))/\ScanAt w w' sb text b:=Zg6 (.inr (.inr ⟨rfl,rfl⟩)) h ha hm
theorem Tryz.sizeBuilder:(Tryz.prog.info? 184).map (·.size)=some 2:=by kernel_rfl
theorem Tryz.liesBuilder:liesAt Tryz.prog Tryz.prog.depth 184 (2/Tryz.prog.cellsOf 184) 0 184 1=true:=by kernel_rfl
def Zbb(w:kV)(b:Nat)(u:vC w b 0 (.pointer none))(g:w.shape? b=some (184,2))(y:w.frozen? ⟨b,0,none⟩=false) :
 kC 126 #[vP b] w λe w'=>e=.returned (.tuple #[])/\w'=w.setCell ⟨b,0,none⟩ (vP b):=by
 obtain⟨j,m,p⟩:=Option.map_eq_some_iff.1 Tryz.sizeBuilder;go_enter func126,ntmps126
 go_wp2;rw[Lib.run_to_unsafe w ⟨b,0,none⟩ underlying181 underlying119 m (by rw[p];decide) g (Nat.zero_lt_succ 1)];simp only[Result.andThen];rw[Oper.upon_value];go_wp2;rw[run_callFunc_extern func138 Pz Pz Pz (e:=Extern.AbiNoEscape.same) Pz];rw[Lib.run_noEscape];simp only[Result.andThen];rw[Oper.upon_value];go_wp2;rw[Lib.run_from_unsafe w ⟨b,0,none⟩ underlying119 underlying181 m g Tryz.liesBuilder];simp only[Result.andThen];rw[Oper.upon_value];go_wp2;go_end0
 exact⟨rfl,rfl⟩
def Zbv(w:kV)(b:Nat)(m:vC w b 0 (vP b)) :
 kC 126 #[vP b] w λe w'=>e=.returned (.tuple #[])/\w'=w:=by
 obtain⟨j,g,_⟩:=Option.map_eq_some_iff.1 Tryz.sizeBuilder;go_enter func126,ntmps126
 go_wp2;rw[Lib.run_neq_ptr_same w _ underlying181 g];go_wp2;go_end0
 exact⟨rfl,rfl⟩
structure BAt(B:Nat)(w:kV)(b:Nat)(p v:Value)(bs:List Value):Prop where
 blk:w.heap[b]?=some (.cells #[p,v] 184 (0,0))
 ptr:p=.pointer none\/p=(vP b)
 own:w.ownsRow B 5 1 v bs.length bs
 ne:v.ownBlock≠some b
 le:B<=b
theorem U0:(Tryz.prog.info? 5).map (λi=>(i.zero,i.size,i.bytes))=some (some (.int .u8 0),1,1):=by kernel_rfl
structure BFr(w w':kV)(b:Nat)(v v':Value):Prop where
 os:w'.os=w.os
 tape:w'.tape=w.tape
 output:w'.output=w.output
 size:w.heap.size<=w'.heap.size
 block:∀k,k<w.heap.size->k≠b->v.ownBlock≠some k->w'.heap[k]?=w.heap[k]?
 row:v'.ownBlock=v.ownBlock\/∃g,v'.ownBlock=some g/\w.heap.size<=g
def Zbl(B:Nat)(w:kV)(b:Nat)(v:Value)(m:List Value)(c:Int)(h:BAt B w b (vP b) v m)(hn:m.length<1099511627776) :
 kC 92 #[vP b,.int .u8 c] w λe w'=>e=.returned .nilIface/\∃F,BAt B w' b (vP b) F (m++[.int .u8 c])/\BFr w w' b v F:=by
 obtain⟨i0,hi,aC,bo,bQ⟩:=info_parts U0;have iJ:b<w.heap.size:=(Array.getElem?_eq_some_iff.1 h.blk).1;have I:w.cell? ⟨b,0,none⟩=some (vP b):=Rg
 have h1:w.cell? ⟨b,1,none⟩=some v:=Rg
 have hz:w.frozen? ⟨b,1,none⟩=false:=by simp[World.frozen?,h.blk]
 have HC:=Lib.hid (Zbv w b I);have J:=Lib.hid h.own;have HB:=Lib.hid h;have O:=h.ne;have Ho:=h.le;have tu:=Lib.hid O;obtain⟨n,p⟩:∃n,n=m.length:=⟨_,rfl⟩
 rw[<-p]at J hn;have pR:=Lib.hid p;clear h O p I;have U:∀o (w1:kV),(w.alloc o).grownBy w1 v.ownBlock->vC w1 b 1 v/\w1.frozen? ⟨b,1,none⟩=false:=λo w1 X=>
  ⟨(X.cell_far ⟨b,1,none⟩ PB (λe=>tu.o e.symm)).trans ((Zc iJ).trans h1),(X.frozen_far ⟨b,1,none⟩ PB (λe=>tu.o e.symm)).trans ((TG iJ).trans hz)⟩
 have HA:=Lib.hid U;clear U;go_enter func92,ntmps92
 go_wp2_with fail
 refine HC.o.mono ?_;rintro e w1⟨rfl,rfl⟩
 go_wp2_with (at_builtin;go_must (refine wpList_append_lies _ rfl (.tmp 11) (.tmp 13) 182 rfl B 5 i0 (.int .u8 0) 1 1 underlying182 hi aC bo bQ rfl Py v n m rfl (J.o.alloc _) ⟨w1.heap.size,0,none⟩ 1 1 [.int .u8 c] rfl rfl (λj u hu=>cell_one_new w1 _ _ j u hu) PH PF PA PF PF (w1.heap.size+1) PE ?_);intro g cap w2 Y y Z fE;obtain⟨jA,tD⟩:=HA.o _ _ y;have HG:=Lib.hid y;have HW:=Lib.hid Y;have HT:=Lib.hid Z;clear y Y Z fE)
 go_ret;refine⟨rfl,.slice (some ⟨g,0,none⟩) (n+1) cap,?_,?_⟩;·exact Acg
 .refine⟨HG.o.os,HG.o.tape,HG.o.output,by rw[World.size_setCell];have :=HG.o.size;rw[World.size_alloc]at this;omega,λk hk lz xA=>?_,?_⟩;·exact(Below.heap_setCell _ _ _ _ lz).trans ((HG.o.block k PB (λe=>xA e.symm)).trans (Below.heap_alloc _ _ _ hk))
  .rcases HT.o with h|h;·exact .inl h.symm
   .exact .inr ⟨g,rfl,by omega⟩
def Zba(B:Nat)(w:kV)(b:Nat)(v:Value)(p:List Value)(c:Int)(m:BAt B w b (.pointer none) v p)(hn:p.length<1099511627776) :
 kC 92 #[vP b,.int .u8 c] w λe w'=>e=.returned .nilIface/\∃X,BAt B w' b (vP b) X (p++[.int .u8 c])/\BFr w w' b v X:=by
 obtain⟨i0,hi,aC,bo,bQ⟩:=info_parts U0;have Y:w.cell? ⟨b,0,none⟩=some (.pointer none):=by simp[vC,World.cell?,m.blk]
 have Z:w.frozen? ⟨b,0,none⟩=false:=by simp[World.frozen?,m.blk]
 have HC:=Lib.hid (Zbb w b Y (by simp[World.shape?,m.blk]) Z);have h:BAt B (w.setCell ⟨b,0,none⟩ (vP b)) b (vP b) v p:=
  ⟨Zj _ m.blk,.inr rfl,Z3 m.own λg F=>Below.heap_setCell _ _ _ _ (λe=>m.ne (by rw[F];exact congrArg some e)),m.ne,m.le⟩
 have I:∀k,k≠b->(w.setCell ⟨b,0,none⟩ (vP b)).heap[k]?=w.heap[k]?:=λk hk=>Below.heap_setCell _ _ _ _ hk;have I:=Lib.hid I;have aZ:(w.setCell ⟨b,0,none⟩ (vP b)).heap.size=w.heap.size:=World.size_setCell ..;have y:=Lib.hid aZ;have uS:(w.setCell ⟨b,0,none⟩ (vP b)).os=w.os/\(w.setCell ⟨b,0,none⟩ (vP b)).tape=w.tape/\(w.setCell ⟨b,0,none⟩ (vP b)).output=w.output:=⟨rfl,rfl,rfl⟩
 have J:=Lib.hid uS;clear m Y Z aZ uS;obtain⟨w1,dD⟩:∃W,W=w.setCell ⟨b,0,none⟩ (vP b):=⟨_,rfl⟩
 rw[<-dD]at HC h I y J;have iJ:b<w1.heap.size:=(Array.getElem?_eq_some_iff.1 h.blk).1;have h1:w1.cell? ⟨b,1,none⟩=some v:=Rg
 have hz:w1.frozen? ⟨b,1,none⟩=false:=by simp[World.frozen?,h.blk]
 have HO:=Lib.hid h.own;have HB:=Lib.hid h;have aG:=h.ne;have Ho:=h.le;have tu:=Lib.hid aG;obtain⟨n,O⟩:∃n,n=p.length:=⟨_,rfl⟩
 rw[<-O]at HO hn;have pR:=Lib.hid O;clear h aG O dD;have gT:∀o (w2:kV),(w1.alloc o).grownBy w2 v.ownBlock->vC w2 b 1 v/\w2.frozen? ⟨b,1,none⟩=false:=λo w2 F=>
  ⟨(F.cell_far ⟨b,1,none⟩ PB (λe=>tu.o e.symm)).trans ((Zc iJ).trans h1),(F.frozen_far ⟨b,1,none⟩ PB (λe=>tu.o e.symm)).trans ((TG iJ).trans hz)⟩
 have HA:=Lib.hid gT;clear gT;go_enter func92,ntmps92
 go_wp2_with fail
 refine HC.o.mono ?_;rintro e Lc⟨rfl,hw⟩;rw[hw];clear hw Lc
 go_wp2_with (at_builtin;go_must (refine wpList_append_lies _ rfl (.tmp 11) (.tmp 13) 182 rfl B 5 i0 (.int .u8 0) 1 1 underlying182 hi aC bo bQ rfl Py v n p rfl (HO.o.alloc _) ⟨w1.heap.size,0,none⟩ 1 1 [.int .u8 c] rfl rfl (λj u hu=>cell_one_new w1 _ _ j u hu) PH PF PA PF PF (w1.heap.size+1) PE ?_);intro g cap w2 aJ U bZ fE;obtain⟨jA,tD⟩:=HA.o _ _ U;have HG:=Lib.hid U;have HW:=Lib.hid aJ;have HT:=Lib.hid bZ;clear U aJ bZ fE)
 go_ret;refine⟨rfl,.slice (some ⟨g,0,none⟩) (n+1) cap,?_,?_⟩;·exact Acg
 .refine⟨HG.o.os.trans J.o.1,HG.o.tape.trans J.o.2.1,HG.o.output.trans J.o.2.2,by rw[World.size_setCell];have :=HG.o.size;rw[World.size_alloc,y.o]at this;omega,λk hk lz xA=>?_,?_⟩;·exact(Below.heap_setCell _ _ _ _ lz).trans ((HG.o.block k (by simp;have :=y.o;omega) (λe=>xA e.symm)).trans ((Below.heap_alloc _ _ _ (by have :=y.o;omega)).trans (I.o k lz)))
  .rcases HT.o with h|h;·exact .inl h.symm
   .exact .inr ⟨g,rfl,by have:=y.o;omega⟩
end Go.Proofs.YtkebnpemgkjpkaaGreatDoor
namespace Go.Proofs
open Go.Shelf
def Tryz.lays170_ren:Go.Shelf.Ren:=⟨fun|170=>90|n=>n,fun|70=>181|3=>3|0=>0|72=>184|37=>182|5=>5|n=>n,fun|n=>n⟩
def Tryz.lays170:Go.Proofs.Lays.n170 Tryz.prog Tryz.lays170_ren:={
 mixed:=by kernel_rfl
 f170:=Tryz.func90.trans (congrArg some (by kernel_rfl))
 t0:=Tryz.underlying0
 a0:=Tryz.isAgg0
 z0:=Tryz.sizeOf0
 v0:=Tryz.zeroValue0
 t3:=Tryz.underlying3
 a3:=Tryz.isAgg3
 z3:=Tryz.sizeOf3
 v3:=Tryz.zeroValue3
 t37:=Tryz.underlying182
 a37:=Tryz.isAgg182
 z37:=Tryz.sizeOf182
 v37:=Tryz.zeroValue182
 t70:=Tryz.underlying181
 a70:=Tryz.isAgg181
 z70:=Tryz.sizeOf181
 v70:=Tryz.zeroValue181
 t72:=Tryz.underlying184
 a72:=Tryz.isAgg184
 z72:=Tryz.sizeOf184
 v72:=Tryz.zeroValue184}
open Go.RowKit in
theorem Tryz.Builder_Len(B b:Nat)(g:List Value)(w:World)(h:Lib.IsBuilder 184 5 B b g w) :
 Calls Tryz.prog 90 #[.pointer (some ⟨b,0,none⟩)] w λe w'=>e=.returned (.int .i64 g.length)/\w'=w:=Any.Builder_Len Tryz.lays170 B b g w h
def Tryz.lays169_ren:Go.Shelf.Ren:=⟨fun|169=>91|n=>n,fun|70=>181|9=>9|0=>0|72=>184|37=>182|127=>204|3=>3|5=>5|n=>n,fun|n=>n⟩
def Tryz.lays169:Go.Proofs.Lays.n169 Tryz.prog Tryz.lays169_ren:={
 mixed:=by kernel_rfl
 f169:=Tryz.func91.trans (congrArg some (by kernel_rfl))
 t0:=Tryz.underlying0
 a0:=Tryz.isAgg0
 z0:=Tryz.sizeOf0
 v0:=Tryz.zeroValue0
 t3:=Tryz.underlying3
 a3:=Tryz.isAgg3
 z3:=Tryz.sizeOf3
 v3:=Tryz.zeroValue3
 t9:=Tryz.underlying9
 a9:=Tryz.isAgg9
 z9:=Tryz.sizeOf9
 v9:=Tryz.zeroValue9
 t37:=Tryz.underlying182
 a37:=Tryz.isAgg182
 z37:=Tryz.sizeOf182
 v37:=Tryz.zeroValue182
 t70:=Tryz.underlying181
 a70:=Tryz.isAgg181
 z70:=Tryz.sizeOf181
 v70:=Tryz.zeroValue181
 t72:=Tryz.underlying184
 a72:=Tryz.isAgg184
 z72:=Tryz.sizeOf184
 v72:=Tryz.zeroValue184
 t127:=Tryz.underlying204
 a127:=Tryz.isAgg204
 z127:=Tryz.sizeOf204
 v127:=Tryz.zeroValue204}
def Tryz.Builder_Extra_169:Builder.Extra Tryz.prog Tryz.lays169_ren:={
 sizeBuilder:=by kernel_rfl
 liesBuilder:=by kernel_rfl
 t5:=Tryz.underlying5
 a5:=Tryz.isAgg5
 z5:=Tryz.sizeOf5
 v5:=Tryz.zeroValue5
 infoByte:=by kernel_rfl
 cellsByte:=by kernel_rfl
 sizeByte:=by kernel_rfl
 neB5:=by decide}
open Go.RowKit in
theorem Tryz.Builder_String_any(B b:Nat)(l:List UInt8)(w:World)(h:Lib.IsBuilder 184 5 B b (Lib.byteCells l) w)(g:B<=w.heap.size) :
 Calls Tryz.prog 91 #[.pointer (some ⟨b,0,none⟩)] w λe w'=>e=.returned (.string ⟨l.toArray⟩)/\Below B w w':=Any.Builder_String_any Tryz.lays169 Tryz.Builder_Extra_169 B b l w h g
end Go.Proofs
namespace Go.Proofs.YtkebnpemgkjpkaaGreatDoor
open Go Go.RowKit Go.Proofs.Tryz Tryz
def BAt.is{B:Nat}{w:kV}{b:Nat}{p v:Value}{g:List Value}(h:BAt B w b p v g):Lib.IsBuilder 184 5 B b g w:=by
 obtain⟨hb,hp,ho,hn,hl⟩:=h;rcases hp with rfl|rfl;·exact .inl ⟨hl,v,hb,ho,hn⟩
 .exact .inr ⟨hl,v,hb,ho,hn⟩
def Zvy{B:Nat}{w:kV}{b:Nat}{p v:Value}{g:List Value}(h:BAt B w b p v g) :
 kC 90 #[vP b] w λe w'=>e=.returned (vI g.length)/\w'=w:=Tryz.Builder_Len B b g w h.is
def Zkc{B:Nat}{w:kV}{b:Nat}{p v:Value}(l:List UInt8)(h:BAt B w b p v (Lib.byteCells l))(g:B<=w.heap.size) :
 kC 91 #[vP b] w λe w'=>e=.returned (.string ⟨l.toArray⟩)/\Below B w w':=Tryz.Builder_String_any B b l w h.is g
def Ui(c:Int):Option UInt8:=if c=110 then some 10 else if c=39 then some 39 else if c=92 then some 92 else none
def Zo (text:kB):Nat→Nat→List UInt8→List UInt8×Int×Nat
 |0,i,_=>([],3,i)
 |f+1,i,g=>
   if text.size<=i\/Z5 text i=10 then([],3,i)
   else if Z5 text i=39 then(if 500<g.length then([],4,i+1)else(g,0,i+1))
   else if Z5 text i=92 then
    (if i + 1 < text.size then
     match Ui (Z5 text (i+1))with
     |some e=>Zo text f (i+2) (g++[e])
     |none=>([],3,i+1)
    else([],3,i+1))
   else Zo text f (i+1) (g++[text.data.getD i 0])
def BN(text:kB)(i:Nat):List UInt8×Int×Nat:=Zo text (text.size+1-i) i []
end Go.Proofs.YtkebnpemgkjpkaaGreatDoor
namespace Go.Proofs
def Tryz.lays110_ren:Go.Shelf.Ren:=⟨fun|110=>67|109=>105|n=>n,fun|31=>27|9=>9|4=>4|3=>3|0=>0|n=>n,fun|n=>n⟩
def Tryz.lays110:Go.Proofs.Lays.n110 Tryz.prog Tryz.lays110_ren:={
 mixed:=by kernel_rfl
 f109:=Tryz.func105.trans (congrArg some (by kernel_rfl))
 f110:=Tryz.func67.trans (congrArg some (by kernel_rfl))
 t0:=Tryz.underlying0
 a0:=Tryz.isAgg0
 z0:=Tryz.sizeOf0
 v0:=Tryz.zeroValue0
 t3:=Tryz.underlying3
 a3:=Tryz.isAgg3
 z3:=Tryz.sizeOf3
 v3:=Tryz.zeroValue3
 t4:=Tryz.underlying4
 a4:=Tryz.isAgg4
 z4:=Tryz.sizeOf4
 v4:=Tryz.zeroValue4
 t9:=Tryz.underlying9
 a9:=Tryz.isAgg9
 z9:=Tryz.sizeOf9
 v9:=Tryz.zeroValue9
 t31:=Tryz.underlying27
 a31:=Tryz.isAgg27
 z31:=Tryz.sizeOf27
 v31:=Tryz.zeroValue27}
open Go.Lib in
theorem Tryz.slices_Contains_string(b off n c:Nat)(g:List ByteArray)(x:ByteArray)(w:World)(m:n<=g.length)(p:n<=9223372036854775807)(hc:∀j,j<g.length->w.cell? ⟨b,off+j,none⟩=some (.string (g.getD j ByteArray.empty))) :
 Calls Tryz.prog 67 #[.slice (some ⟨b,off,none⟩) n c,.string x] w λe w'=>e=.returned (.bool (Lib.containsS (g.take n) x))/\w'=w:=Any.slices_Contains_string Tryz.lays110 b off n c g x w m p hc
end Go.Proofs
namespace Go.Proofs.YtkebnpemgkjpkaaGreatDoor
open Go Go.RowKit Go.Proofs.Tryz Tryz
def VT:List kB:=match(Rows.laid_sloppyscope_lex_wordList:DataW Unit)with
 | .agg l => l.map fun
   | .lit (.string g)=>⟨g.toArray⟩
   |_=>⟨#[]⟩
 |_=>[]
theorem Z96:VT.length=19:=by kernel_rfl
def Ud(s:kB):Bool:=Lib.containsS VT s
def Words(w:kV):Prop:=∀j,j<19->w.cell? ⟨2,j,none⟩=some (.string (VT.getD j ByteArray.empty))
def Zj2(w:kV)(s:kB)(g:Words w) :
 kC 59 #[.string s] w λe w'=>e=.returned (.bool (Ud s))/\w'=w:=by
 have HC:=Tryz.slices_Contains_string 2 0 19 19 VT s w (by rw[Z96];omega) Px (λj m=>by rw[Nat.zero_add];exact g j (by rw[Z96]at m;exact m));rw[show VT.take 19=VT by rw[<-Z96];exact List.take_length]at HC;have HC:=Lib.hid HC;clear g;unfold Ud;generalize Lib.containsS VT s=B at HC ⊢;go_enter func59,ntmps59
 exact Nj
open Go Go.RowKit Go.Proofs.Tryz Tryz
theorem lh{p:Prop}(h:p):Hid p:=Lib.hid h
theorem zT{w u v:kV}(a:Hid (kW w u))(b:kW u v):Hid (kW w v):=lh (a.o.trans (b.mono a.o.size))
theorem zL{α:Type _}{l m:List α}:(l++m).length=l.length+m.length:=List.length_append
theorem zM{α:Type _}{a:α}{l:List α}:(a::l).length=l.length+1:=rfl
theorem zN{α:Type _}:([]:List α).length=0:=rfl
theorem zA{α:Type _}(l:List α)(i:Nat)(v:α):l.toArray.setIfInBounds i v=(l.set i v).toArray:=List.setIfInBounds_toArray ..
theorem zB{α:Type _}(x v:α)(l:List α):(x::l).set 0 v=v::l:=rfl
theorem zC{α:Type _}(x v:α)(l:List α)(n:Nat):(x::l).set (n+1) v=x::l.set n v:=rfl
theorem Y0:type_of% @Nat.le_refl:=@Nat.le_refl
theorem Y1:type_of% @Array.getElem?_eq_some_iff:=@Array.getElem?_eq_some_iff
theorem Y2:type_of% @Below.refl:=@Below.refl
theorem Y3:type_of% @if_neg:=@if_neg
theorem Y4:type_of% @Nat.le_trans:=@Nat.le_trans
theorem Y5:type_of% @if_pos:=@if_pos
theorem Y6:type_of% @List.getElem?_eq_getElem:=@List.getElem?_eq_getElem
theorem Y7:type_of% @Nat.lt_of_lt_of_le:=@Nat.lt_of_lt_of_le
theorem Y8:type_of% @Below.heap_setCell:=@Below.heap_setCell
theorem Y9:type_of% @World.ownsRow.lt:=@World.ownsRow.lt
theorem Ya:type_of% @World.news_of_block:=@World.news_of_block
theorem Yb:type_of% @World.cell?_of_block:=@World.cell?_of_block
theorem Yc:type_of% @Option.some.inj:=@Option.some.inj
theorem Yd:type_of% @List.mem_of_getElem?:=@List.mem_of_getElem?
theorem Ye:type_of% @List.take_of_length_le:=@List.take_of_length_le
theorem Yf:type_of% @World.size_setCell:=@World.size_setCell
theorem Yg:type_of% @List.getElem?_map:=@List.getElem?_map
theorem Yh:type_of% @Nat.zero_le:=@Nat.zero_le
theorem Yi:type_of% @List.length_append:=@List.length_append
theorem Yj:type_of% @Tryz.underlying9:=@Tryz.underlying9
theorem Yk:type_of% @Tryz.underlying3:=@Tryz.underlying3
theorem Yl:type_of% @List.map_append:=@List.map_append
theorem Ym:type_of% @List.length_map:=@List.length_map
theorem Yn:type_of% @World.frozen?_of_block:=@World.frozen?_of_block
theorem Yo:type_of% @WideMaps.keyOf_string_mk:=@WideMaps.keyOf_string_mk
theorem Yp:type_of% @bodyPost_ret:=@bodyPost_ret
theorem Yq:type_of% @heap_alloc_new:=@heap_alloc_new
theorem Yr:type_of% @World.cell?_setCell_other:=@World.cell?_setCell_other
theorem Ys:type_of% @World.cell?_alloc_new:=@World.cell?_alloc_new
theorem Yt:type_of% @List.drop_eq_getElem_cons:=@List.drop_eq_getElem_cons
theorem Yu:type_of% @And.intro:=@And.intro
theorem Yv:type_of% @List.mem_cons_self:=@List.mem_cons_self
theorem zX{α:Sort _}(a:α):∃x,x=a:=⟨a,rfl⟩
