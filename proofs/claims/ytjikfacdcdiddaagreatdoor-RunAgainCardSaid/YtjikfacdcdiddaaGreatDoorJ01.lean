/- A region that draws its order, walked once, in an order of one's own -/
import Derived.Deep.AppendLies
import Derived.OrdersHeld
import Derived.Tactics
import Derived.KernelRfl
import Derived.Laws.World
import Derived.WalkKit
import Derived.Laws.AppendOwn
import Derived.Lib.Hide
import Derived.Test.YtjikfacdcdiddaaGreatDoorProg
import Derived.WalkSpells
import Derived.WalkLawsBesides
set_option maxRecDepth 100000
set_option maxHeartbeats 20000000
set_option linter.unusedSimpArgs false
namespace Go.RowKit
theorem Hid.o{p:Prop}(h:Hid p):p:=h
end Go.RowKit
namespace Go.Proofs.YtjikfacdcdiddaaGreatDoor
open Go
theorem O'{G:Prop}(i:G:=by omega):G:=i
theorem Pa{G:Prop}(i:G:=by decide):G:=i
theorem Pb{G:Prop}(i:G:=by kernel_rfl):G:=i
theorem Pc{G:Prop}(i:G:=by unfold maxLen;omega):G:=i
theorem Pd{G:Prop}(i:G:=by simp[vC,World.cell?,ac]):G:=i
theorem Pe{G:Prop}(i:G:=by simp;omega):G:=i
theorem Pf{G:Prop}(i:G:=by simp only[Job.rank]at *;omega):G:=i
theorem Pg{G:Prop}(i:G:=by simp):G:=i
theorem Ph{G:Prop}(i:G:=by first|omega|(simp;omega)):G:=i
theorem Pi{G:Prop}(i:G:=by simp only[Job.least]at *;omega):G:=i
theorem Pj{G:Prop}(i:G:=by intro u hu;simp at hu;subst hu;rfl):G:=i
theorem Pk{G:Prop}(i:G:=by rcases bX with h|h;(exact .inl h);(exact .inr (by omega))):G:=i
theorem Pl{G:Prop}(i:G:=by simp[lH]):G:=i
theorem Pm{G:Prop}(i:G:=by intro e;cases e):G:=i
theorem Pn{G:Prop}(i:G:=by simp only[Job.rank,Job.least]at *;omega):G:=i
theorem Po{G:Prop}(i:G:=by rfl):G:=i
theorem Pp{G:Prop}(i:G:=by simp;have:=jd.o.size;have:=HP.o.le;omega):G:=i
theorem Pq{G:Prop}(i:G:=by simp[ATree.ptr,Value.oneCell']):G:=i
theorem Pr{G:Prop}(i:G:=by rw[<-d7.o];exact bV):G:=i
theorem Ps{G:Prop}(i:G:=by simp only[Job.base];omega):G:=i
theorem Pt{G:Prop}(i:G:=by rw[g1];simp):G:=i
theorem Pu{G:Prop}(i:G:=by rw[<-HN.o];exact bV):G:=i
theorem Pv{G:Prop}(i:G:=by rw[hv];rfl):G:=i
theorem Pw{G:Prop}(i:G:=by rw[aG];exact(Inv.turn (k:=s.steps+1) (c:=s.calls) (v:=s.last) hI (by omega) (by omega) hI.calls hI.last (by omega)).1):G:=i
theorem Px{G:Prop}(i:G:=by assumption):G:=i
theorem Py{G:Prop}(i:G:=by have:=G2.at'.blkOf;simp only[ATree.b,ATree.v,ATree.kind,ATree.text,ATree.n]at this;simp[vC,World.cell?,this]):G:=i
theorem Pz{G:Prop}(i:G:=by rw[<-d7.o];exact Y0 _):G:=i
theorem PA{G:Prop}(i:G:=by simp[Tok.cells,Value.oneCell']):G:=i
theorem PB{G:Prop}(i:G:=by rw[Z7];exact hk):G:=i
theorem PC{G:Prop}(i:G:=by rw[hx];simp):G:=i
theorem PD{G:Prop}(i:G:=by have:=Xw (ts:=ts) (by omega);simp only[Job.least]at *;omega):G:=i
theorem PE{G:Prop}(i:G:=by simp <;>omega):G:=i
theorem PF{G:Prop}(i:G:=by simp[World.setCell]):G:=i
theorem PG{G:Prop}(i:G:=by simp only[Value.ownBlock,Option.some.injEq]at ez;omega):G:=i
theorem PH{G:Prop}(i:G:=by rw[cB];simp):G:=i
theorem PI{G:Prop}(i:G:=by have:=fL.o;have:=HL.o;omega):G:=i
theorem PJ{G:Prop}(i:G:=by have:=Hv (n:=a.nt C.N);rw[Zq,yn,Ym]at this;omega):G:=i
theorem PK{G:Prop}(i:G:=by simp[World.frozen?,ac]):G:=i
theorem PM{G:Prop}(i:G:=by rw[<-HC.o];omega):G:=i
theorem PN{G:Prop}(i:G:=by simp only[Job.base]at *;omega):G:=i
theorem PO{G:Prop}(i:G:=by rw[cJ.o];unfold MSt.bindTo;rw[Y3 (qw.o▸gB)]):G:=i
theorem PP{G:Prop}(i:G:=by simpa using h):G:=i
theorem PS{G:Prop}(i:G:=by rw[<-HN.o];exact Y0 _):G:=i
theorem PT{G:Prop}(i:G:=by rw[am];exact da.o):G:=i
theorem PU{G:Prop}(i:G:=by simp[Job.least]):G:=i
theorem PV{G:Prop}(i:G:=by rw[hP];exact Y4 (List.length_filter_le _ _) hn):G:=i
theorem PW{G:Prop}(i:G:=by simp;have:=F3.o.size;have:=HP.o.le;omega):G:=i
theorem PY{G:Prop}(i:G:=by show w.heap.size+1<_;exact mO):G:=i
theorem PZ{G:Prop}(i:G:=by have:=Zm h;simp only[Job.least]at *;omega):G:=i
theorem P8{G:Prop}(i:G:=by simp[ATree.blocks,hx]):G:=i
theorem P9{G:Prop}(i:G:=by rw[Zq,yn];exact List.mem_map.2 ⟨x,hx,rfl⟩):G:=i
theorem P'{G:Prop}(i:G:=by rw[List.drop_zero];exact sm.o):G:=i
theorem Qa{G:Prop}(i:G:=by rw[Zq,yn];exact List.mem_map.2 ⟨y,hy,rfl⟩):G:=i
theorem Qb{G:Prop}(i:G:=by have:=j2.steps;omega):G:=i
theorem Qc{G:Prop}(i:G:=by rcases List.mem_cons.1 h with h|h;exact absurd h e;exact h):G:=i
theorem Qd{G:Prop}(i:G:=by simp[vC,World.cell?,i8]):G:=i
theorem Qe{G:Prop}(i:G:=by rw[cB];rfl):G:=i
theorem Qf{G:Prop}(i:G:=by rw[hk];simp):G:=i
theorem Qg{G:Prop}(i:G:=by rw[<-HQ.o];exact bV):G:=i
theorem Qh{G:Prop}(i:G:=by simp[World.frozen?,i8]):G:=i
theorem Qi{G:Prop}(i:G:=by rw[eh];exact(Y2 _ _).alloc (Y0 _) _):G:=i
theorem Qj{G:Prop}(i:G:=by have:=HN.o;omega):G:=i
theorem Qk{G:Prop}(i:G:=by rw[HV.o];rfl):G:=i
theorem Ql{G:Prop}(i:G:=by simp[World.frozen?,q]):G:=i
theorem Qm{G:Prop}(i:G:=by intro e;injection e with e1;omega):G:=i
theorem Qn{G:Prop}(i:G:=by unfold maxLen at fZ;omega):G:=i
theorem Qo{G:Prop}(i:G:=by simp only[n]at cK;omega):G:=i
theorem Qp{G:Prop}(i:G:=by rintro rfl;rw[h.rhp]at hr;exact n1 (Yc hr).symm):G:=i
theorem Qq{G:Prop}(i:G:=by rw[h.kids];simp):G:=i
theorem Qr{G:Prop}(i:G:=by rw[<-HQ.o];exact Y0 _):G:=i
theorem Qs{G:Prop}(i:G:=by rcases hk with⟨h1,-⟩|h1<;>simp[Zq,Zc,h1,Sf]):G:=i
theorem Qt{G:Prop}(i:G:=by simp[hr]):G:=i
theorem Qu{G:Prop}(i:G:=by rw[List.drop_zero];exact HS.o):G:=i
theorem Qv{G:Prop}(i:G:=by simpa using be):G:=i
theorem Qw{G:Prop}(i:G:=by rw[Z7];omega):G:=i
theorem Qx{G:Prop}(i:G:=by rw[<-List.flatMap_append,List.take_append_drop]):G:=i
theorem Qy{G:Prop}(i:G:=by rw[<-HS.o];exact DW.o.symm):G:=i
theorem Qz{G:Prop}(i:G:=by have:=HP.o.deep;omega):G:=i
theorem QA{G:Prop}(i:G:=by simp[vC,World.cell?,fA]):G:=i
theorem QB{G:Prop}(i:G:=by simp[vC,World.cell?,ai]):G:=i
theorem QD{G:Prop}(i:G:=by have h:=HQ.o;rw[Y3 (by omega)]at h;exact h):G:=i
theorem QE{G:Prop}(i:G:=by simp[vC,World.cell?,q]):G:=i
theorem QF{G:Prop}(i:G:=by rw[ho];simp):G:=i
theorem QG{G:Prop}(i:G:=by rw[U3 hf,List.length_take];congr 1;omega):G:=i
theorem QH{G:Prop}(i:G:=by simp only[List.length_set];rw[hf];omega):G:=i
theorem QI{G:Prop}(i:G:=by simpa using hk):G:=i
theorem QJ{G:Prop}(i:G:=by simpa using h4):G:=i
theorem QK{G:Prop}(i:G:=by rw[List.length_cons];omega):G:=i
theorem QL{G:Prop}(i:G:=by rw[hk];rfl):G:=i
theorem QM{G:Prop}(i:G:=by rw[hf,Nat.succ_mul];omega):G:=i
theorem QN{G:Prop}(i:G:=by simp[vC,World.cell?,h.blk]):G:=i
theorem QO{G:Prop}(i:G:=by rw[<-kS.o];exact K1.o):G:=i
theorem QP{G:Prop}(i:G:=by simp only[Job.base,xF,ZU]at *;omega):G:=i
theorem QQ{G:Prop}(i:G:=by simp only[Job.base,xF,Tc]at *;omega):G:=i
theorem QR{G:Prop}(i:G:=by rw[hnO,cL];exact(by rw[yd.o];rfl)):G:=i
theorem QS{G:Prop}(i:G:=by rw[hP];exact List.length_filter_le _ _):G:=i
theorem QT{G:Prop}(i:G:=by rw[Zi text (by omega) s2,Nat.add_zero]):G:=i
theorem QU{G:Prop}(i:G:=by simp[MSt.object,MSt.setH]):G:=i
theorem QV{G:Prop}(i:G:=by simp[ATree.blocks]):G:=i
theorem QW{G:Prop}(i:G:=by rw[kF];exact(Y2 _ _).alloc (Y0 _) _):G:=i
theorem QX{G:Prop}(i:G:=by have :=cD.o;have :=vE.o;omega):G:=i
theorem QY{G:Prop}(i:G:=by simp[results,Tryz.results115,go_sem]):G:=i
theorem QZ{G:Prop}(i:G:=by rw[cL,ir.o.clos];simp[CloR.clo]):G:=i
theorem Q0{G:Prop}(i:G:=by simp[vC,World.cell?,o6]):G:=i
theorem Q2{G:Prop}(i:G:=by simp only[Job.base,Tc]at *;omega):G:=i
theorem Q3{G:Prop}(i:G:=by rw[jE,uI.o];exact hA):G:=i
theorem Q4{G:Prop}(i:G:=by rw[cB];simp[hy]):G:=i
theorem Q5{G:Prop}(i:G:=by rw[Z7,Zc];omega):G:=i
theorem Q6{G:Prop}(i:G:=by simpa using h2):G:=i
theorem Q7{G:Prop}(i:G:=by rw[<-bZ.o];exact bV):G:=i
theorem Q8{G:Prop}(i:G:=by rw[h0]at hr;cases hr):G:=i
theorem Q9{G:Prop}(i:G:=by have:=HP.o.few;omega):G:=i
theorem Ra{G:Prop}(i:G:=by rw[<-HN.o];exact Nat.le_refl _):G:=i
theorem Rb{G:Prop}(i:G:=by rw[<-d7.o];exact Nat.le_refl _):G:=i
theorem Rc{G:Prop}(i:G:=by rw[<-Nat.add_mul];congr 1;omega):G:=i
theorem Re{G:Prop}(i:G:=by simp[ATree.blocks,hg]):G:=i
theorem Rf{G:Prop}(i:G:=by simp[Value.oneCell']):G:=i
theorem Rg{G:Prop}(i:G:=by simp[h.rhp]):G:=i
theorem Rh{G:Prop}(i:G:=by rw[Yg,hx];rfl):G:=i
theorem Ri{G:Prop}(i:G:=by rw[hR,ex];rfl):G:=i
theorem Rj{G:Prop}(i:G:=by rw[ho];rfl):G:=i
theorem Rk{G:Prop}(i:G:=by rw[aV];rfl):G:=i
theorem Rl{G:Prop}(i:G:=by have:=d7.o;omega):G:=i
theorem Rm{G:Prop}(i:G:=by have:=HQ.o;omega):G:=i
theorem Rn{G:Prop}(i:G:=by simpa using h5):G:=i
theorem Ro{G:Prop}(i:G:=by simpa using h3):G:=i
theorem Rp{G:Prop}(i:G:=by rw[jj];simp):G:=i
theorem Rq{G:Prop}(i:G:=by rw[qi];simp):G:=i
theorem Rr{G:Prop}(i:G:=by rw[dl];exact hA):G:=i
theorem Rs{G:Prop}(i:G:=by rwa[Nat.one_mul]):G:=i
theorem Rt{G:Prop}(i:G:=by have:=a.lo;omega):G:=i
theorem Ru{G:Prop}(i:G:=by rw[<-hc];omega):G:=i
theorem Rv{G:Prop}(i:G:=by rw[jj];rfl):G:=i
theorem Rw{G:Prop}(i:G:=by simp[k1]):G:=i
theorem Rx{G:Prop}(i:G:=by simp[hl]):G:=i
theorem Ry{G:Prop}(i:G:=by simp[hy]):G:=i
theorem Rz{G:Prop}(i:G:=by simp[Ss]):G:=i
@[match_pattern,reducible] def vI(n:Int):Value:=.int .i64 n
@[match_pattern,reducible] def vP(b:Nat):Value:=.pointer (some ⟨b,0,none⟩)
abbrev vC(W:World)(b i:Nat)(v:Value):Prop:=W.cell? ⟨b,i,none⟩=some v
theorem tr0{G:Prop}(i:G:=by
 have am:R=r1:=by
  rw[hR,bA];unfold D9;rw[Zc,hk];rfl
 rw[<-aG]at ig;have hC1:=Calls.dres (ig zv M oI.o (aJ.bel nN.o) bz);rw[<-bA]at hC1;have bF:=lh hC1;have dr:decide (0<q)=true∨decide (0<q)=false:=by cases decide (0<q)<;>simp
 clear hz aD bc cF aE aY eT aJ bz dt du dv lf lr ln ha hf h hI aG eJ ff dR co cr eu dc c3 c0 hq hR ig hC1 bA;subst am;rw[hk]at d0;clear hk;unfold ATree.ptr;rcases dr with fW|fW
 all_goals
  go_enter Tryz.func45,Tryz.ntmps45
  go_wp2_with fail
  rw[<-lN.o];clear f5 y5 g5 d3 d0 d1 f0 f1;refine bF.o.mono ?_;rintro e W3⟨M3,b3,k3,n3,t3,fg,rfl,aX⟩;have bP:=lh aX;have bE:=lh (lO.o.trans aX.2.1);clear aX;simp only[ag];obtain⟨q0,q1,q2,z0,z1,z2⟩:=(ar.o.fr bE.o).six;obtain⟨s3,q3⟩:=R;cases q3 with
  | error x3 =>
    exact Aay
  | ok v3 =>
    exact Aaw):G:=i
theorem tr1{G:Prop}(i:G:=by
 have hst:=Zp8 jD.o.drew sc a.text ⟨k1,n1,t1⟩;simp only[LVal.agg]at hst;have uD:=lh hst;clear hst;refine Zx4 ?_;intro HS20;go_wp2_with fail
 refine Aak ?_;intro bu;go_wp2_with fail
 refine uD.o.mono ?_;rintro e W2⟨rfl,M2,aQ,aq⟩;have bW:=lh aQ;have aZ:=lh (ei.o.trans ((MFr.drew (.refl M1 W1)).trans aq));clear aQ aq q0 q1 q2 z0 z1 z2 m0 m1 m2 f0 f1 d0 d1 d3 nP b0 b1 C7;refine SH ?_;intro m0 m1 m2 q0 q1 q2 z0 z1 z2;have am:R=(s2.setH (s2.H.start sc a.text ⟨k1,n1,t1⟩).1,.ok (false,⟨0,0,⟨#[]⟩⟩)):=HR.o;clear HR;subst am;go_wp2_with fail
 exact tq8):G:=i
theorem tr2{G:Prop}(i:G:=by
 refine V8 ?_;intro s4 jb hob nO hnO;have hnO2:nO=s.nextO:=QR
 rw[<-hnO]at hob;refine tm6 ?_;clear aQ aq ew hg ae kL e9 r9 s7 s8 jU jV jW HG HW iK kM hob hnO hnO2 qJ jb cL bz lP;intro lQ H2 aZ nQ HSs4 HSs3 HNO2 hm4;apply Zs6 (H:=ML C w M2 w4 s4 nO);·exact tq1
 .exact tq0
 refine U0 ?_;clear s9 hm4;intro W6 p6 M6 u0 u1 q0 q1 q2 z0 z1 z2 p0 p1 p2 jX mh;have HMX:=lh jX.o.1;have oJ:=mh;rw[lR]at u0;rw[bg]at u1;exact Xa):G:=i
theorem tr3{G:Prop}(i:G:=by
 unfold ATree.ptr at cX;have eB:=lh cX;have HX:=lh hx;have cr:n<=cp:=by
  have:=HV.o.symm.trans fG;simp only[Value.slice.injEq]at this;rw[HN.o,this.2.2];exact k1
 clear hx eK ae fG k1 k2 k3 aU cX;go_wp2_with fail
 refine eB.o.mono ?_;rintro e w2⟨rfl,wZ⟩;have oK:=lh wZ;clear wZ eB;go_wp2;go_roundw
 case rel=>exact⟨k+1,by omega,by go_num,lh (by rw[Xz HX.o,Zbt];exact oK.o)⟩
 case measure=>simp[intOf];omega):G:=i
theorem tr4{G:Prop}(i:G:=by
 refine V8 ?_;intro s4 jb hob nO hnO;have hnO2:nO=s.nextO:=QR
 rw[<-hnO]at hob;refine tm6 ?_;clear aQ aq ew hg ae kL e9 r9 s7 s8 jU jV jW HG HW iK kM hob hnO hnO2 qJ jb cL bz lP;intro lQ H2 aZ nQ HSs4 HSs3 HNO2 hm4;apply Zs6 (H:=ML C w M2 w4 s4 nO);·exact tq1
 .exact tq0
 refine U0 ?_;clear s9 hm4;intro W6 p6 M6 u0 u1 q0 q1 q2 z0 z1 z2 p0 p1 p2 jX mh;have HMX:=lh jX.o.1;have oJ:=mh;exact Xa):G:=i
theorem tr5{G:Prop}(i:G:=by
 refine Wk ?_;intro he av hR;simp only at hR;subst hR;obtain⟨T1,P1,rfl,hP⟩:=he.ne;have ej:=lh he;obtain⟨q0,q1,q2,z0,z1,z2⟩:=(ar.o.fr F1).six;obtain⟨m0,m1,m2,-,-,-⟩:=(bQ.o.fr F1).six;clear ai he HR F1;go_wp2;refine bodyPost_ret (v:=.tuple #[.agg #[vI 0,vI 0,.string ⟨#[]⟩],.iface T1 (.pointer P1)]) ?_ rfl ?_;·simp[results,Tryz.results120,go_sem,q0,q1,q2]
 .exact .err ar.o bJ.o av.o.1.1 bw.o ej.o):G:=i
theorem tr6{G:Prop}(i:G:=by
 have ca:=lh aj;clear aC aT bX cg aj;refine Z0 ?_;go_wp2;go_roundw
 case rel=>
  refine⟨g,ao++[t],vs,.slice (some ⟨gg,0,none⟩) (kids.length+1) cap,kids++[a],by omega,fw.o,?_,ca.o.2.2,ca.o.2.1,by simp,by have:=HL.o;have:=H8.o;simp;omega,by have:=fX.o;simp only[Job.least]at this;have:=PQ.o.2;omega⟩;have h1:=ca.o.1;have h2:=GQ.o.tree;exact y8
 case measure=>
  exact Zx5):G:=i
theorem tr7{G:Prop}(i:G:=by
 have ca:=lh aj;clear aC aT bX cg aj;refine Z0 ?_;go_wp2;go_roundw
 case rel=>
  refine⟨g,ao++[t],vs,.slice (some ⟨gg,0,none⟩) (kids.length+1) cap,kids++[a],by omega,m'.o,?_,ca.o.2.2,ca.o.2.1,by simp;omega,λx hx=>?_⟩
  .have h1:=ca.o.1;have h2:=G2.o.tree;exact y8
  .exact Zxm
 case measure=>
  rw[ca.o.2.2.left,RL.o];exact dA):G:=i
theorem tr8{G:Prop}(i:G:=by
 refine V8 ?_;intro s4 jb hob nO hnO;have hnO2:nO=s.nextO:=by rw[hnO,cL];exact ye.o
 rw[<-hnO]at hob;refine tm6 ?_;clear aQ aq ew hg ae kL e9 r9 s7 s8 jU jV jW HG HW iK kM hob hnO hnO2 qJ jb cL bz lP;intro lQ H2 aZ nQ HSs4 HSs3 HNO2 hm4;apply Zs6 (H:=ML C w M2 w4 s4 nO);·exact tq1
 .exact tq0
 exact Aar):G:=i
theorem tr9{G:Prop}(i:G:=by
 refine Xl ?_;clear q0 q1 q2 z0 z1 z2 m0 m1 m2;intro W3 M3 b3 k3 n3 t3 fg bP bE;obtain⟨q0,q1,q2,z0,z1,z2⟩:=(ar.o.fr bE.o).six;obtain⟨r3,dp⟩:∃r3,r3=D (y.nt C.N) sc fr s2:=⟨_,rfl⟩
 rw[<-dp]at bP;have am:R=r3:=by rw[HR.o,dp]
 clear HR dp;subst am;exact Vo):G:=i
theorem YM{G:Prop}(i:G:=by
 rw[<-jE]at am aq;have HE:=Zc8 w wn rb B d _ _ _ r ((P2.o.next (ts':=vs) hR bh fX.o).next am (RFr.below (rb:=rb) aX) (Nat.le_refl _)) hA aq fw.o;simp only[ATree.b]at HE;have HE:=lh HE;clear mi kh hX hR bh ai ax aX hA am aq HN aN jE be dw HC;exact Ug):G:=i
theorem Wi{G:Prop}(i:G:=by
 simp only at HC;refine WV ?_;clear hv fY;intro HC fX fw;go_wp2_with fail
 refine Zxa ?_;clear HC;intro w3 a HE;exact Ug):G:=i
theorem Xq{G:Prop}(i:G:=by
 have N3:=lh (NO.o.far TX.o xa);have bP:=lh (HB.o.trans aX);clear HA ht3 aX xa hsn;go_wp2;go_roundw
 case rel=>exact⟨k+1,_,rfl,by omega,by go_num,qK,N3,bP⟩
 case measure=>simp[intOf];omega):G:=i
theorem XG{G:Prop}(i:G:=by
 go_enter Tryz.func28,Tryz.ntmps28
 go_wp2_with fail
 refine HC.o.mono ?_;rintro e w1⟨rfl,gj⟩;have eL:=lh gj;clear gj HC;go_wp2;refine bodyPost_ret (results_none rfl _ _ _) rfl ?_;exact⟨rfl,eL.o⟩):G:=i
theorem YL{G:Prop}(i:G:=by
 go_wp2_with fail
 go_roundw
 case rel=>exact⟨k+1,true,by omega,by first|rfl|rw[hb],by go_num,trivial,xd⟩
 case measure=>simp[intOf];omega):G:=i
theorem Xi{G:Prop}(i:G:=by
 refine Zuc ?_;intro HC HG ip n bI;rw[<-bI]at hn dG ⊢;have HN:=lh bI;clear hc hg hI bI;go_enter Tryz.func105,Tryz.ntmps105
 exact tq2):G:=i
theorem Aad{G:Prop}(i:G:=by
 refine Zuc ?_;intro HC HG ip n bI;rw[<-bI]at hn dG ⊢;have HN:=lh bI;clear hc hg hI bI;go_enter Tryz.func106,Tryz.ntmps106
 exact tq2):G:=i
theorem YE{G:Prop}(i:G:=by
 rcases NO.o.form with⟨h1,h2⟩|⟨g,cap,h1,_⟩;·rw[h2]at hx;simp at hx
 .simp only[Value.slice.injEq]at h1;exact⟨g,h1.1⟩):G:=i
theorem ZX{G:Prop}(i:G:=by
 go_wp2_with fail
 refine HC.o.mono ?_;rcases r with⟨c,p⟩|⟨t,ts'⟩;·exact Aan
 .rintro e wz⟨a,rfl,hG,hR,hF⟩;exact U'):G:=i
theorem Vu{G:Prop}(i:G:=by
 have HC:=HA.o w2 rb B d _ _ P2.o hv;unfold cQ at HC;exact Sg):G:=i
theorem X2{G:Prop}(i:G:=by
 refine Zwz ?_;clear b0 b1 b2;intro W3 M3 k3 n3 t3 fg bP bE;refine Vp ?_;intro q0 q1 q2 z0 z1 z2;obtain⟨s3,q3⟩:=R;exact ZF):G:=i
theorem YG{G:Prop}(i:G:=by
 subst hv;have:l=[]:=List.eq_nil_of_length_eq_zero hz;subst this;clear af ae hz;go_enter Tryz.func74,Tryz.ntmps74
 exact YK):G:=i
theorem X'{G:Prop}(i:G:=by
 have HC:=RG w5 rb _ d UA P5.o.rd hs;unfold UA at HC;have HC:=lh HC;clear hs;exact Yt):G:=i
theorem ZT{G:Prop}(i:G:=by
 go_enter Tryz.func71,Tryz.ntmps71
 go_wp2_with fail
 rw[<-fH.o];clear kW c1' kX jY kY;exact Aaa):G:=i
theorem Aac{G:Prop}(i:G:=by
 rcases cG.form with⟨h1,h2⟩|⟨g,cap,h1,h2,h3⟩;·exact Aao
 .exact⟨_,_,h1,h2,h3⟩):G:=i
theorem Xc{G:Prop}(i:G:=by
 exact(HB.o.alloc be _).grown HG.o Pe λj hj=>(World.ownsRow.lt HR.o j hj).1):G:=i
theorem ZE{G:Prop}(i:G:=by
 have HT:=lh HT;clear hs;go_wp2_with fail
 refine HT.o.mono ?_;exact yR):G:=i
theorem XZ{G:Prop}(i:G:=by
 refine SH ?_;intro m0 m1 m2 q0 q1 q2 z0 z1 z2;go_wp2_with fail
 exact tq8):G:=i
theorem dW{P G:Prop}(h:P)(i:RowKit.Hid P->G:=by
 intro HQ_;simp only[List.map_cons,List.map_nil,pD,Sr,List.filterMap_cons,List.filterMap_nil,List.getElem?_toArray,List.getElem?_cons_zero,List.getElem?_cons_succ,Option.map_some];exact HQ_.o):G:=i (Lib.hid h)
theorem I4{P G:Prop}(h:P)(i:RowKit.Hid P->G:=by
 intro HQ_;obtain⟨s1,aG⟩:∃s1:MSt,s1={s with steps:=s.steps+1}:=⟨_,rfl⟩
 have bY:=ha.lt;have hst:=hI.steps;have jF:IntKind.i64.wrap (s.steps+1)=s.steps+1:=IntWalk.i64_in _ O';obtain⟨bc,dt,du,dv⟩:=Zpb h fr;unfold frO vO at bc dt du dv;obtain⟨z0,aD⟩:∃z0,z0=((w.alloc (.cells #[.bool fr.strict,vI fr.vars] 63)).alloc (.cells #[vI 0,vI 0,.string ⟨#[]⟩] 55)).alloc (.cells #[vI 0,vI 0,.string ⟨#[]⟩] 55):=⟨_,rfl⟩
 revert s1 aG bY hst jF bc dt du dv z0 aD;exact HQ_.o):G:=i (Lib.hid h)
theorem Wy{P G:Prop}(h:P)(i:RowKit.Hid P->G:=by
 intro HQ_;intro gg cap w5 aM ay ch iq;have ncv:∀k,cv.ownBlock=some k->M0.has k:=λk hk=>.inr ⟨3,by decide,by rw[<-mj.o];exact hk⟩;have jG:cv.ownBlock≠some w.heap.size:=λe=>(yf.o.fr gY.o).free (ncv _ e);have pc:cv.ownBlock≠some a.b:=λe=>kj.o.2.blk (ncv _ e);have hne4:cv.ownBlock≠some kg:=λe=>gY.o.free kg (Nat.lt_of_lt_of_le ba bJ.o.size) eU (ncv _ e)
 have cR:∀b o,b<w2.heap.size->cv.ownBlock≠some b->w5.cell? ⟨b,o,none⟩=w2.cell? ⟨b,o,none⟩:=λb o ai ax=>(ay.cell_far ⟨b,o,none⟩ Pe (λe=>ax e.symm)).trans (Zb ai);have kL:w5.frozen? ⟨C.mb,9,none⟩=false:=(ay.frozen_far ⟨C.mb,9,none⟩ Pe (λe=>d9 e.symm)).trans ((RH lP).trans bz);have e9:=(cR _ 9 lP d9).trans r9;refine hK _ _ ⟨e9,(cR _ 0 rE jG).trans jU,(cR _ 3 oL pc).trans jV,(cR _ 1 rF hne4).trans jW⟩ ?_;simp only[Act.put,zA,zB,zC];have HG:=lh ay;have HW:=lh aM
 have iK:=lh ch;have kM:=lh iq;clear ay aM ch iq cR ncv jG pc hne4;refine Z0 ?_;revert gg cap w5 kL e9 HG HW iK kM;exact HQ_.o):G:=i (Lib.hid h)
theorem dV{P G:Prop}(h:P)(i:RowKit.Hid P->G:=by
 intro HQ_;first|refine Zp0 _ ?_|refine Zow ?_
 simp only[Act.put,zA,zB,zC];exact HQ_.o):G:=i (Lib.hid h)
theorem L3{P G:Prop}(h:P)(i:RowKit.Hid P->G:=by
 intro HQ_;have dC:decide (20000<s.steps+1)=false:=decide_eq_false O';have HZ:=lh (show z=_ from hz.trans (by rw[aD]));have ar:=lh lr;have bQ:=lh ln;have dH:=lh lf;have bM:=lh eT;have HM:=lh aE;have fI:=lh aJ;have ea:=lh bz;have HO:=lh h.old.size;have HE:=lh eT.size;revert dC HZ ar bQ dH bM HM fI ea HO HE;exact HQ_.o):G:=i (Lib.hid h)
theorem Kw{P G:Prop}(h:P)(i:RowKit.Hid P->G:=by
 intro HQ_;have eT:=(MFr.of_below (M:=M) bc).trans aY;obtain⟨aJ,bz⟩:=eT.tree ha hf;have lf:=dt.fr aY;have lr:=du.fr aY;have ln:=dv.fr aY;have g5:=aE.cell 5 (vI (s.steps+1)) (by rw[aG];simp[lH]);have c0:=aJ.c0;revert eT aJ bz lf lr ln g5 c0;exact HQ_.o):G:=i (Lib.hid h)
theorem tm6{P G:Prop}(h:P)(i:RowKit.Hid P->G:=by
 intro HQ_;have lQ:=lh hob;have H2:=lh aQ;have aZ:=lh (gY.o.trans aq);have nQ:=lh qJ;have HSs4:=lh jb;have HSs3:=lh cL;have HNO2:=lh hnO2;have hm4:=aQ.mbLt;refine uY (.take 0 (.take 1 (.take 2 (.take 3 (.take 4 (.take 5 (.take 6 (.take 7 (.take 8 (.take 9 (.two 10 (.take 11 (.go 12 (.go 13 .nil))) 12 (.go 10 (.take 11 (.go 13 .nil)))))))))))))) 13 (λW=>vC W C.mb 9 (.slice (some ⟨gg,0,none⟩) (n0+1) cap)) s9 ?_
 iterate 10 (refine Z7g ?_ Po Pb Po (λw' lS=>?_) ?_;rotate_left;(go_simp;first|done|with_reducible rfl);simp only[Act.put,List.setIfInBounds_toArray])
 refine Zt ?_;revert lQ H2 aZ nQ HSs4 HSs3 HNO2 hm4;exact HQ_.o):G:=i (Lib.hid h)
theorem Wr{P G:Prop}(h:P)(i:RowKit.Hid P->G:=by
 intro HQ_;have aQ:MAt C M2 (w5.setCell ⟨C.mb,9,none⟩ (.slice (some ⟨gg,0,none⟩) (n0+1) cap)) s3:=aQ;have aq:MFr M0 M2 w2 (w5.setCell ⟨C.mb,9,none⟩ (.slice (some ⟨gg,0,none⟩) (n0+1) cap)):=aq;have s9:(w5.setCell ⟨C.mb,9,none⟩ (.slice (some ⟨gg,0,none⟩) (n0+1) cap)).cell? ⟨C.mb,9,none⟩=some (.slice (some ⟨gg,0,none⟩) (n0+1) cap):=World.cell?_setCell_same _ _ _ e9;obtain⟨w4,ew⟩:∃w4,w4=w5.setCell ⟨C.mb,9,none⟩ (.slice (some ⟨gg,0,none⟩) (n0+1) cap):=⟨_,rfl⟩
 revert aQ aq s9 w4 ew;exact HQ_.o):G:=i (Lib.hid h)
theorem WJ{P G:Prop}(h:P)(i:RowKit.Hid P->G:=by
 intro HQ_;have gL:n0=so.clos.length:=by rw[cF.clos,List.length_map,hn0]
 have hn:n0<1000000000:=by rw[gL];exact na.o.lens.2.2.2.2.2.1
 have S0:=HS.o w2 M0 fJ;have d9:cv.ownBlock≠some C.mb:=λe=>cF.rowNe (i:=3) Pa (by rw[<-fD];exact e);have cf:=fJ.tree fI.o ea.o;have aN:=fJ.tree GM.o GN.o;have bz:=cF.fz 9;have oM:=lh fh;have mj:=lh fD;have oN:=lh cI;have km:=lh hn0;have qL:=lh gL;have ir:=lh cF;have gY:=lh fJ;have kj:=lh cf;have cJ:=lh aN;have kZ:=lh (WN w2.drew B body aN.1.drew);revert gL hn S0 d9 cf aN bz oM mj oN km qL ir gY kj cJ kZ;exact HQ_.o):G:=i (Lib.hid h)
theorem RF{P G:Prop}(h:P)(i:RowKit.Hid P->G:=by
 intro HQ_;have lT:w4.frozen? ⟨nb,3,none⟩=false:=(aC.frozen_far ⟨nb,3,none⟩ Pe (λe=>NE.o e.symm)).trans ((RH de).trans mz);refine hK _ _ m4 ?_;simp only[Act.put,zA,zB,zC];revert lT;exact HQ_.o):G:=i (Lib.hid h)
theorem C0{P G:Prop}(h:P)(i:RowKit.Hid P->G:=by
 intro HQ_;unfold Tl;have iV:∀(fn:Fn) (first cap:Array Value) (w:World),(Instr.makeFunc fn first cap).run Tryz.prog w=.ok (.func fn first cap) w:=λ_ _ _ _=>rfl;have gm:=lh (λW (t:TreeAt W B a)=>hK a W st ins h.m (λk hk=>h.wa.kid hk) h.mx t);obtain⟨code,aw⟩:∃c,c=qB a st ins:=⟨_,rfl⟩
 revert iV gm code aw;exact HQ_.o):G:=i (Lib.hid h)
theorem Dz{P G:Prop}(h:P)(i:RowKit.Hid P->G:=by
 intro HQ_;have iV:∀(fn:Fn) (first cap:Array Value) (w:World),(Instr.makeFunc fn first cap).run Tryz.prog w=.ok (.func fn first cap) w:=λ_ _ _ _=>rfl;revert iV;exact HQ_.o):G:=i (Lib.hid h)
theorem dh{P G:Prop}(h:P)(i:RowKit.Hid P->G:=by
 intro HQ_;refine wp_seq_k (λK hK=>?_);have HK:=lh hK;clear hK;conv=>arg 2;whnf
 revert K HK;exact HQ_.o):G:=i (Lib.hid h)
theorem mA{P G:Prop}(h:P)(i:RowKit.Hid P->G:=by
 intro HQ_;refine AR (λK hK=>?_);refine hK _ _ ?_;clear hK K;refine AR (λK hK=>?_);refine hK _ _ (D2 ?_);clear hK K;exact HQ_.o):G:=i (Lib.hid h)
theorem RZ{P G:Prop}(h:P)(i:RowKit.Hid P->G:=by
 intro HQ_;have ap:∀w1,HeapAt ρ w1 hb ho L H->w1.cell? ⟨hb,ho+1,none⟩=some (.slice (some ⟨gs,0,none⟩) H.scopes.length cs)∧w1.cell? ⟨gs,m,none⟩=some (.pointer (some ⟨L.sb m,0,none⟩))∧vC w1 (L.sb m) 1 (vI s.object):=λw1 hh=>
  ⟨by rw[<-dI];exact hh.cellS,Zn hh.rowS (g:=gs) (by rw[dI];rfl) (Zcj L.sb _ m dj),by have:=(hh.scp m s hm).1;simp[vC,World.cell?,this]⟩
 revert ap;exact HQ_.o):G:=i (Lib.hid h)
theorem V6{P G:Prop}(h:P)(i:RowKit.Hid P->G:=by
 intro HQ_;have hg:(M0.row 3).ownBlock=some gg∨w2.heap.size<=gg:=by
  exact Xs
 obtain⟨s3,cL⟩:∃s3:MSt,s3={so with clos:=so.clos++[⟨a.nt C.N,nx,Zj body⟩]}:=⟨_,rfl⟩
 have ae:w5.ownsRow 0 (mK 3) (mZ 3) (.slice (some ⟨gg,0,none⟩) (n0+1) cap) (jS s3 (M0.cl++[⟨a,nx,Zj body⟩]) 3) (nc s3 (M0.cl++[⟨a,nx,Zj body⟩]) 3):=by
  exact XA
 obtain⟨M2,aQ,aq⟩:=ir.o.push (s':=s3) (cl':=M0.cl++[⟨a,nx,Zj body⟩]) Pa (((Below.refl w2.heap.size w2).alloc (Nat.le_refl _) (.cells #[vP a.b,vI nx,.bool (Zj body)] 119)).drew) (mj.o▸HG.o) hg kM.o ae
  (fun j hj aK => by rw [cL]; match j, hj with
   |0,_=>exact⟨rfl,rfl⟩
   |1,_=>exact⟨rfl,rfl⟩
   |2,_=>exact⟨rfl,rfl⟩
   |3,_=>exact absurd rfl aK) (by rw[cL]) (by rw[cL];rfl) QZ (λx hx=>by
   rcases List.mem_append.1 hx with hx|hx;·exact ir.o.trees x hx
   .rw[List.mem_singleton.1 hx];exact⟨kj.o.1.base (Nat.zero_le _),kj.o.2⟩)
 revert hg s3 cL ae M2 aQ aq;exact HQ_.o):G:=i (Lib.hid h)
theorem RQ{P G:Prop}(h:P)(i:RowKit.Hid P->G:=by
 intro HQ_;refine ep ?_;refine Z6 (λK hK=>?_);go_simp
 have rE:w.heap.size<w2.heap.size:=Nat.lt_of_lt_of_le (by rw[HZ.o];simp;omega) gY.o.size;have oL:a.b<w2.heap.size:=kj.o.1.lt;have rF:kg<w2.heap.size:=Nat.lt_of_lt_of_le ba (Nat.le_trans bJ.o.size gY.o.size);refine hK _ _ ⟨(Zb lP).trans r9,(Zb rE).trans jU,(Zb oL).trans jV,(Zb rF).trans jW⟩ ?_;clear hK K;refine Z6 (λK hK=>?_);revert rE oL rF K hK;exact HQ_.o):G:=i (Lib.hid h)
theorem VK{P G:Prop}(h:P)(i:RowKit.Hid P->G:=by
 intro HQ_;have hg:(M0.row 3).ownBlock=some gg∨w2.heap.size<=gg:=by
  exact Xs
 obtain⟨s3,cL⟩:∃s3:MSt,s3={so with clos:=so.clos++[⟨a.nt C.N,nx,true⟩]}:=⟨_,rfl⟩
 have ae:w5.ownsRow 0 (mK 3) (mZ 3) (.slice (some ⟨gg,0,none⟩) (n0+1) cap) (jS s3 (M0.cl++[⟨a,nx,true⟩]) 3) (nc s3 (M0.cl++[⟨a,nx,true⟩]) 3):=by
  exact XA
 obtain⟨M2,aQ,aq⟩:=ir.o.push (s':=s3) (cl':=M0.cl++[⟨a,nx,true⟩]) Pa (((Below.refl w2.heap.size w2).alloc (Nat.le_refl _) (.cells #[vP a.b,vI nx,.bool (true)] 119)).drew) (mj.o▸HG.o) hg kM.o ae
  (fun j hj aK => by rw [cL]; match j, hj with
   |0,_=>exact⟨rfl,rfl⟩
   |1,_=>exact⟨rfl,rfl⟩
   |2,_=>exact⟨rfl,rfl⟩
   |3,_=>exact absurd rfl aK) (by rw[cL]) (by rw[cL];rfl) QZ (λx hx=>by
   rcases List.mem_append.1 hx with hx|hx;·exact ir.o.trees x hx
   .rw[List.mem_singleton.1 hx];exact⟨kj.o.1.base (Nat.zero_le _),kj.o.2⟩)
 revert hg s3 cL ae M2 aQ aq;exact HQ_.o):G:=i (Lib.hid h)
theorem BS{P G:Prop}(h:P)(i:RowKit.Hid P->G:=by
 intro HQ_;have mz:dD.frozen? ⟨nb,3,none⟩=false:=PK
 have de:nb<dD.heap.size:=(Array.getElem?_eq_some_iff.1 ac).1;have dJ:=eM.nodup;simp only[ATree.blocks,List.nodup_cons,List.mem_append,Option.mem_toList,not_or]at dJ;have aK:=dJ.1.1;revert mz de dJ aK;exact HQ_.o):G:=i (Lib.hid h)
theorem KJ{P G:Prop}(h:P)(i:RowKit.Hid P->G:=by
 intro HQ_;have jZ:z.heap.size=w.heap.size+1+1+1:=by rw[hz,aD];simp[World.setCell]
 have dR:=Lo.new (wE:=z) aE (Nat.le_refl _) (Nat.le_trans h.old.size eT.size) #[vI 0,vI 0,.string ⟨#[]⟩] 55;have eJ:=Z1 z (.cells #[vI 0,vI 0,.string ⟨#[]⟩] 55);revert jZ dR eJ;exact HQ_.o):G:=i (Lib.hid h)
theorem IE{P G:Prop}(h:P)(i:RowKit.Hid P->G:=by
 intro HQ_;obtain⟨aI,lf,lr,ln⟩:=Zpb h fr;unfold frO vO at aI lf lr ln;obtain⟨z,hz⟩:∃z,z=((w.alloc (.cells #[.bool fr.strict,vI fr.vars] 63)).alloc (.cells #[vI 0,vI 0,.string ⟨#[]⟩] 55)).alloc (.cells #[vI 0,vI 0,.string ⟨#[]⟩] 55):=⟨_,rfl⟩
 revert aI lf lr ln z hz;exact HQ_.o):G:=i (Lib.hid h)
theorem YQ{P G:Prop}(h:P)(i:RowKit.Hid P->G:=by
 intro HQ_;have h6:=@run_callFunc_extern Tryz.prog 46 _ (λargs=>ReflectliteValue.unpack (args.getD 0 (.tuple #[]))) Tryz.func46 Pb Pb Pb Pb;have h7:=@run_callFunc_extern Tryz.prog 47 _ (ReflectliteValue.methodAny (ReflectliteValue.valueError "reflectlite.Value.Type" 0) (λt _ _ _=>ReflectliteType.toType t)) Tryz.func47 Pb Pb Pb Pb
 have h8:=@run_callFunc_extern Tryz.prog 48 _ (ReflectliteValue.method (ReflectliteValue.valueError "reflectlite.Value.IsNil" 0) ReflectliteValue.isNil) Tryz.func48 Pb Pb Pb Pb
 have qM:=@run_callFunc_extern Tryz.prog 181 _ (ReflectliteType.abiMethod λt=>do pure (.int .u8 (<-Rtype.kind t))) Tryz.func181 Pb Pb Pb Pb;have lR:=@run_callFunc_extern Tryz.prog 195 _ (ReflectliteType.method ReflectliteType.elem) Tryz.func195 Pb Pb Pb Pb;have xf:=@run_callFunc_extern Tryz.prog 196 _ (ReflectliteType.relation "Implements" ReflectliteType.implements_) Tryz.func196 Pb Pb Pb Pb
 have nR:=@run_callFunc_extern Tryz.prog 84 _ ReflectliteType.typeOf Tryz.func84 Pb Pb Pb Pb;have yg:=@run_callFunc_extern Tryz.prog 193 _ (ReflectliteType.relation "AssignableTo" ReflectliteType.assignableTo) Tryz.func193 Pb Pb Pb Pb
 have C8:=@run_callFunc_extern Tryz.prog 85 _ (ReflectliteValue.method (ReflectliteValue.valueError "reflectlite.Value.Elem" 0) ReflectliteValue.elem) Tryz.func85 Pb Pb Pb Pb
 have xh:=@run_callFunc_extern Tryz.prog 86 _ ReflectliteValue.set Tryz.func86 Pb Pb Pb Pb;revert h6 h7 h8 qM lR xf nR yg C8 xh;exact HQ_.o):G:=i (Lib.hid h)
theorem TB{P G:Prop}(h:P)(i:RowKit.Hid P->G:=by
 intro HQ_;refine mH (λK hK=>?_);refine hK _ _ (HS.o _ _ (.drew (.of_below (Z1 _ _)))) ?_;clear hK K;try simp only[Act.put,zA,zB,zC]
 refine mH (λK hK=>?_);refine(HC.o _ (Z1 _ _).drew).mono ?_;rintro e w1⟨M1,b,k,n,t,ev,rfl,hr⟩;refine hK _ _ (HS.o _ _ ((MFr.of_below (Z1 _ _).drew).trans hr.2.1)) ?_;obtain⟨q0,q1,q2,y0,y1,y2⟩:=(mc.lo hr HM.o HE HO).six;have hv:=mc.boxB hr HM.o HE HO;have cJ:=lh (HS.o _ _ ((MFr.of_below (Z1 _ _).drew).trans hr.2.1));have fK:=lh hv;clear hr hK K hv;simp only[ag];try simp only[Act.put,zA,zB,zC]
 refine lM ?_;revert w1 M1 b k n t ev q0 q1 q2 y0 y1 y2 cJ fK;exact HQ_.o):G:=i (Lib.hid h)
theorem Uh{P G:Prop}(h:P)(i:RowKit.Hid P->G:=by
 intro HQ_;refine mH (λK hK=>?_);refine hK _ _ (HS.o _ _ (.drew (.of_below (Z1 _ _)))) ?_;clear hK K;try simp only[Act.put,zA,zB,zC]
 refine mH (λK hK=>?_);refine(HC.o _ (Z1 _ _).drew).mono ?_;rintro e w1⟨M1,k,n,t,ev,rfl,hr⟩;refine hK _ _ (HS.o _ _ ((MFr.of_below (Z1 _ _).drew).trans hr.2.1)) ?_;obtain⟨q0,q1,q2,y0,y1,y2⟩:=(o4.lo hr HM.o HE HO).six;have hv:=o4.boxB hr HM.o HE HO;have cJ:=lh (HS.o _ _ ((MFr.of_below (Z1 _ _).drew).trans hr.2.1));have fK:=lh hv;clear hr hK K hv;simp only[ag];try simp only[Act.put,zA,zB,zC]
 refine lM ?_;revert w1 M1 k n t ev q0 q1 q2 y0 y1 y2 cJ fK;exact HQ_.o):G:=i (Lib.hid h)
theorem o9{P G:Prop}(h:P)(i:RowKit.Hid P->G:=by
 intro HQ_;have cF:=h.below bc;have f5:=cF.cell 5 (vI s.steps) Pl;have y5:=cF.fz 5;obtain⟨aE,aY⟩:=Zqi cF;revert cF f5 y5 aE aY;exact HQ_.o):G:=i (Lib.hid h)
theorem RY{P G:Prop}(h:P)(i:RowKit.Hid P->G:=by
 intro HQ_;refine uY (.take 0 (.take 1 (.take 2 (.go 3 (.go 4 .nil))))) 3 (λW=>vC W (w.heap.size+1+1) 0 (vI 0)∧vC W (w.heap.size+1+1) 1 (vI 0)∧vC W (w.heap.size+1+1) 2 (.string ⟨#[]⟩)) ⟨m0,m1,m2⟩ ?_;refine lM ?_;exact HQ_.o):G:=i (Lib.hid h)
theorem Kz{P G:Prop}(h:P)(i:RowKit.Hid P->G:=by
 intro HQ_;obtain⟨aI,lf,lr⟩:=Zld h fr;unfold frO vO at aI lf lr;obtain⟨z,hz⟩:∃z,z=(w.alloc (.cells #[.bool fr.strict,vI fr.vars] 63)).alloc (.cells #[vI 0,vI 0,.string ⟨#[]⟩] 55):=⟨_,rfl⟩
 revert aI lf lr z hz;exact HQ_.o):G:=i (Lib.hid h)
theorem SE{P G:Prop}(h:P)(i:RowKit.Hid P->G:=by
 intro HQ_;have fS:Inv s1 (d+1):=Pw
 have dP:Ext s s1:=by rw[aG];exact(Inv.turn (d:=0) (d':=0) (k:=s.steps+1) (c:=s.calls) (v:=s.last) hI O' O' hI.calls hI.last O').2
 have eC:s1.steps=s.steps+1:=by rw[aG]
 revert fS dP eC;exact HQ_.o):G:=i (Lib.hid h)
theorem ta{P G:Prop}(h:P)(i:RowKit.Hid P->G:=by
 intro HQ_;refine Z6 (λK hK=>?_);go_simp
 refine hK _ _ ((Zb de).trans m3) ?_;clear hK K;refine Z6 (λK hK=>?_);revert K hK;exact HQ_.o):G:=i (Lib.hid h)
theorem V8{P G:Prop}(h:P)(i:RowKit.Hid P->G:=by
 intro HQ_;obtain⟨s4,jb⟩:∃s4,s4=s3.object (3+(n0:Int)):=⟨_,rfl⟩
 have hob:=λW (hB:Below w4.heap.size w4 W)=>Z86 (aQ.below hB).heap (3+(n0:Int)) (by have:=qJ.lens.2.2.2.1;omega);obtain⟨nO,hnO⟩:∃nO:Int,nO=s3.H.objects.length:=⟨_,rfl⟩
 revert s4 jb hob nO hnO;exact HQ_.o):G:=i (Lib.hid h)
theorem V4{P G:Prop}(h:P)(i:RowKit.Hid P->G:=by
 intro HQ_;refine oi [(true,0),(true,1),(true,2),(true,3),(true,4),(true,5),(true,6),(true,7),(true,8),(true,9),(true,10),(true,11),(true,12),(true,13),(true,14),(true,15),(false,16),(true,17),(true,18),(false,19),(false,20)] [21,22,23] (λW=>vC W C.mb 9 cv∧vC W w.heap.size 0 (.bool false)∧vC W a.b 3 (.slice (some ⟨kg,0,none⟩) 2 kc)∧vC W kg 1 (vP body.b)) ⟨r9,jU,jV,jW⟩ (λbu=>?_);refine ep ?_;refine Z6 (λK hK=>?_);go_simp
 refine kZ.o.mono ?_;rintro e wq⟨rfl,qN⟩;revert bu K hK wq qN;exact HQ_.o):G:=i (Lib.hid h)
theorem pN{P G:Prop}(h:P)(i:RowKit.Hid P->G:=by
 intro HQ_;obtain⟨z,hz⟩:∃z,z=z0.setCell ⟨C.mb,5,none⟩ (vI (s.steps+1)):=⟨_,rfl⟩
 revert z hz;exact HQ_.o):G:=i (Lib.hid h)
theorem R7{P G:Prop}(h:P)(i:RowKit.Hid P->G:=by
 intro HQ_;have q0:=MT.scan.c0;have q1:=MT.scan.c1;have t0:=MT.cell 0 rfl;have t1:=MT.cell 1 rfl;have t2:=MT.cell 2 rfl;have t3:=MT.cell 3 rfl;have z0:=MT.fz 0;have z1:=MT.fz 1;have z2:=MT.fz 2;have z3:=MT.fz 3;have zs:=MT.scan.fz 1;have eN:=MT.lt;have cW:=MT.tlt;have cf:=MT.scan.lt;have MT:=lh MT;revert q0 q1 t0 t1 t2 t3 z0 z1 z2 z3 zs eN cW cf MT;exact HQ_.o):G:=i (Lib.hid h)
theorem TA{P G:Prop}(h:P)(i:RowKit.Hid P->G:=by
 intro HQ_;have ae:=λw1 (hh:HeapAt ρ w1 hb ho L H) j x=>Md (f:=LBind.cells) (m:=6) (λ_=>rfl) (hh.scp m s hm).2 (g:=g) Pv (i:=k) (j:=j) (x:=x) hp;have bz:=λw1 (hh:HeapAt ρ w1 hb ho L H) j=>Tb (hh.scp m s hm).2 (g:=g) Pv j;have HF:=lh ap;have HR:=lh ae;have HZ:=lh bz;have bB:=lh (λw1 (hh:HeapAt ρ w1 hb ho L H)=>WP hh m s hm name);revert ae bz HF HR HZ bB;exact HQ_.o):G:=i (Lib.hid h)
theorem Si{P G:Prop}(h:P)(i:RowKit.Hid P->G:=by
 intro HQ_;have lP:=cF.mbLt;have r9:=cF.rcell 3 Pa;have fh:=cF.rows 3 Pa;obtain⟨cv,fD⟩:∃cv,cv=M0.row 3:=⟨_,rfl⟩
 obtain⟨xs,cI⟩:∃xs,xs=nc so M0.cl 3:=⟨_,rfl⟩
 obtain⟨n0,hn0⟩:∃n0,n0=M0.cl.length:=⟨_,rfl⟩
 revert lP r9 fh cv fD xs cI n0 hn0;exact HQ_.o):G:=i (Lib.hid h)
theorem NS{P G:Prop}(h:P)(i:RowKit.Hid P->G:=by
 intro HQ_;have hR:yk (x4 V D (a.nt C.N) sc fr) s=x4 V D (a.nt C.N) sc fr s1:=by
  unfold yk;rw[if_neg O',aG]
 obtain⟨R,aS⟩:∃R,R=yk (x4 V D (a.nt C.N) sc fr) s:=⟨_,rfl⟩
 revert hR R aS;exact HQ_.o):G:=i (Lib.hid h)
theorem VY{P G:Prop}(h:P)(i:RowKit.Hid P->G:=by
 intro HQ_;refine step_append_lies _ Po (.tmp 32) (.tmp 47) 53 Po 0 119 i0 _ 3 24 Tryz.underlying53 hi aD bo bT rfl Pa cv n0 xs Po ((oM.o.alloc _).drew) ⟨w2.heap.size,0,none⟩ 1 1 [vP a.b,vI nx,.bool (Zj body)] Po rfl (World.news_of_block (cs:=#[vP a.b,vI nx,.bool (Zj body)]) (t:=119) (fr:=(0,0)) (heap_alloc_new w2 _)) Rf Pa Pc O' O' (w2.heap.size+1) Pg ?_;exact HQ_.o):G:=i (Lib.hid h)
theorem Ue{P G:Prop}(h:P)(i:RowKit.Hid P->G:=by
 intro HQ_;have dJ:=eM.nodup;simp only[ATree.blocks,List.nodup_cons,List.mem_append,Option.mem_toList,not_or]at dJ;revert dJ;exact HQ_.o):G:=i (Lib.hid h)
theorem VE{P G:Prop}(h:P)(i:RowKit.Hid P->G:=by
 intro HQ_;refine step_append_lies _ Po (.tmp 32) (.tmp 47) 53 Po 0 119 i0 _ 3 24 Tryz.underlying53 hi aD bo bT rfl Pa cv n0 xs Po ((oM.o.alloc _).drew) ⟨w2.heap.size,0,none⟩ 1 1 [vP a.b,vI nx,.bool (true)] Po rfl (World.news_of_block (cs:=#[vP a.b,vI nx,.bool (true)]) (t:=119) (fr:=(0,0)) (heap_alloc_new w2 _)) Rf Pa Pc O' O' (w2.heap.size+1) Pg ?_;exact HQ_.o):G:=i (Lib.hid h)
theorem RI{P G:Prop}(h:P)(i:RowKit.Hid P->G:=by
 intro HQ_;have d3:=(eJ.cell (p:=⟨a.b,3,none⟩) aJ.lt).trans c3;have d0:=(eJ.cell (p:=⟨a.b,0,none⟩) aJ.lt).trans aJ.c0;have d1:=(eJ.cell (p:=⟨a.b,1,none⟩) aJ.lt).trans aJ.c1;obtain⟨f0,f1⟩:=(lf.fr (.of_below eJ)).two;revert d3 d0 d1 f0 f1;exact HQ_.o):G:=i (Lib.hid h)
theorem Vg{P G:Prop}(h:P)(i:RowKit.Hid P->G:=by
 intro HQ_;obtain⟨b0,b1,b2,-,-,-⟩:=oO.o.six;have eV:=pd.o.fr bE.o;obtain⟨q0,q1,q2,z0,pe,z2⟩:=eV.six;have j0:=lh ((eV.fr (.drew (.refl _ _))).fill (x':=(vI k3)) (y':=(vI n3)) (z':=.string t3) dq.o.drew ((bH.o.trans bE.o).trans (.drew (.refl _ _))) eV.late);clear eV;refine uY (.take 0 (.take 1 (.take 2 (.take 3 (.go 4 (.go 5 .nil)))))) 4 (λW=>vC W p2 0 (vI k3)∧vC W p2 1 (vI n3)∧vC W p2 2 (.string t3)) ⟨b0,b1,b2⟩ ?_;refine lM ?_
 revert b0 b1 b2 q0 q1 q2 z0 pe z2 j0;exact HQ_.o):G:=i (Lib.hid h)
theorem Dy{P G:Prop}(h:P)(i:RowKit.Hid P->G:=by
 intro HQ_;obtain⟨w2,cw⟩:∃w2,w2=((w.alloc (.cells #[.bool st,.bool ins] 91)).alloc (.cells #[vP a.b] 22)):=⟨_,rfl⟩
 revert w2 cw;exact HQ_.o):G:=i (Lib.hid h)
theorem XB{P G:Prop}(h:P)(i:RowKit.Hid P->G:=by
 intro HQ_;have pg:=Z1 W6 (.cells #[vI 6,.string ⟨#[]⟩,vI 0,.slice pb qb cb] 42);obtain⟨W7,oP⟩:∃W7,W7=W6.alloc (.cells #[vI 6,.string ⟨#[]⟩,vI 0,.slice pb qb cb] 42):=⟨_,rfl⟩
 have xi:TreeAt W7 z.heap.size (.mk W6.heap.size (.slice pb qb cb) 6 ⟨#[]⟩ 0 a.kids):=by
  have hr:=(ml.o.bel pg).rowOf;rw[co]at hr;rw[oP];exact .mk (heap_alloc_new W6 _) (by have:=ml.o.lt;have:=ml.o.le;omega) hr (λk hk=>(ml.o.bel pg).kid hk)
 have mm:(ATree.mk W6.heap.size (.slice pb qb cb) 6 ⟨#[]⟩ 0 a.kids).many<274877906944:=by
  have h1:(ATree.mk W6.heap.size (.slice pb qb cb) 6 ⟨#[]⟩ 0 a.kids).many=a.many:=by
   obtain⟨b',v',k',t',n',ks'⟩:=a;rfl
  rw[h1];have:=iu.o.2.2.1;omega
 have hnm:=Z9v true W7 z.heap.size _ xi mm;have aK:FR true (.mk W6.heap.size (.slice pb qb cb) 6 ⟨#[]⟩ 0 a.kids)=FR true a:=by
  rw[<-Z92 (N:=C.N),<-Z92 (N:=C.N)];obtain⟨b',v',k',t',n',ks'⟩:=a;rfl
 revert pg W7 oP xi mm hnm aK;exact HQ_.o):G:=i (Lib.hid h)
theorem Ua{P G:Prop}(h:P)(i:RowKit.Hid P->G:=by
 intro HQ_;have cM:=h.hbLt;have dj:=getElem?_lt hm;have ba:=getElem?_lt hp;have h1:=h.below ((Below.refl _ _).alloc (Nat.le_refl _) (.cells #[vI vk,vI vn,.string vs] 55));have hob:H.scope? (m:Int)=some s:=by simp[LHeap.scope?,hm]
 have cS:H.has (m:Int) name=true:=by rw[has_eq hob,if_pos aV,hk];rfl
 have HC:=lh (Tg h1 (m:Int) name);revert cM dj ba h1 hob cS HC;exact HQ_.o):G:=i (Lib.hid h)
theorem Vy{P G:Prop}(h:P)(i:RowKit.Hid P->G:=by
 intro HQ_;have ae:=λw1 (hh:HeapAt ρ w1 hb ho L H) j x=>Md (f:=LBind.cells) (m:=6) (λ_=>rfl) (hh.scp m s hm).2 (g:=g) Pv (i:=k) (j:=j) (x:=x) hp;revert ae;exact HQ_.o):G:=i (Lib.hid h)
theorem sJ{P G:Prop}(h:P)(i:RowKit.Hid P->G:=by
 intro HQ_;have ac:=eM.at'.blkOf;simp only[ATree.b,ATree.v,ATree.kind,ATree.text,ATree.n]at ac;revert ac;exact HQ_.o):G:=i (Lib.hid h)
theorem YY{P G:Prop}(h:P)(i:RowKit.Hid P->G:=by
 intro HQ_;have c0:wr.cell? ⟨g,k*6,none⟩=some (.string bn):=(hB.cell (p:=⟨g,k*6,none⟩) hg).trans (hc k 0 _ _ ed rfl);have c1:wr.cell? ⟨g,k*6+1,none⟩=some (vI bk):=(hB.cell (p:=⟨g,k*6+1,none⟩) hg).trans (hc k 1 _ _ ed rfl);have c2:wr.cell? ⟨g,k*6+2,none⟩=some (vI bm):=(hB.cell (p:=⟨g,k*6+2,none⟩) hg).trans (hc k 2 _ _ ed rfl);have c3:wr.cell? ⟨g,k*6+3,none⟩=some (.string bs):=(hB.cell (p:=⟨g,k*6+3,none⟩) hg).trans (hc k 3 _ _ ed rfl)
 have c4:wr.cell? ⟨g,k*6+4,none⟩=some (vI mn):=(hB.cell (p:=⟨g,k*6+4,none⟩) hg).trans (hc k 4 _ _ ed rfl);have c5:wr.cell? ⟨g,k*6+5,none⟩=some (.bool kn):=(hB.cell (p:=⟨g,k*6+5,none⟩) hg).trans (hc k 5 _ _ ed rfl);have mp:wr.cell? bx=some (.string name):=(hB.cell hb).trans hx;have dB:bx.block<wr.heap.size:=Nat.lt_of_lt_of_le hb hB.size;revert c0 c1 c2 c3 c4 c5 mp dB;exact HQ_.o):G:=i (Lib.hid h)
theorem SG{P G:Prop}(h:P)(i:RowKit.Hid P->G:=by
 intro HQ_;have h1:=h.below ((Below.refl _ _).alloc (Nat.le_refl _) (.cells #[vI vk,vI vn,.string vs] 55));have cE:Below w.heap.size w (w.alloc (.cells #[vI vk,vI vn,.string vs] 55)):=(Below.refl _ _).alloc (Nat.le_refl _) _;revert h1 cE;exact HQ_.o):G:=i (Lib.hid h)
theorem XQ{P G:Prop}(h:P)(i:RowKit.Hid P->G:=by
 intro HQ_;obtain⟨q0,q1,q2,yh,pe,rG⟩:=(oQ.o.fr F0).six;obtain⟨g1,g2,g3,g4⟩:=(oQ.o.fr F0).fill (x':=(vI k1)) (y':=(vI n1)) (z':=.string t1) ai.1 ((MFr.of_below nN.o).trans F0) oQ.o.late;have jD:=lh g1;have ei:=lh g2;have pi:=lh g3;have qO:=lh (show match r1.2 with
  | .ok v=>v=⟨k1,n1,t1⟩∧bU=.nilIface
  | .error x=>ak C M1 (((W0.setCell ⟨w.heap.size+1+1+1,0,none⟩ (vI k1)).setCell ⟨w.heap.size+1+1+1,1,none⟩ (vI n1)).setCell ⟨w.heap.size+1+1+1,2,none⟩ (.string t1)) x bU by
  have h3:=ai.2.2;rcases hr:r1.2 with x|v;·rw[hr]at h3;exact g4 _ _ h3
  .rw[hr]at h3;exact h3)
 clear g1 g2 g3 g4;simp only[ag];try simp only[Act.put,zA,zB,zC]
 refine lM ?_;refine AR (λK hK=>?_);refine hK _ _ ?_;clear hK K;refine AR (λK hK=>?_);refine hK _ _ (D2 ?_);clear hK K q0 q1 q2 yh pe rG;revert jD ei pi qO;exact HQ_.o):G:=i (Lib.hid h)
theorem RJ{P G:Prop}(h:P)(i:RowKit.Hid P->G:=by
 intro HQ_;have m4:vC w4 nb 3 (.slice p kids.length cp):=(aC.cell_far ⟨nb,3,none⟩ Pe (λe=>NE.o e.symm)).trans ((Zb de).trans m3);revert m4;exact HQ_.o):G:=i (Lib.hid h)
theorem X5{P G:Prop}(h:P)(i:RowKit.Hid P->G:=by
 intro HQ_;have ap:∀W M',MFr M M' z W->vC W w.heap.size 0 (.bool fr.strict)∧vC W w.heap.size 1 (vI fr.vars)∧vC W a.b 0 (vI a.kind)∧vC W a.b 3 (.slice (some ⟨kg,0,none⟩) 2 kc)∧vC W kg 0 (vP x.b)∧vC W kg 1 (vP y.b):=λW M' f=>⟨(lf.fr f).cell rfl,(lf.fr f).cell rfl,(f.tree aJ bz).1.c0,(f.cell aJ.lt bz.blk).trans c3,(f.cell ba eU).trans k0,(f.cell ba eU).trans k1⟩
 obtain⟨r1,bA⟩:∃r1,r1=V (x.nt C.N) sc fr s1:=⟨_,rfl⟩
 have bF:=lh (cA.from aE fS (hA.ext dP) ai jc wx mx (aJ.kid ee) (bz.kid ee));have aj:=(hV (x.nt C.N) sc fr s1 _ wx mx fS (hA.ext dP) ai jc).1;revert ap r1 bA bF aj;exact HQ_.o):G:=i (Lib.hid h)
theorem YP{P G:Prop}(h:P)(i:RowKit.Hid P->G:=by
 intro HQ_;have aN:L.sb m<w1.heap.size:=(Array.getElem?_eq_some_iff.1 ac).1;have d2:vC w1 (L.sb m) 2 nv:=Pd
 have kL:w1.frozen? ⟨L.sb m,2,none⟩=false:=PK
 have pj:nv.ownBlock≠some (L.sb m):=λe=>by
  rw[j6]at e;have h1:=fj.rnv m _ (getElem?_lt HM.o) e;rw[fj.rsb m (getElem?_lt HM.o)]at h1;cases h1
 have eW:=lh fj;have qP:=lh ac;have HO:=lh af;have HN:=lh j6;have te:=lh pj;have av:=lh dx;clear pj;have qQ:Hid (nv.ownBlock≠some w.heap.size):=λe=>by
  have h1:=eW.o.rnv m w.heap.size (getElem?_lt HM.o) (by rw[<-HN.o];exact e);have h2:=HH.o.rnv m w.heap.size (getElem?_lt HM.o) (by rw[<-HN.o];exact e);have h3:=h2.symm.trans h1;exact absurd (fy w.heap.size (by rw[h2];simp)) O'
 revert aN d2 kL eW qP HO HN te av qQ;exact HQ_.o):G:=i (Lib.hid h)
theorem VX{P G:Prop}(h:P)(i:RowKit.Hid P->G:=by
 intro HQ_;have nf:(a.kids.filter wW).length<=a.kids.length:=List.length_filter_le _ _;have dG:(a.kids.filter wH).length<=a.kids.length:=List.length_filter_le _ _;have tf:∀x,x∈a.kids.filter wW->x∈a.kids:=λx hx=>(List.mem_filter.1 hx).1;have eV:∀x,x∈a.kids.filter wH->x∈a.kids:=λx hx=>(List.mem_filter.1 hx).1;have qR:=lh tf;have jv:=lh eV;revert nf dG tf eV qR jv;exact HQ_.o):G:=i (Lib.hid h)
theorem VR{P G:Prop}(h:P)(i:RowKit.Hid P->G:=by
 intro HQ_;refine oi [(true,0),(false,1)] [2,3] (λW=>vC W (w.heap.size+1+1) 0 (vI 0)∧vC W (w.heap.size+1+1) 1 (vI 0)∧vC W (w.heap.size+1+1) 2 (.string ⟨#[]⟩)) ⟨m0,m1,m2⟩ (λbu=>?_);refine ep ?_;refine Z6 (λK hK=>?_);go_simp
 refine HP.o.mono ?_;rintro e W3⟨fg,rfl,ko,aB⟩;revert bu K hK W3 fg ko aB;exact HQ_.o):G:=i (Lib.hid h)
theorem Xt{P G:Prop}(h:P)(i:RowKit.Hid P->G:=by
 intro HQ_;intro gg cap w2 aM ay ch iq;have cR:∀b o,b<w1.heap.size->nv.ownBlock≠some b->w2.cell? ⟨b,o,none⟩=w1.cell? ⟨b,o,none⟩:=λb o ai ax=>(ay.cell_far ⟨b,o,none⟩ Pe (λe=>ax e.symm)).trans (Zb ai);have rH:w2.frozen? ⟨L.sb m,2,none⟩=false:=(ay.frozen_far ⟨L.sb m,2,none⟩ Pe (λe=>te.o e.symm)).trans ((RH aN).trans kL);have e2:=(cR _ 2 aN te.o).trans d2;refine hK _ _ ⟨e2,(cR _ 0 hs qQ.o).trans q0,(cR _ 1 hs qQ.o).trans q1,(cR _ 2 hs qQ.o).trans q2⟩ ?_
 simp only[Act.put,zA,zB,zC];have HG:=lh ay;have HW:=lh aM;have HT:=lh ch;have uE:=lh iq;clear ay aM ch iq cR;refine Z0 ?_;revert gg cap w2 rH e2 HG HW HT uE;exact HQ_.o):G:=i (Lib.hid h)
theorem Te{P G:Prop}(h:P)(i:RowKit.Hid P->G:=by
 intro HQ_;have mq:=(au.cell (p:=⟨w.heap.size,0,none⟩) hs).trans q0;have jw:=(au.cell (p:=⟨w.heap.size,1,none⟩) hs).trans q1;have nS:=(au.cell (p:=⟨w.heap.size,2,none⟩) hs).trans q2;revert mq jw nS;exact HQ_.o):G:=i (Lib.hid h)
theorem Ht{P G:Prop}(h:P)(i:RowKit.Hid P->G:=by
 intro HQ_;obtain⟨q,cT⟩:∃q,q=P.length:=⟨_,rfl⟩
 have ng:q<=9223372036854775807:=Qn
 revert q cT ng;exact HQ_.o):G:=i (Lib.hid h)
theorem TW{P G:Prop}(h:P)(i:RowKit.Hid P->G:=by
 intro HQ_;have aj:=Got.push aA HP.o.le N3.o (wA:=wf.drew) NA.o A3.o jd.o R3.o ((Below.refl _ _).alloc (Nat.le_refl _) _) aC aT Pk cg;have ca:=lh aj;clear aj;refine Z0 ?_;revert ca;exact HQ_.o):G:=i (Lib.hid h)
theorem U0{P G:Prop}(h:P)(i:RowKit.Hid P->G:=by
 intro HQ_;intro W6 p6 M6 la;have F6:=aZ.o.trans la.2.1;obtain⟨u0,u1,-,-,-⟩:=HS.o W6 M6 F6;obtain⟨q0,q1,q2,z0,z1,z2⟩:=(ar.o.fr F6).six;obtain⟨p0,p1,p2,-,-,-⟩:=la.2.2.six;have jX:=lh la;have mh:=lh F6;clear la F6;revert W6 p6 M6 u0 u1 q0 q1 q2 z0 z1 z2 p0 p1 p2 jX mh;exact HQ_.o):G:=i (Lib.hid h)
theorem U8{P G:Prop}(h:P)(i:RowKit.Hid P->G:=by
 intro HQ_;refine oi [(true,0),(true,1),(true,2),(true,3),(true,4),(true,5)] [6,7] (λW=>vC W w.heap.size 0 (vI vk)∧vC W w.heap.size 1 (vI vn)∧vC W w.heap.size 2 (.string vt)) (HS.o _ _ (.drew (.of_below av.o))) (λbu=>?_);refine ep ?_;refine Z0 ?_;revert bu;exact HQ_.o):G:=i (Lib.hid h)
theorem Ud{P G:Prop}(h:P)(i:RowKit.Hid P->G:=by
 intro HQ_;have q0:=M4.scan.c0;have q1:=M4.scan.c1;have t0:=M4.cell 0 rfl;have t1:=M4.cell 1 rfl;have t2:=M4.cell 2 rfl;have t3:=M4.cell 3 rfl;have z0:=M4.fz 0;have z1:=M4.fz 1;have z2:=M4.fz 2;have z3:=M4.fz 3;have zs:=M4.scan.fz 1;have eN:=M4.lt;have cW:=M4.tlt;have cf:=M4.scan.lt;revert q0 q1 t0 t1 t2 t3 z0 z1 z2 z3 zs eN cW cf;exact HQ_.o):G:=i (Lib.hid h)
theorem Vv{P G:Prop}(h:P)(i:RowKit.Hid P->G:=by
 intro HQ_;have hb:∀o,Below (w.setCell ⟨rb,0,none⟩ (.slice (some ⟨tb,off+4,none⟩) (n-1) (cap-1))).heap.size (w.setCell ⟨rb,0,none⟩ (.slice (some ⟨tb,off+4,none⟩) (n-1) (cap-1))) ((w.setCell ⟨rb,0,none⟩ (.slice (some ⟨tb,off+4,none⟩) (n-1) (cap-1))).alloc o):=λo=>(Below.refl _ _).alloc (Nat.le_refl _) o;revert hb;exact HQ_.o):G:=i (Lib.hid h)
theorem B'{P G:Prop}(h:P)(i:RowKit.Hid P->G:=by
 intro HQ_;obtain⟨q0,q1,q3,s0,s1,cH,eK⟩:=an w2 (Below.refl _ _);have cU:=lh an;have fH:=lh cw;have eX:=lh cH;have gr:=lh eK;revert q0 q1 q3 s0 s1 cH eK cU fH eX gr;exact HQ_.o):G:=i (Lib.hid h)
theorem Sc{P G:Prop}(h:P)(i:RowKit.Hid P->G:=by
 intro HQ_;have lN:=lh (show zv=_ from ff.trans (by rw[hz,aD]));have oQ:=lh dR;have nN:=lh eJ;have oI:=lh (aE.below eJ);have lO:=lh (MFr.of_below (M:=M) eJ);revert lN oQ nN oI lO;exact HQ_.o):G:=i (Lib.hid h)
theorem Aab{P G:Prop}(h:P)(i:RowKit.Hid P->G:=by
 intro HQ_;refine uY (.take 0 (.take 1 (.take 2 (.take 3 (.take 4 (.take 5 (.take 6 (.take 7 (.take 8 (.two 9 (.take 10 (.take 11 (.take 12 (.take 13 (.go 14 (.go 15 (.go 16 (.go 17 (.nil))))))))) 14 (.go 9 (.take 10 (.take 11 (.take 12 (.take 13 (.go 15 (.go 16 (.go 17 (.nil))))))))))))))))))) 16 (λW=>vC W w.heap.size 0 (.bool fr.strict)∧vC W w.heap.size 1 (vI fr.vars)∧vC W x.b 3 (.slice (some ⟨xg,0,none⟩) 1 xc)∧vC W xg 0 (vP y.b)) (cD.o _ _ (MFr.drew (.refl _ _))) ?_
 refine lM ?_;refine Zt ?_;exact HQ_.o):G:=i (Lib.hid h)
theorem SN{P G:Prop}(h:P)(i:RowKit.Hid P->G:=by
 intro HQ_;refine HC.o.mono ?_;rintro e w1⟨rfl,hB⟩;obtain⟨q0,q1,q2,f0,f1,f2,hs,dx⟩:=WI hB;have fj:=HH.o.below hB;obtain⟨d0,d1,d2⟩:=HF.o w1 fj;have eW:=lh fj;have HB:=lh dx;clear hB dx fj;revert w1 q0 q1 q2 f0 f1 f2 hs d0 d1 d2 eW HB;exact HQ_.o):G:=i (Lib.hid h)
theorem Xh{P G:Prop}(h:P)(i:RowKit.Hid P->G:=by
 intro HQ_;refine oi [(true,0),(true,1),(true,2),(true,3),(true,4),(true,5),(true,6),(true,7),(true,8),(true,9),(true,10),(true,11),(true,12),(true,13)] [14,15,16] (λW=>vC W w.heap.size 0 (.bool fr.strict)∧vC W w.heap.size 1 (vI fr.vars)∧vC W a.b 3 (.slice (some ⟨kg,0,none⟩) 1 kc)∧vC W kg 0 (vP o.b)∧vC W o.b 0 (vI o.kind)∧vC W o.b 1 (.string o.text)) (HS.o _ _ (.drew (.refl _ _))) (λbu=>?_)
 refine ep ?_;refine Z0 ?_;revert bu;exact HQ_.o):G:=i (Lib.hid h)
theorem KC{P G:Prop}(h:P)(i:RowKit.Hid P->G:=by
 intro HQ_;obtain⟨zv,ff⟩:∃zv,zv=z.alloc (.cells #[vI 0,vI 0,.string ⟨#[]⟩] 55):=⟨_,rfl⟩
 revert zv ff;exact HQ_.o):G:=i (Lib.hid h)
theorem Yz{P G:Prop}(h:P)(i:RowKit.Hid P->G:=by
 intro HQ_;refine step_append_lies _ Po (.tmp 37) (.tmp 42) 40 Po B 22 i0 _ 1 8 Tryz.underlying40 hi aD bo bT rfl Pa v kids.length (kids.map ATree.ptr) Po (N3.o.at'.rowOf.alloc _) ⟨w3.heap.size,0,none⟩ 1 1 [a.ptr] Po rfl (World.news_of_block (cs:=#[a.ptr]) (t:=22) (fr:=(0,0)) (heap_alloc_new w3 _)) Pq Pa Pc O' PW (w3.heap.size+1) Pg ?_;intro gg cap w4 aT aC bX cg
 have m4:vC w4 nb 3 v:=(aC.cell_far ⟨nb,3,none⟩ Pe (λe=>NE.o e.symm)).trans ((Zb de).trans m3);revert gg cap w4 aT aC bX cg m4;exact HQ_.o):G:=i (Lib.hid h)
theorem Wl{P G:Prop}(h:P)(i:RowKit.Hid P->G:=by
 intro HQ_;obtain⟨i1,x1,-,ey,i2⟩:=bR.o;have F1:=ai.1.2.1;have ef:=ai.1.1;have ty:=F1.tree po.o oR.o;have hst:=Int.le_trans HB.o x1.steps;obtain⟨r2,hr2⟩:∃r2,r2=V (y.nt C.N) sc fr s2:=⟨_,rfl⟩
 have bS:=lh (oS.o.from ef i1 (ii.o.ext x1) hst i2 wy my ty.1 ty.2);have bC:=lh (HV.o (y.nt C.N) sc fr s2 _ wy my i1 (ii.o.ext x1) hst i2).1;revert i1 x1 ey i2 F1 ef ty hst r2 hr2 bS bC;exact HQ_.o):G:=i (Lib.hid h)
theorem S5{P G:Prop}(h:P)(i:RowKit.Hid P->G:=by
 intro HQ_;refine Z6 (λK hK=>?_);go_simp
 have ai:Below w7.heap.size w7 (w7.alloc (.cells #[vP x.b] 22)):=(Below.refl _ _).alloc (Nat.le_refl _) _;revert K hK ai;exact HQ_.o):G:=i (Lib.hid h)
theorem Vb{P G:Prop}(h:P)(i:RowKit.Hid P->G:=by
 intro HQ_;refine oi [(true,0),(true,1),(true,2),(true,3),(true,4),(true,5),(true,6),(true,7),(true,8)] [9,10] (λW=>vC W p1 1 (vI n1)∧vC W a.b 1 (.string a.text)) (iW.o _ _ (.drew (.refl _ _))) (λbu=>?_);refine ep ?_;refine Z0 ?_;revert bu;exact HQ_.o):G:=i (Lib.hid h)
theorem NP{P G:Prop}(h:P)(i:RowKit.Hid P->G:=by
 intro HQ_;have cx:=Zn ae (g:=g0) (by rw[fG];rfl) (i:=k) (x:=x.ptr) (by rw[List.getElem?_map,hx];rfl);revert cx;exact HQ_.o):G:=i (Lib.hid h)
theorem ZQ{P G:Prop}(h:P)(i:RowKit.Hid P->G:=by
 intro HQ_;have bC:=lh aj;have HR:=lh hR
 have cD:=lh (show∀W M',MFr Mk M' z1 W->vC W w.heap.size 0 (.bool fr.strict)∧vC W w.heap.size 1 (vI fr.vars)∧vC W x.b 3 (.slice (some ⟨xg,0,none⟩) 1 xc)∧vC W xg 0 (vP y.b)from
  λW M' f=>have g:=(MFr.of_below (M:=Mk) aL).trans f;⟨(dH.o.fr (bH.o.trans g)).cell rfl,(dH.o.fr (bH.o.trans g)).cell rfl,(g.cell eY.o.1.lt eY.o.2.blk).trans kp,(g.cell jx f8).trans uF⟩)
 have av:=lh aL;revert bC HR cD av;exact HQ_.o):G:=i (Lib.hid h)
theorem VW{P G:Prop}(h:P)(i:RowKit.Hid P->G:=by
 intro HQ_;have HC:=lh (UV w3 rb B _ d _ _ P3.o.rd (by have:=P3.o.deep;omega) aA hv λhd h1 w4 hR hs=>HS.o w4 rb B (d+1) _ _ ⟨hR,hd,aA,by have:=P3.o.le;omega,P3.o.few⟩ h1);have kq:=lh (Nat.le_of_lt (Leaves.within (Ut f .stmt (d+1) _) ty us hv));have uG:=lh oT;revert HC kq uG;exact HQ_.o):G:=i (Lib.hid h)
theorem Xl{P G:Prop}(h:P)(i:RowKit.Hid P->G:=by
 intro HQ_;refine ep ?_;refine Z6 (λK hK=>?_);go_simp
 refine(bS.o _ (Ze _)).mono ?_;rintro e W3⟨M3,b3,k3,n3,t3,fg,rfl,aX⟩;have F3:=(MFr.drew (.refl M1 W2)).trans aX.2.1;refine hK _ _ (oU.o _ _ F3) ?_;clear hK K;have bP:=lh aX;have bE:=lh (aZ.o.trans F3);clear aX F3;simp only[ag];refine ep ?_;refine Z0 ?_;revert W3 M3 b3 k3 n3 t3 fg bP bE;exact HQ_.o):G:=i (Lib.hid h)
theorem s5{P G:Prop}(h:P)(i:RowKit.Hid P->G:=by
 intro HQ_;refine hK _ _ m3 ?_;obtain⟨i0,hi,aD,bo,bT⟩:=info_parts Tryz.infoPtr;revert i0 hi aD bo bT;exact HQ_.o):G:=i (Lib.hid h)
theorem ZY{P G:Prop}(h:P)(i:RowKit.Hid P->G:=by
 intro HQ_;refine step_append_lies _ Po (.tmp 34) (.tmp 41) 40 Po B 22 i0 _ 1 8 Tryz.underlying40 hi aD bo bT rfl Pa (.slice p kids.length cp) (kids).length ((kids).map ATree.ptr) Po (N3.o.at'.rowOf.alloc _) ⟨dD.heap.size,0,none⟩ 1 1 [a.ptr] Po rfl (World.news_of_block (cs:=#[a.ptr]) (t:=22) (fr:=(0,0)) (heap_alloc_new dD _)) Pq Pa Pc O' Pp (dD.heap.size+1) Pg ?_;exact HQ_.o):G:=i (Lib.hid h)
theorem Aaf{P G:Prop}(h:P)(i:RowKit.Hid P->G:=by
 intro HQ_;refine step_append_lies _ Po (.tmp 35) (.tmp 40) 40 Po B 22 i0 _ 1 8 Tryz.underlying40 hi aD bo bT rfl Pa (.slice p kids.length cp) kids.length (kids.map ATree.ptr) Po (N3.o.at'.rowOf.alloc _) ⟨dD.heap.size,0,none⟩ 1 1 [a.ptr] Po rfl (World.news_of_block (cs:=#[a.ptr]) (t:=22) (fr:=(0,0)) (heap_alloc_new dD _)) Pq Pa Pc O' Pp (dD.heap.size+1) Pg ?_;exact HQ_.o):G:=i (Lib.hid h)
theorem Aae{P G:Prop}(h:P)(i:RowKit.Hid P->G:=by
 intro HQ_;refine step_append_lies _ Po (.tmp 47) (.tmp 50) 40 Po B 22 i0 _ 1 8 Tryz.underlying40 hi aD bo bT rfl Pa (.slice p kids.length cp) (kids).length ((kids).map ATree.ptr) Po (N3.o.at'.rowOf.alloc _) ⟨w3.heap.size,0,none⟩ 1 1 [a.ptr] Po rfl (World.news_of_block (cs:=#[a.ptr]) (t:=22) (fr:=(0,0)) (heap_alloc_new w3 _)) Pq Pa Pc O' PW (w3.heap.size+1) Pg ?_;exact HQ_.o):G:=i (Lib.hid h)
theorem Xd{P G:Prop}(h:P)(i:RowKit.Hid P->G:=by
 intro HQ_;have ax:Below w7.heap.size w7 ((w7.alloc (.cells #[vP x.b] 22)).alloc (.cells #[vI 14,.string ⟨#[]⟩,vI 0,.slice (some ⟨w7.heap.size,0,none⟩) 1 1] 42)):=ai.alloc Pg _;refine(Zv (w7.alloc (.cells #[vP x.b] 22)) rb 14 ⟨#[]⟩ (some ⟨w7.heap.size,0,none⟩) 1 1).mono ?_;rintro e dD⟨rfl,dl⟩;have hA:Got wf.drew B dD (.mk (w7.heap.size+1) (.slice (some ⟨w7.heap.size,0,none⟩) 1 1) 14 ⟨#[]⟩ 0 [x]) (.mk 14 ⟨#[]⟩ 0 [t]):=Rr
 revert ax dD dl hA;exact HQ_.o):G:=i (Lib.hid h)
theorem U6{P G:Prop}(h:P)(i:RowKit.Hid P->G:=by
 intro HQ_;refine uY (.take 0 (.take 1 (.take 2 (.take 3 (.go 4 (.go 5 .nil)))))) 4 (λW=>vC W p2 0 (vI k2)∧vC W p2 1 (vI n2)∧vC W p2 2 (.string t2)) ⟨b0,b1,b2⟩ ?_;refine lM ?_;exact HQ_.o):G:=i (Lib.hid h)
theorem UZ{P G:Prop}(h:P)(i:RowKit.Hid P->G:=by
 intro HQ_;refine HC.o.mono ?_;rintro e w4⟨y,rfl,hY,hR,bh⟩;have mi:=X3.o.rfr aA bh;have kh:=F3.o.trans bh;have nT:Got w B w4 x t:=mi;have ai:Below w4.heap.size w4 (w4.alloc (.cells #[vP xb,vP y.b] 22)):=(Below.refl _ _).alloc (Nat.le_refl _) _;revert w4 y hY hR bh mi kh nT ai;exact HQ_.o):G:=i (Lib.hid h)
theorem ZS{P G:Prop}(h:P)(i:RowKit.Hid P->G:=by
 intro HQ_
 have pq:=lh (show∀(i:Nat) (u:LVal),vs[i]?=some u->∃g,pv=some ⟨g,0,none⟩∧∀M' W',MFr M1 M' W W'->W'.cell? ⟨g,i*3,none⟩=some (vI u.kind)∧W'.cell? ⟨g,i*3+1,none⟩=some (vI u.n)∧W'.cell? ⟨g,i*3+2,none⟩=some (.string u.s)from
  λi u hu=>by
   obtain⟨g,h1,h2,h3,a0,a1,a2⟩:=iL i u hu;exact⟨g,h1,λM' W' f=>⟨((hF.trans f).cell h2 h3).trans a0,((hF.trans f).cell h2 h3).trans a1,((hF.trans f).cell h2 h3).trans a2⟩⟩)
 revert pq;exact HQ_.o):G:=i (Lib.hid h)
theorem DX{P G:Prop}(h:P)(i:RowKit.Hid P->G:=by
 intro HQ_;have dH:=lh lf;have bJ:=lh aI;have HM:=lh aE;have HO:=lh h.old.size;have HE:=lh aI.size;revert dH bJ HM HO HE;exact HQ_.o):G:=i (Lib.hid h)
theorem Uo{P G:Prop}(h:P)(i:RowKit.Hid P->G:=by
 intro HQ_;obtain⟨r1,bA⟩:∃r1,r1=V (o.nt C.N) sc fr s:=⟨_,rfl⟩
 have bF:=lh (cA.from aE hI hA hb hs wo mo (aJ.kid iv) (hf.kid iv));have aj:=(hV (o.nt C.N) sc fr s _ wo mo hI hA hb hs).1;revert r1 bA bF aj;exact HQ_.o):G:=i (Lib.hid h)
theorem ZR{P G:Prop}(h:P)(i:RowKit.Hid P->G:=by
 intro HQ_;have ax:Below w7.heap.size w7 ((w7.alloc (.cells #[vP x.b] 22)).alloc (.cells #[vI 39,.string s,vI 0,.slice (some ⟨w7.heap.size,0,none⟩) 1 1] 42)):=ai.alloc Pg _;refine(Zv (w7.alloc (.cells #[vP x.b] 22)) rb 39 s (some ⟨w7.heap.size,0,none⟩) 1 1).mono ?_;rintro e dD⟨rfl,dl⟩;have hA:Got w6.drew B dD (.mk (w7.heap.size+1) (.slice (some ⟨w7.heap.size,0,none⟩) 1 1) 39 s 0 [x]) (.mk 39 s 0 [t]):=Rr
 revert ax dD dl hA;exact HQ_.o):G:=i (Lib.hid h)
theorem TJ{P G:Prop}(h:P)(i:RowKit.Hid P->G:=by
 intro HQ_;have jH:(w.alloc (.cells #[vI vk,vI vn,.string vs] 55)).cell? ⟨L.sb m,1,none⟩=some (vI s.object):=by have:=(h1.scp m s hm).1;simp[vC,World.cell?,this]
 revert jH;exact HQ_.o):G:=i (Lib.hid h)
theorem SY{P G:Prop}(h:P)(i:RowKit.Hid P->G:=by
 intro HQ_;have mz:w3.frozen? ⟨nb,3,none⟩=false:=PK
 have de:nb<w3.heap.size:=(Array.getElem?_eq_some_iff.1 ac).1;revert mz de;exact HQ_.o):G:=i (Lib.hid h)
theorem VM{P G:Prop}(h:P)(i:RowKit.Hid P->G:=by
 intro HQ_;refine HN.o.mono ?_;rintro e wn⟨rfl,jE⟩;have aX:Below w4.heap.size w4 wn:=by rw[jE];exact ai.alloc Pg _
 have be:(w4.alloc (.cells #[vP xb,vP y.b] 22)).heap.size=sb+1:=by rw[cJ.o];simp
 revert wn jE aX be;exact HQ_.o):G:=i (Lib.hid h)
theorem YV{P G:Prop}(h:P)(i:RowKit.Hid P->G:=by
 intro HQ_;have ap:∀W M',MFr M M' z W->vC W w.heap.size 0 (.bool fr.strict)∧vC W w.heap.size 1 (vI fr.vars)∧vC W a.b 3 (.slice (some ⟨kg,0,none⟩) 1 kc)∧vC W kg 0 (vP o.b):=λW M' f=>
  have g:MFr M M' w W:=(MFr.of_below aI).trans f;⟨(lf.fr f).cell rfl,(lf.fr f).cell rfl,(g.cell bY hf.blk).trans c3,(g.cell ba eU).trans k0⟩
 revert ap;exact HQ_.o):G:=i (Lib.hid h)
theorem Aak{P G:Prop}(h:P)(i:RowKit.Hid P->G:=by
 intro HQ_;refine oi [(true,0),(true,1),(true,2),(true,3),(true,4),(true,5),(true,6),(true,7),(true,8)] [9] (λW=>vC W (w.heap.size+1+1+1) 0 (vI k1)∧vC W (w.heap.size+1+1+1) 1 (vI n1)∧vC W (w.heap.size+1+1+1) 2 (.string t1)∧vC W a.b 1 (.string a.text)) (HS20.o _ _ (.drew (.refl _ _))) (λbu=>?_);refine ep ?_;refine Z0 ?_;revert bu;exact HQ_.o):G:=i (Lib.hid h)
theorem NU{P G:Prop}(h:P)(i:RowKit.Hid P->G:=by
 intro HQ_;obtain⟨q,hq⟩:∃q,q=a.kids.length:=⟨_,rfl⟩
 obtain⟨pp,cp,co,cr,eu,dc⟩:=jm.slice aJ.rowOf;revert q hq pp cp co cr eu dc;exact HQ_.o):G:=i (Lib.hid h)
theorem Wd{P G:Prop}(h:P)(i:RowKit.Hid P->G:=by
 intro HQ_;have aj:=Got.push aA HP.o.le N3.o (wA:=w6.drew) NA.o A3.o jd.o R3.o ((Below.refl _ _).alloc (Nat.le_refl _) _) aC aT Pk cg;have ca:=lh aj;clear aj;refine Z0 ?_;revert ca;exact HQ_.o):G:=i (Lib.hid h)
theorem SH{P G:Prop}(h:P)(i:RowKit.Hid P->G:=by
 intro HQ_;obtain⟨m0,m1,m2,-,-,-⟩:=(bQ.o.fr aZ.o).six;obtain⟨q0,q1,q2,z0,z1,z2⟩:=(ar.o.fr aZ.o).six;revert m0 m1 m2 q0 q1 q2 z0 z1 z2;exact HQ_.o):G:=i (Lib.hid h)
theorem NQ{P G:Prop}(h:P)(i:RowKit.Hid P->G:=by
 intro HQ_;have ac:=N.o.at'.blkOf;simp only[ATree.b,ATree.v,ATree.kind,ATree.text,ATree.n]at ac;revert ac;exact HQ_.o):G:=i (Lib.hid h)
theorem Vp{P G:Prop}(h:P)(i:RowKit.Hid P->G:=by
 intro HQ_;simp only[ag];refine ep ?_;refine Z0 ?_;obtain⟨q0,q1,q2,z0,z1,z2⟩:=(ar.o.fr bE.o).six;revert q0 q1 q2 z0 z1 z2;exact HQ_.o):G:=i (Lib.hid h)
theorem XP{P G:Prop}(h:P)(i:RowKit.Hid P->G:=by
 intro HQ_;refine oi [(true,0),(true,1),(true,2),(true,3),(true,4),(true,5),(true,6),(false,7),(true,8),(true,9),(true,10)] [11,12,13] (λW=>vC W w.heap.size 0 (.bool fr.strict)∧vC W w.heap.size 1 (vI fr.vars)∧vC W a.b 3 (.slice pp q cp)) (uH.o _ _ (.drew (.refl _ _))) (λbu=>?_);refine ep ?_;refine Z6 (λK hK=>?_);go_simp
 refine nh.o.mono ?_;revert bu K hK;exact HQ_.o):G:=i (Lib.hid h)
theorem Ve{P G:Prop}(h:P)(i:RowKit.Hid P->G:=by
 intro HQ_;refine(bB.o w1 eW.o).mono ?_;rintro e w2⟨rfl,au⟩;have fE:=eW.o.below au;have r0:=HR.o w2 fE 5 _ rfl;have r1:=HR.o w2 fE 1 (vI pk) rfl;have r2:=HR.o w2 fE 2 (vI pm) rfl;have r3:=HR.o w2 fE 3 (.string ps) rfl;revert w2 au fE r0 r1 r2 r3;exact HQ_.o):G:=i (Lib.hid h)
theorem U2{P G:Prop}(h:P)(i:RowKit.Hid P->G:=by
 intro HQ_;have F3:=FF.o.trans (RFr.below (rb:=rb) aB);have G3:=G.o.rfr aA (RFr.below (rb:=rb) aB);have R3:=R.o.below aB;have P3:Pre w3 rb B d us:=⟨R3,HP.o.deep,aA,Nat.le_trans HP.o.le F3.size,Nat.le_trans hu HP.o.few⟩
 revert F3 G3 R3 P3;exact HQ_.o):G:=i (Lib.hid h)
theorem Zuj{P G:Prop}(h:P)(i:RowKit.Hid P->G:=by
 intro HQ_;have i2:sk.steps<=20000:=i2;have gM:b<=sk.steps:=by have:=HB.o;have h2:s.steps<=sk.steps:=x1.steps;omega
 obtain⟨r3,dp⟩:∃r3,r3=D (y.nt C.N) sc fr sk:=⟨_,rfl⟩
 have bS:=lh (iX.o.from bZ.o i1 (ii.o.ext x1) gM i2 wy my ((eY.o.1.kid eD).bel aL) (eY.o.2.kid eD));have aj:=(HD.o (y.nt C.N) sc fr sk _ wy my (i1.less (d':=d+2*(q-(k+1))) O') (ii.o.ext x1) gM i2).1;revert i2 gM r3 dp bS aj;exact HQ_.o):G:=i (Lib.hid h)
theorem Zx4{P G:Prop}(h:P)(i:RowKit.Hid P->G:=by
 intro HQ_;have HS20:=lh (show∀W M',MFr M1 M' W1 W->vC W (w.heap.size+1+1+1) 0 (vI k1)∧vC W (w.heap.size+1+1+1) 1 (vI n1)∧vC W (w.heap.size+1+1+1) 2 (.string t1)∧vC W a.b 1 (.string a.text)from λW M' f=>have g:=rI.o W M' f;⟨g.1,g.2.1,g.2.2,(BB.o W M' f).2.2.2.1⟩);revert HS20;exact HQ_.o):G:=i (Lib.hid h)
theorem Zt7{P G:Prop}(h:P)(i:RowKit.Hid P->G:=by
 intro HQ_;refine HC.o.mono ?_;rintro e iE⟨rfl,eZ,bh⟩;have PQ:=lh (show Pre iE rb B d us.tail∧us.tail.length<=ts.length from⟨P3.o.tail eZ bh,by have:=HU.o;rw[List.length_tail];omega⟩);have GQ:=lh (G3.o.rfr aA bh);have FQ:=lh (F3.o.trans bh);have PL:=lh (show us.tail.length<=us.length by rw[List.length_tail];omega);have ac:=GQ.o.at'.blkOf;simp only[ATree.b,ATree.v,ATree.kind,ATree.text,ATree.n]at ac;revert iE eZ bh PQ GQ FQ PL ac;exact HQ_.o):G:=i (Lib.hid h)
theorem Zsd{P G:Prop}(h:P)(i:RowKit.Hid P->G:=by
 intro HQ_;refine rJ.o.mono ?_;rintro e w3⟨rfl,aX⟩;have eE:Below w2.heap.size w2 w3:=(Below.refl w2.heap.size w2).drew.trans aX;obtain⟨r0,r1,r3,u0,u1,gu,mr⟩:=cU.o w3 eE;have fc:=lh eE;have gy:=lh gu;have ms:=lh mr;clear aX eE gu mr;revert w3 r0 r1 r3 u0 u1 fc gy ms;exact HQ_.o):G:=i (Lib.hid h)
theorem ZO{P G:Prop}(h:P)(i:RowKit.Hid P->G:=by
 intro HQ_;have jy:Value.pointer (some ⟨w7.heap.size+1,0,none⟩)=(vP a.b):=by rw[ha];rfl
 revert jy;exact HQ_.o):G:=i (Lib.hid h)
theorem Zum{P G:Prop}(h:P)(i:RowKit.Hid P->G:=by
 intro HQ_;refine oi [(true,0),(true,1),(true,2),(true,3),(true,5),(true,6),(true,7),(true,8),(true,9),(false,4)] [10,11] (λW=>vC W p1 0 (vI k1)∧vC W p1 1 (vI n1)∧vC W p1 2 (.string t1)∧vC W a.b 0 (vI 25)) (dS.o _ _ (.drew (.refl _ _))) (λbu=>?_);revert bu;exact HQ_.o):G:=i (Lib.hid h)
theorem Zvl{P G:Prop}(h:P)(i:RowKit.Hid P->G:=by
 intro HQ_;refine oi [(true,0),(true,1),(true,2),(true,3),(true,5),(true,6),(true,7),(true,8),(true,9),(false,4)] [10,11] (λW=>vC W p1 0 (vI k1)∧vC W p1 1 (vI n1)∧vC W p1 2 (.string t1)∧vC W a.b 0 (vI 26)) (dS.o _ _ (.drew (.refl _ _))) (λbu=>?_);revert bu;exact HQ_.o):G:=i (Lib.hid h)
theorem Zsr{P G:Prop}(h:P)(i:RowKit.Hid P->G:=by
 intro HQ_;refine Za [(true,0),(true,1),(true,2),(true,3),(true,4),(true,5),(true,6),(true,7),(true,8),(true,9),(false,10),(true,11)] [12] (λW=>vC W C.mb 10 (vI 0)) Pb Pb (λc a d v w h=>ga.o _ c a d v w h) kN (λbu=>?_);refine ep ?_;refine Z6 (λK hK=>?_);go_simp
 refine lQ.o.mono ?_;revert bu K hK;exact HQ_.o):G:=i (Lib.hid h)
theorem Zqo{P G:Prop}(h:P)(i:RowKit.Hid P->G:=by
 intro HQ_;refine Z6 (λK hK=>?_);go_simp
 refine hK _ _ ⟨(Zb aN).trans d2,(Zb hs).trans q0,(Zb hs).trans q1,(Zb hs).trans q2⟩ ?_;clear hK K;refine Z6 (λK hK=>?_);revert K hK;exact HQ_.o):G:=i (Lib.hid h)
theorem XS{P G:Prop}(h:P)(i:RowKit.Hid P->G:=by
 intro HQ_;have gd:(w7.alloc (.cells #[vP x.b] 22)).heap.size=w7.heap.size+1:=Pg
 revert gd;exact HQ_.o):G:=i (Lib.hid h)
theorem Zul{P G:Prop}(h:P)(i:RowKit.Hid P->G:=by
 intro HQ_;have fw:=lh fY;refine(HV.o g O' w6.drew rb B d _ _ P7 hv).mono ?_;rintro e w7⟨x,rfl,hX,lU,dK⟩;have fd:RFr w6 w7 rb:=(RFr.refl w6 rb).drew.trans dK;have kr:=G6.o.rfr aA fd;have ac:=kr.at'.blkOf;simp only[ATree.b,ATree.v,ATree.kind,ATree.text,ATree.n]at ac;have m3:vC w7 nb 3 (.slice p kids.length cp):=Pd
 refine hK _ _ m3 ?_;revert fw w7 x hX lU dK fd kr ac m3;exact HQ_.o):G:=i (Lib.hid h)
theorem Znq{P G:Prop}(h:P)(i:RowKit.Hid P->G:=by
 intro HQ_;have bY:=ha.lt;have hob:=(ha.kid iv).lt;have mt:=hf.kid iv;have qS:=(ha.kid iv).c0;have qT:=(ha.kid iv).c1;have c0:=(aI.cell bY).trans ha.c0;revert bY hob mt qS qT c0;exact HQ_.o):G:=i (Lib.hid h)
theorem Wk{P G:Prop}(h:P)(i:RowKit.Hid P->G:=by
 intro HQ_;have he:ak C M1 W1 x1 bU:=ai.1.2.2;have av:=lh ai;have hR:=HR.o;revert he av hR;exact HQ_.o):G:=i (Lib.hid h)
theorem Zpz{P G:Prop}(h:P)(i:RowKit.Hid P->G:=by
 intro HQ_;refine HC.o.mono ?_;rintro e w3⟨x,rfl,hX,bK,bq⟩;have P3:=lh (P2.o.next bK bq fX.o);have F3:=lh (F2.o.trans bq);have X3:=lh (hX.pre F2.o);obtain⟨xb,ij⟩:∃b,b=x.b:=⟨_,rfl⟩
 have uI:=lh ij;revert w3 x hX bK bq P3 F3 X3 xb ij uI;exact HQ_.o):G:=i (Lib.hid h)
theorem Zvq{P G:Prop}(h:P)(i:RowKit.Hid P->G:=by
 intro HQ_;have HZ:=lh (show z=_ from hz.trans (by rw[aD]));have cY:vC z 0 0 (oj C.eb):=(aE.old.cell hC.stopB).trans hC.stop;have dC:decide (20000<s.steps+1)=true:=decide_eq_true O';have ar:=lh lr;have bM:=lh eT;have bQ:=lh ln;have BC:=Nat.lt_of_lt_of_le hC.stopB h.old.size;have HM:=lh aE;obtain⟨m0,m1,m2,-,-,-⟩:=ln.six;obtain⟨q0,q1,q2,z0,z1,z2⟩:=(ar.o.fr (.refl _ _)).six;revert HZ cY dC ar bM bQ BC HM m0 m1 m2 q0 q1 q2 z0 z1 z2;exact HQ_.o):G:=i (Lib.hid h)
theorem Zq4{P G:Prop}(h:P)(i:RowKit.Hid P->G:=by
 intro HQ_;have hR:=aS.trans (Zga (fr:=fr) (sc:=sc) (V:=V) (D:=D) (f:=fu) (n:=a.nt C.N) hs (by rw[Zc,hk];simp) (by rw[Zc,hk];exact λh2=>absurd h2 Pa));revert hR;exact HQ_.o):G:=i (Lib.hid h)
theorem Zn2{P G:Prop}(h:P)(i:RowKit.Hid P->G:=by
 intro HQ_;obtain⟨M0,w2,cF,fJ,cw⟩:∃M0 w2,MAt C M0 w2 so∧MFr M M0 z w2∧w2=z:=⟨M,z,by rw[yd.o];exact HM.o,.refl _ _,rfl⟩
 revert M0 w2 cF fJ cw;exact HQ_.o):G:=i (Lib.hid h)
theorem Zpw{P G:Prop}(h:P)(i:RowKit.Hid P->G:=by
 intro HQ_;refine HA.o.mono ?_;rintro e w1⟨rfl,hB⟩;obtain⟨q0,hs,dx⟩:=Zl8 hB;have fj:=HH.o.below hB;obtain⟨d1,d2,z2,aN,qU⟩:=HF.o w1 fj;have eW:=lh fj;have av:=lh dx;clear hB dx fj qU;revert w1 q0 hs d1 d2 z2 aN eW av;exact HQ_.o):G:=i (Lib.hid h)
theorem Zuo{P G:Prop}(h:P)(i:RowKit.Hid P->G:=by
 intro HQ_;have c3:vC w1 a.b 3 (.slice p a.kids.length cp):=Pd
 have aH:a.kids.length<=9223372036854775807:=by
  rcases Z4 ae with⟨h1,h2⟩|⟨g0,gf,h1,k1,k2,k3⟩;·omega
  .unfold maxLen at k2;omega
 have eL:=lh gj;have HV:=lh hv;obtain⟨n,hn⟩:∃n,n=a.kids.length:=⟨_,rfl⟩
 revert c3 aH eL HV n hn;exact HQ_.o):G:=i (Lib.hid h)
theorem Zt1{P G:Prop}(h:P)(i:RowKit.Hid P->G:=by
 intro HQ_;obtain⟨i0,hi,aD,bo,bT⟩:=info_parts Tryz.infoPtr;have ac:=hT.blkOf;have ae:=hT.rowOf;obtain⟨p,cp,hv,cr⟩:∃p cp,a.v=.slice p a.kids.length cp∧a.kids.length<=cp:=by
  exact Zxc
 have c3:vC w a.b 3 (.slice p a.kids.length cp):=by rw[<-hv];simp[vC,World.cell?,ac]
 have aH:a.kids.length<=9223372036854775807:=O'
 have HT:=lh hT;have HV:=lh hv;revert i0 hi aD bo bT ac ae p cp hv cr c3 aH HT HV;exact HQ_.o):G:=i (Lib.hid h)
theorem Ztz{P G:Prop}(h:P)(i:RowKit.Hid P->G:=by
 intro HQ_;refine ep ?_;refine Z6 (λK hK=>?_);go_simp
 refine(HT.o _).mono ?_;rintro e W2⟨rfl,au⟩;have kt:=(Ze W1).trans (au.mono (Nat.le_refl _));refine hK _ _ (dS.o _ _ (.of_below kt)) ?_;clear hK K;have aO:=lh kt;obtain⟨b0,b1,b2,-⟩:=dS.o W2 M1 (.of_below kt);clear au kt;refine Z0 ?_;revert W2 aO b0 b1 b2;exact HQ_.o):G:=i (Lib.hid h)
theorem Zrp{P G:Prop}(h:P)(i:RowKit.Hid P->G:=by
 intro HQ_;have aU:y∈P:=List.mem_of_getElem? hy;have bN:=oV.o y aU;have cx:=(bH.o.nodes N5.o lV.o).cell rfl hy;have bM:=lh ((MFr.of_below (M:=M1) gy.o).trans bH.o);revert aU bN cx bM;exact HQ_.o):G:=i (Lib.hid h)
theorem Zxa{P G:Prop}(h:P)(i:RowKit.Hid P->G:=by
 intro HQ_;refine HC.o.mono ?_;rintro e w3⟨a,rfl,hG,hR,hF⟩;have HE:=lh (Zc8 w w3 rb B d vs a t r (P2.o.next hR hF fX.o) (hG.pre F2.o) (F2.o.trans hF) fw.o);clear hG hR hF;revert w3 a HE;exact HQ_.o):G:=i (Lib.hid h)
theorem Zvc{P G:Prop}(h:P)(i:RowKit.Hid P->G:=by
 intro HQ_;have c3:=bW.o.cell 3 (vI 0) Pl;have c4:=bW.o.cell 4 (.string ⟨#[]⟩) Pl;have c5:=bW.o.cell 5 (vI s9.steps) Pl;have c2:=bW.o.rcell 0 Pa;have c6:=bW.o.rcell 1 Pa;have y3:=bW.o.fz 3;have C2:=lh c2;have C4:=lh c4;have C5:=lh c5;have C6:=lh c6;have C3:=lh c3;revert c3 c4 c5 c2 c6 y3 C2 C4 C5 C6 C3;exact HQ_.o):G:=i (Lib.hid h)
theorem Zuz{P G:Prop}(h:P)(i:RowKit.Hid P->G:=by
 intro HQ_;have c1:vC w1 pb 0 (.pointer none):=by simp[vC,World.cell?,b1]
 have c2:w1.cell? ⟨eb,0,none⟩=some .nilIface:=by simp[vC,World.cell?,b2]
 have z1:w1.frozen? ⟨pb,0,none⟩=false:=by simp[World.frozen?,b1]
 have z2:w1.frozen? ⟨eb,0,none⟩=false:=by simp[World.frozen?,b2]
 revert c1 c2 z1 z2;exact HQ_.o):G:=i (Lib.hid h)
theorem Zw1{P G:Prop}(h:P)(i:RowKit.Hid P->G:=by
 intro HQ_;have HY:=lh (qV.o y (List.mem_of_getElem? Hy.o));have tg:=lh (aZ.o.tree HY.o.1 HY.o.2);have bS:=lh (iX.o.from bW.o eL.o (ii.o.ext lg.o) (Int.le_trans HB.o lg.o.steps) nh.o (xj.o y (List.mem_of_getElem? Hy.o)).1 (xj.o y (List.mem_of_getElem? Hy.o)).2 tg.o.1 tg.o.2);revert HY tg bS;exact HQ_.o):G:=i (Lib.hid h)
theorem Zuw{P G:Prop}(h:P)(i:RowKit.Hid P->G:=by
 intro HQ_;refine oi [(true,0),(true,1),(true,2),(true,3),(true,4),(true,5),(true,6),(true,7),(true,8),(true,9),(true,10)] [11,12,13,14,15] (λW=>vC W a.b 1 (.string a.text)) (HS.o _ _ (.drew (.of_below av.o))) (λbu=>?_);refine ep ?_;refine Z0 ?_;revert bu;exact HQ_.o):G:=i (Lib.hid h)
theorem Zv0{P G:Prop}(h:P)(i:RowKit.Hid P->G:=by
 intro HQ_;refine calls_of_wp (c:=kG []) Tryz.func143 Zq5 ?_;simp only[Tryz.ntmps143,List.size_toArray,List.length_cons,List.length_nil,Nat.reduceAdd,Nat.reduceSub,Array.replicate_succ,Array.replicate_zero,List.push_toArray,List.append_toArray,List.nil_append,List.cons_append];exact HQ_.o):G:=i (Lib.hid h)
theorem WO{P G:Prop}(h:P)(i:RowKit.Hid P->G:=by
 intro HQ_;have dT:=Z7h text aA HT.o;have ct:=dT.1;have aR:=dT.2.1;clear dT;revert ct aR;exact HQ_.o):G:=i (Lib.hid h)
theorem Zun{P G:Prop}(h:P)(i:RowKit.Hid P->G:=by
 intro HQ_;have aK:vs.ownBlock≠some hb:=λe=>HR.o hb e rfl;obtain⟨k1,k2,k3,k4,k5,k6,k7,k8,k9,jI⟩:=WC (.slice (some ⟨g,0,none⟩) (n+1) cap) hA HG.o cM aK iF;have hv:=HV.o;have yi:∀g',vs.ownBlock=some g'->g'<w.heap.size:=HL.o;have gU:g≠hb:=by
  rcases HT.o with h|h;·exact HR.o g h
  .omega
 have h:=HH.o;revert aK k1 k2 k3 k4 k5 k6 k7 k8 k9 jI hv yi gU h;exact HQ_.o):G:=i (Lib.hid h)
theorem Zrb{P G:Prop}(h:P)(i:RowKit.Hid P->G:=by
 intro HQ_;refine leaves_cons (f:=26) (args:=#[vP pb,vP eb]) Pg (by simp[go_sem]) ?_;exact HQ_.o):G:=i (Lib.hid h)
theorem Zw0{P G:Prop}(h:P)(i:RowKit.Hid P->G:=by
 intro HQ_;refine HF.o.mono ?_;rintro e w1⟨rfl,hB⟩;simp only[tL];have q0:=Zx hB 0 (vI 0) rfl;have q1:=Zx hB 1 (vI 0) rfl;have q2:=Zx hB 2 (.string ⟨#[]⟩) rfl;have f0:=Wt hB 0;have f1:=Wt hB 1;have f2:=Wt hB 2;have hs:=Z5i hB;revert w1 hB q0 q1 q2 f0 f1 f2 hs;exact HQ_.o):G:=i (Lib.hid h)
theorem Zu5{P G:Prop}(h:P)(i:RowKit.Hid P->G:=by
 intro HQ_;refine uY (.take 0 (.take 1 (.take 2 (.take 3 (.go 4 (.go 5 .nil)))))) 4 (λW=>vC W p1 0 (vI k1)∧vC W p1 1 (vI n1)∧vC W p1 2 (.string t1)) ⟨b0,b1,b2⟩ ?_;refine lM ?_;exact HQ_.o):G:=i (Lib.hid h)
theorem Znw{P G:Prop}(h:P)(i:RowKit.Hid P->G:=by
 intro HQ_;have HQ:=lh hq;have yj:q+1<=9223372036854775807:=O'
 obtain⟨tx,bg⟩:∃t,t=a.text:=⟨_,rfl⟩
 revert HQ yj tx bg;exact HQ_.o):G:=i (Lib.hid h)
theorem Zwf{P G:Prop}(h:P)(i:RowKit.Hid P->G:=by
 intro HQ_;refine uY (.take 0 (.take 1 (.take 2 (.take 3 (.go 4 (.go 5 .nil)))))) 4 (λW=>vC W p1 0 (vI kk)∧vC W p1 1 (vI nk)∧vC W p1 2 (.string tk)) ⟨b0,b1,b2⟩ ?_;refine lM ?_;exact HQ_.o):G:=i (Lib.hid h)
theorem Xf{P G:Prop}(h:P)(i:RowKit.Hid P->G:=by
 intro HQ_;have N3:=lh eM;have A3:=lh hA;have R3:=lh bK;have jd:=lh (FQ.o.trans dy);have NE:=lh aK;revert N3 A3 R3 jd NE;exact HQ_.o):G:=i (Lib.hid h)
theorem YO{P G:Prop}(h:P)(i:RowKit.Hid P->G:=by
 intro HQ_;rintro e w1⟨rfl,aL⟩;obtain⟨q0,q1,q2,z0,z1,z2⟩:=(ar.o.bel aL).six;have av:=lh aL;clear aL;revert w1 q0 q1 q2 z0 z1 z2 av;exact HQ_.o):G:=i (Lib.hid h)
theorem Zwo{P G:Prop}(h:P)(i:RowKit.Hid P->G:=by
 intro HQ_;obtain⟨r1,bA⟩:∃r1,r1=V (x.nt C.N) sc fr s1:=⟨_,rfl⟩
 have bF:=lh (λW (hB:Below zv.heap.size zv W)=>cA.from aE fS (hA.ext dP) ai jc wx mx (aJ.kid ee) (bz.kid ee) W (eJ.trans (hB.mono eJ.size)));have aj:=(hV (x.nt C.N) sc fr s1 _ wx mx fS (hA.ext dP) ai jc).1;revert r1 bA bF aj;exact HQ_.o):G:=i (Lib.hid h)
theorem Zq7{P G:Prop}(h:P)(i:RowKit.Hid P->G:=by
 intro HQ_;rintro e wf⟨rfl,kO⟩;have N:=lh (N.o.rfr aA (RFr.below (rb:=rb) kO));have PQ:=lh (PQ.o.below kO);have FQ:=lh (FQ.o.trans (RFr.below (rb:=rb) kO));revert wf kO N PQ FQ;exact HQ_.o):G:=i (Lib.hid h)
theorem Zvo{P G:Prop}(h:P)(i:RowKit.Hid P->G:=by
 intro HQ_;have C9:=(au.frozen (p:=⟨w.heap.size,0,none⟩) hs).trans f0;have C':=(au.frozen (p:=⟨w.heap.size,1,none⟩) hs).trans f1;have Da:=(au.frozen (p:=⟨w.heap.size,2,none⟩) hs).trans f2;have dZ:=Nat.lt_of_lt_of_le hs au.size;have aO:=lh (HB.o.trans (au.mono (Nat.le_of_lt hs)));revert C9 C' Da dZ aO;exact HQ_.o):G:=i (Lib.hid h)
theorem Zn8{P G:Prop}(h:P)(i:RowKit.Hid P->G:=by
 intro HQ_;refine Z6 (λK hK=>?_);go_simp
 refine hK _ _ ((Zb cW).trans t3) ?_;clear hK K;exact HQ_.o):G:=i (Lib.hid h)
theorem Zt2{P G:Prop}(h:P)(i:RowKit.Hid P->G:=by
 intro HQ_;have hF:=λ(w':World) (h:TreeAt w' B0 a)=>Vw w' B0 a h O';have hL:=λ(w':World) (h:TreeAt w' B0 a)=>Va w' B0 a h O';obtain⟨P,hP⟩:∃P,P=a.kids.filter wW:=⟨_,rfl⟩
 obtain⟨Q,hQ⟩:∃Q,Q=a.kids.filter wH:=⟨_,rfl⟩
 revert hF hL P hP Q hQ;exact HQ_.o):G:=i (Lib.hid h)
theorem Zu7{P G:Prop}(h:P)(i:RowKit.Hid P->G:=by
 intro HQ_;refine HC.o.mono ?_;rintro e w1⟨rfl,gj⟩;have ni:=HT.o _ _ gj;have ac:=ni.blkOf;have ae:=ni.rowOf;obtain⟨p,cp,hv⟩:∃p cp,a.v=.slice p a.kids.length cp:=by
  rcases Z4 ae with⟨h1,h2⟩|⟨g0,gf,h1,_⟩;·exact⟨none,0,by rw[h1,h2]⟩
  .exact⟨_,_,h1⟩
 revert w1 gj ni ac ae p cp hv;exact HQ_.o):G:=i (Lib.hid h)
theorem Zwu{P G:Prop}(h:P)(i:RowKit.Hid P->G:=by
 intro HQ_;have aA:=HP.o.lt;have F2:=lh (FF.o.trans (RFr.below (rb:=rb) au));have G2:=lh (G.o.rfr aA (RFr.below (rb:=rb) au));have R2:=lh (R.o.below au);have ac:=G2.o.at'.blkOf;have ae:=G2.o.at'.rowOf;simp only[ATree.b,ATree.v,ATree.kind,ATree.text,ATree.n,ATree.kids]at ac ae;revert aA F2 G2 R2 ac ae;exact HQ_.o):G:=i (Lib.hid h)
theorem Zjn{P G:Prop}(h:P)(i:RowKit.Hid P->G:=by
 intro HQ_;have aE:=h.below aI;have aJ:=ha.bel aI;obtain⟨kg,kc,c3,ct,aR,bO,ba,eU⟩:=ha.row hf QF;revert aE aJ kg kc c3 ct aR bO ba eU;exact HQ_.o):G:=i (Lib.hid h)
theorem Zuy{P G:Prop}(h:P)(i:RowKit.Hid P->G:=by
 intro HQ_;refine ep ?_;refine Z6 (λK hK=>?_);go_simp
 have aX:=(((bQ.o.fr (.drew (.refl M z))).apart (b':=w.heap.size+1) O' 0 (vI 0)).apart (b':=w.heap.size+1) O' 1 (vI 0)).apart (b':=w.heap.size+1) O' 2 (.string ⟨#[]⟩);revert K hK aX;exact HQ_.o):G:=i (Lib.hid h)
theorem Zqt{P G:Prop}(h:P)(i:RowKit.Hid P->G:=by
 intro HQ_;refine HT.o.mono ?_;rintro e wf⟨rfl,hRf,hFf⟩;have N:=lh (N.o.rfr aA hFf);have PQ:=lh (PQ.o.tail hRf hFf);have FQ:=lh (FQ.o.trans hFf);clear hRf hFf;revert wf N PQ FQ;exact HQ_.o):G:=i (Lib.hid h)
theorem Zwz{P G:Prop}(h:P)(i:RowKit.Hid P->G:=by
 intro HQ_;refine ep ?_;refine Z6 (λK hK=>?_);go_simp
 refine(uJ.o _ (Ze _)).mono ?_;rintro e W3⟨M3,k3,n3,t3,fg,rfl,aX⟩;have F3:=(MFr.drew (.refl M1 W2)).trans aX.2.1;refine hK _ _ (iW.o _ _ F3) ?_;clear hK K;have bP:=lh aX;have bE:=lh (bw.o.trans ((MFr.of_below aO.o).trans F3));clear aX F3;revert W3 M3 k3 n3 t3 fg bP bE;exact HQ_.o):G:=i (Lib.hid h)
theorem Zo2{P G:Prop}(h:P)(i:RowKit.Hid P->G:=by
 intro HQ_;refine Z6 (λK hK=>?_);go_simp
 have P7:Pre wf.drew rb B d _:=PQ.o.below (Below.refl _ _).drew;revert K hK P7;exact HQ_.o):G:=i (Lib.hid h)
theorem Zov{P G:Prop}(h:P)(i:RowKit.Hid P->G:=by
 intro HQ_;have t0:=h.hd (j:=0) rfl;have t1:=h.hd (j:=1) rfl;have t2:=h.hd (j:=2) rfl;have t3:=h.hd (j:=3) rfl;revert t0 t1 t2 t3;exact HQ_.o):G:=i (Lib.hid h)
theorem Znu{P G:Prop}(h:P)(i:RowKit.Hid P->G:=by
 intro HQ_;have m3:vC dD nb 3 (.slice p kids.length cp):=Pd
 revert m3;exact HQ_.o):G:=i (Lib.hid h)
theorem Znc{P G:Prop}(h:P)(i:RowKit.Hid P->G:=by
 intro HQ_;have hm:=h.most;have dG:=h.le;unfold maxLen at hm;obtain⟨n,hn⟩:∃n,n=ts.length:=⟨_,rfl⟩
 revert hm dG n hn;exact HQ_.o):G:=i (Lib.hid h)
theorem Zqg{P G:Prop}(h:P)(i:RowKit.Hid P->G:=by
 intro HQ_;have ht:=Zci W1 ⟨k1,n1,t1⟩;simp only[LVal.agg]at ht;obtain⟨bt,cV⟩:∃bt,bt=(⟨k1,n1,t1⟩:LVal).true:=⟨_,rfl⟩
 revert ht bt cV;exact HQ_.o):G:=i (Lib.hid h)
theorem Zti{P G:Prop}(h:P)(i:RowKit.Hid P->G:=by
 intro HQ_;refine oi [(true,0),(true,1),(true,2),(true,3),(true,4),(true,5),(true,6),(true,7)] [8,9] (λW=>vC W a.b 1 (.string a.text)) (HS.o _ _ (.drew (.refl _ _))) (λbu=>?_);refine ep ?_;refine Z0 ?_;revert bu;exact HQ_.o):G:=i (Lib.hid h)
theorem Zsu{P G:Prop}(h:P)(i:RowKit.Hid P->G:=by
 intro HQ_;have dA:=RX hv;have fw:=lh fY;refine(HB.o wf.drew rb B d _ _ P7 hv).mono ?_;rintro e w7⟨x,rfl,hX,lU,dK⟩;have fd:RFr wf w7 rb:=(RFr.refl wf rb).drew.trans dK;have kr:=N.o.rfr aA fd;have ac:=kr.at'.blkOf;simp only[ATree.b,ATree.v,ATree.kind,ATree.text,ATree.n]at ac;revert dA fw w7 x hX lU dK fd kr ac;exact HQ_.o):G:=i (Lib.hid h)
theorem Zwn{P G:Prop}(h:P)(i:RowKit.Hid P->G:=by
 intro HQ_;have aK:v.ownBlock≠some nb:=dJ.1.1;have ba:kids.length=ao.length:=by
  have:=eM.tree;exact TH
 have gz:kids.length<=4000:=Q9
 have N3:=lh eM;have A3:=lh hA;have R3:=lh bK;have F3:=lh (F2.o.trans iM);have NE:=lh aK;have fL:=lh ba;revert aK ba gz N3 A3 R3 F3 NE fL;exact HQ_.o):G:=i (Lib.hid h)
theorem Zw2{P G:Prop}(h:P)(i:RowKit.Hid P->G:=by
 intro HQ_;have F2:=λo=>(((RFr.refl w rb).set 0 (.slice (some ⟨tb,off+4,none⟩) (n-1) (cap-1))).trans (RFr.below (rb:=rb) (hb o)));have ax:∀(W:World) o,Below W.heap.size W (W.alloc o):=λW o=>(Below.refl _ _).alloc (Nat.le_refl _) o;revert F2 ax;exact HQ_.o):G:=i (Lib.hid h)
theorem Ztb{P G:Prop}(h:P)(i:RowKit.Hid P->G:=by
 intro HQ_;simp only[ag];try simp only[Act.put,zA,zB,zC]
 iterate 4
  first
   |(refine X4 ?_ Po Po (λw'=>?_) ?_;rotate_left;(go_simp;first|done|with_reducible rfl);simp only[Act.put,zA,zB,zC])
 refine mH (λK hK=>?_);revert K hK;exact HQ_.o):G:=i (Lib.hid h)
theorem Znz{P G:Prop}(h:P)(i:RowKit.Hid P->G:=by
 intro HQ_;have oV:=lh (show∀x∈P,x∈a.kids from λx hx=>(List.mem_filter.1 (hP▸hx)).1);revert oV;exact HQ_.o):G:=i (Lib.hid h)
theorem Ztp{P G:Prop}(h:P)(i:RowKit.Hid P->G:=by
 intro HQ_;have N3:=lh eM;have A3:=lh hA;have R3:=lh bK;have jd:=lh (F6.o.trans dy);have NE:=lh aK;have NA:=lh (show∀y∈(ATree.mk nb (.slice p kids.length cp) 38 ⟨#[]⟩ 0 kids).blocks,y<w6.drew.heap.size from λy hy=>(G6.o.new y hy).2);have fX:=lh dA;revert N3 A3 R3 jd NE NA fX;exact HQ_.o):G:=i (Lib.hid h)
theorem Zvx{P G:Prop}(h:P)(i:RowKit.Hid P->G:=by
 intro HQ_;have ac:=G3.at'.blkOf;simp only[ATree.b,ATree.v,ATree.kind,ATree.text,ATree.n]at ac;have n3:vC w3 nb 3 (.slice p kids.length cp):=Pd
 have F3:=lh F3;have G3:=lh G3;have P3:=lh P3;have HU:=lh hu;have HL:=lh hl;revert ac n3 F3 G3 P3 HU HL;exact HQ_.o):G:=i (Lib.hid h)
theorem Zud{P G:Prop}(h:P)(i:RowKit.Hid P->G:=by
 intro HQ_;have b1:=(hB.block w.heap.size (by rw[K3.o];omega)).trans K1.o;have b2:=(hB.block (w.heap.size+1) (by rw[K3.o];omega)).trans K2.o;obtain⟨pb,li⟩:∃b,b=w.heap.size:=⟨_,rfl⟩
 obtain⟨eb,pr⟩:∃b,b=w.heap.size+1:=⟨_,rfl⟩
 revert b1 b2 pb li eb pr;exact HQ_.o):G:=i (Lib.hid h)
theorem WV{P G:Prop}(h:P)(i:RowKit.Hid P->G:=by
 intro HQ_;have HC:=lh HC;have fX:=lh (RX hv);have fw:=lh fY;revert HC fX fw;exact HQ_.o):G:=i (Lib.hid h)
theorem Zst{P G:Prop}(h:P)(i:RowKit.Hid P->G:=by
 intro HQ_;have qW:=GQ.o.rfr aA lj;have ac:=qW.at'.blkOf;simp only[ATree.b,ATree.v,ATree.kind,ATree.text,ATree.n]at ac;have m3:vC wa nb 3 (.slice p kids.length cp):=Pd
 refine hK _ _ m3 ?_;revert qW ac m3;exact HQ_.o):G:=i (Lib.hid h)
theorem Znx{P G:Prop}(h:P)(i:RowKit.Hid P->G:=by
 intro HQ_;obtain⟨g,cp,cr,eu,kP⟩:=h.first hk;have nj:=lh kP;obtain⟨q,hq⟩:∃q,q=r.length:=⟨_,rfl⟩
 revert g cp cr eu kP nj q hq;exact HQ_.o):G:=i (Lib.hid h)
theorem Zuc{P G:Prop}(h:P)(i:RowKit.Hid P->G:=by
 intro HQ_;have HC:=lh hc;have HG:=lh hg;have ip:=lh hI;obtain⟨n,bI⟩:∃n,n=l.length:=⟨_,rfl⟩
 revert HC HG ip n bI;exact HQ_.o):G:=i (Lib.hid h)
theorem XL{P G:Prop}(h:P)(i:RowKit.Hid P->G:=by
 intro HQ_;have iv:o∈a.kids:=QF
 have k0:=bO 0 o rfl;have c1:=ha.c1;revert iv k0 c1;exact HQ_.o):G:=i (Lib.hid h)
theorem Zrz{P G:Prop}(h:P)(i:RowKit.Hid P->G:=by
 intro HQ_;refine(gm.o w3 ms.o).mono ?_;rintro e w9⟨rfl,iN⟩;have fT:=lh ((gy.o).trans (iN.mono (gy.o).size));clear iN;revert w9 fT;exact HQ_.o):G:=i (Lib.hid h)
theorem Zw3{P G:Prop}(h:P)(i:RowKit.Hid P->G:=by
 intro HQ_;have aj:=Got.push aA HP.o.le N3.o (wA:=wa) NA.o A3.o jd.o R3.o ((Below.refl _ _).alloc (Nat.le_refl _) _) aC aT Pk cg;have ca:=lh aj;clear aj;refine Z0 ?_;revert ca;exact HQ_.o):G:=i (Lib.hid h)
theorem Zsg{P G:Prop}(h:P)(i:RowKit.Hid P->G:=by
 intro HQ_;obtain⟨g1,g2,g3⟩:=(hL.fr hF).ret (x':=(vI k)) (y':=(vI n)) (z':=.string t) hM ((MFr.of_below hz).trans hF);revert g1 g2 g3;exact HQ_.o):G:=i (Lib.hid h)
theorem Zw8{P G:Prop}(h:P)(i:RowKit.Hid P->G:=by
 intro HQ_;refine HN.o.mono ?_;rintro e wn⟨rfl,jE⟩;have aX:Below w4.heap.size w4 wn:=by rw[jE];exact ai.alloc Pg _
 have be:(w4.alloc (.cells #[vP x.b] 22)).heap.size=sb+1:=by rw[cJ.o];simp
 revert wn jE aX be;exact HQ_.o):G:=i (Lib.hid h)
theorem Ztu{P G:Prop}(h:P)(i:RowKit.Hid P->G:=by
 intro HQ_;have q0:=M5.scan.c0;have q1:=M5.scan.c1;have t0:=M5.cell 0 rfl;have t1:=M5.cell 1 rfl;have t2:=M5.cell 2 rfl;have t3:=M5.cell 3 rfl;have z0:=M5.fz 0;have z1:=M5.fz 1;have z2:=M5.fz 2;have z3:=M5.fz 3;have zs:=M5.scan.fz 1;have eN:=M5.lt;have cW:=M5.tlt;have cf:=M5.scan.lt;revert q0 q1 t0 t1 t2 t3 z0 z1 z2 z3 zs eN cW cf;exact HQ_.o):G:=i (Lib.hid h)
theorem Zu3{P G:Prop}(h:P)(i:RowKit.Hid P->G:=by
 intro HQ_;have q0:=hM.scan.c0;have q1:=hM.scan.c1;have t0:=hM.cell 0 rfl;have t1:=hM.cell 1 rfl;have t2:=hM.cell 2 rfl;have t3:=hM.cell 3 rfl;have z0:=hM.fz 0;have z1:=hM.fz 1;have z2:=hM.fz 2;have z3:=hM.fz 3;have zs:=hM.scan.fz 1;have eN:=hM.lt;have cW:=hM.tlt;have cf:=hM.scan.lt;revert q0 q1 t0 t1 t2 t3 z0 z1 z2 z3 zs eN cW cf;exact HQ_.o):G:=i (Lib.hid h)
theorem Zvt{P G:Prop}(h:P)(i:RowKit.Hid P->G:=by
 intro HQ_;have hl:=WL (text:=text) (i:=j+1) O';have b0:=Zi text (j:=j) (k:=j+2) (i:=0) O' O';have b1:=Zi text (j:=j) (k:=j+2) (i:=1) O' O';revert hl b0 b1;exact HQ_.o):G:=i (Lib.hid h)
theorem Zr1{P G:Prop}(h:P)(i:RowKit.Hid P->G:=by
 intro HQ_;have ee:x∈a.kids:=PH
 have eD:y∈a.kids:=PH
 have k0:=bO 0 x rfl;have k1:=bO 1 y rfl;revert ee eD k0 k1;exact HQ_.o):G:=i (Lib.hid h)
theorem Zmt{P G:Prop}(h:P)(i:RowKit.Hid P->G:=by
 intro HQ_;have aE:=h.below aI;have aJ:=ha.bel aI;have bY:=ha.lt;have c0:=(aI.cell bY).trans ha.c0;revert aE aJ bY c0;exact HQ_.o):G:=i (Lib.hid h)
theorem Zpo{P G:Prop}(h:P)(i:RowKit.Hid P->G:=by
 intro HQ_;have eM:=kr.rfr aA (RFr.below (rb:=rb) ax);have bK:=lU.below ax;have dy:RFr w6 dD rb:=fd.trans (RFr.below ax);revert eM bK dy;exact HQ_.o):G:=i (Lib.hid h)
theorem Zqv{P G:Prop}(h:P)(i:RowKit.Hid P->G:=by
 intro HQ_;obtain⟨v,bj,bg⟩:=HS.o.cell;have sv:vC wr (w.heap.size+1) 0 v:=by simp[vC,World.cell?,bj]
 revert v bj bg sv;exact HQ_.o):G:=i (Lib.hid h)
theorem Ztx{P G:Prop}(h:P)(i:RowKit.Hid P->G:=by
 intro HQ_;refine HC.o.mono ?_;rintro e w6⟨rfl,jJ,fM⟩;have P6:=P5.o.tail jJ fM;have F6:=F5.o.trans fM;have G6:=G5.o.rfr aA fM;have ac:=G6.at'.blkOf;simp only[ATree.b,ATree.v,ATree.kind,ATree.text,ATree.n]at ac;revert w6 jJ fM P6 F6 G6 ac;exact HQ_.o):G:=i (Lib.hid h)
theorem Zrd{P G:Prop}(h:P)(i:RowKit.Hid P->G:=by
 intro HQ_;refine HC.o.mono ?_;rintro e w3⟨rfl,bK,bq⟩;have R3:=lh bK;have F3:=lh bq;clear bK bq;revert w3 R3 F3;exact HQ_.o):G:=i (Lib.hid h)
theorem Zsx{P G:Prop}(h:P)(i:RowKit.Hid P->G:=by
 intro HQ_;have aK:=dJ.1.1;have gz:kids.length<=9:=PI
 have N3:=lh eM;have A3:=lh hA;have R3:=lh bK;have F3:=lh (FQ.o.trans dy);have NE:=lh aK;revert aK gz N3 A3 R3 F3 NE;exact HQ_.o):G:=i (Lib.hid h)
theorem tq0{G:Prop}(i:G:=by
 intro ci;refine mH (λK hK=>?_);refine hK _ _ ((Zb hm4).trans s9) ?_;clear hK K;try simp only[Act.put,List.setIfInBounds_toArray]
 refine mH (λK hK=>?_);rw[IntWalk.i64_in (3+((n0:Int)+1)) O',IntWalk.i64_in (3+((n0:Int)+1)-1) O',show 3+((n0:Int)+1)-1=3+(n0:Int) by omega];refine(lQ.o _ (Z1 _ _).drew).mono ?_;rintro e w6⟨rfl,ρ',L',g1,q1⟩;have t9:vC w6 C.mb 9 (.slice (some ⟨gg,0,none⟩) (n0+1) cap):=(q1.cell 9 Pa Pa).trans ((Zb hm4).trans s9);have hma:=(H2.o.below (Z1 w4 (vO 0 0 ⟨#[]⟩))).drew;obtain⟨a1,a2⟩:=hma.heapStep g1 q1;have hL:Lo C _ w w6 w4.heap.size #[vI 0,vI 0,.string ⟨#[]⟩] 55:=
  ((Lo.new (wE:=w) H2.o (Nat.le_trans bJ.o.size aZ.o.size) HO.o _ _).fr (.drew (.refl _ _))).fr a2
 have iG:=(MFr.of_below (M:=M2) (Z1 w4 (vO 0 0 ⟨#[]⟩)).drew).trans a2;obtain⟨q0,jw,q2,z0,z1,z2⟩:=hL.six;obtain⟨v1,v2,v3,v4⟩:=hL.fill (x':=(vI 5)) (y':=(vI nO)) (z':=.string ⟨#[]⟩) a1 iG (Nat.le_refl _);have hv:ML C w M2 w4 s4 nO (((w6.setCell ⟨w4.heap.size,0,none⟩ (vI 5)).setCell ⟨w4.heap.size,1,none⟩ (vI nO)).setCell ⟨w4.heap.size,2,none⟩ (.string ⟨#[]⟩)) w4.heap.size _:=⟨by rw[HSs4.o];exact v1,v2,v3⟩
 have HV:=lh hv;refine hK _ _ t9 ?_;clear hK K hma a1 a2 g1 q1 hL iG v1 v2 v3 v4 hv;iterate 1 (refine X4 ?_ Po Po (λw'=>?_) ?_;rotate_left;(go_simp;first|done|with_reducible rfl);try simp only[Act.put,List.setIfInBounds_toArray])
 refine AR (λK hK=>?_);refine hK _ _ (D2 ?_);clear hK K t9 q0 jw q2 z0 z1 z2;have hv:=HV.o;clear HV;generalize((w6.setCell ⟨w4.heap.size,0,none⟩ (vI 5)).setCell ⟨w4.heap.size,1,none⟩ (vI nO)).setCell ⟨w4.heap.size,2,none⟩ (.string ⟨#[]⟩)=W2 at hv ⊢;generalize w4.heap.size=p2 at hv ⊢;obtain⟨M3,hv⟩:∃M3,ML C w M2 w4 s4 nO W2 p2 M3:=⟨_,hv⟩
 exact ci.o W2 p2 M3 hv):G:=i
theorem tq1{G:Prop}(i:G:=by
 intro ci;refine mH (λK hK=>?_);rw[IntWalk.i64_in (3+((n0:Int)+1)) O',IntWalk.i64_in (3+((n0:Int)+1)-1) O',show 3+((n0:Int)+1)-1=3+(n0:Int) by omega];refine(lQ.o _ (Ze _)).mono ?_;rintro e w6⟨rfl,ρ',L',g1,q1⟩;have t9:vC w6 C.mb 9 (.slice (some ⟨gg,0,none⟩) (n0+1) cap):=(q1.cell 9 Pa Pa).trans s9;obtain⟨a1,a2⟩:=H2.o.drew.heapStep g1 q1;have oW:=lh a1;have oX:=lh ((MFr.drew (.refl M2 w4)).trans a2);refine hK _ _ t9 ?_;clear hK K a1 a2 g1 q1
 iterate 1 (refine X4 ?_ Po Po (λw'=>?_) ?_;rotate_left;(go_simp;first|done|with_reducible rfl);simp only[Act.put,List.setIfInBounds_toArray])
 refine mH (λK hK=>?_);refine hK _ _ ((Zb oW.o.mbLt).trans t9) ?_;clear hK K;refine AR (λK hK=>?_);refine hK _ _ (D2 ?_);clear hK K t9;have hv:ML C w M2 w4 s4 nO (w6.alloc (.cells #[vI 5,vI nO,.string ⟨#[]⟩] 55)) w6.heap.size _:=
  ⟨by have:=oW.o.below (Z1 w6 (.cells #[vI 5,vI nO,.string ⟨#[]⟩] 55));rw[HSs4.o];exact this,oX.o.trans (.of_below (Z1 _ _)),Lo.new oW.o (Nat.le_trans bJ.o.size (Nat.le_trans aZ.o.size oX.o.size)) HO.o _ _⟩
 generalize w6.alloc (.cells #[vI 5,vI nO,.string ⟨#[]⟩] 55)=W2 at hv ⊢;generalize w6.heap.size=p2 at hv ⊢;obtain⟨M3,hv⟩:∃M3,ML C w M2 w4 s4 nO W2 p2 M3:=⟨_,hv⟩
 exact ci.o W2 p2 M3 hv):G:=i
theorem tq2{G:Prop}(i:G:=by
 go_wp2_with fail
 go_loopw [8] (λi wr=>∃(k:Nat),k<=n∧i=(vI k)∧Hid (∀x∈l.take k,g x=false)∧Hid (Inv wr)) (λi _=>n-(intOf i).toNat)
 case atStart=>exact⟨0,Nat.zero_le _,rfl,lh Pg,ip⟩
 case round=>
  obtain⟨k,hk,rfl,HF,HI⟩:=hrel;clear ip;by_cases bV:k<n
  .obtain⟨x,hx⟩:∃x,l[k]? =some x:=⟨_,List.getElem?_eq_getElem Pu⟩
   obtain⟨b,off,hp,bj⟩:=HC.o k x hx;subst hp;have cx:=bj wr HI.o;have eB:=HG.o x (List.mem_of_getElem? hx) wr HI.o;obtain⟨vx,pu⟩:∃v,v=enc x:=⟨_,rfl⟩
   rw[<-pu]at cx eB;obtain⟨gx,BD⟩:∃v,v=g x:=⟨_,rfl⟩
   rw[<-BD]at eB;have rK:=lh eB;have HX:=lh hx;have HGX:=lh BD;have GO:((⟨b,off,none⟩:Addr).add k)=⟨b,off+k,none⟩:=by unfold Addr.add;split<;>simp_all
   have hkI:(k:Int)<=9223372036854775807:=O'
   clear bj eB pu hx BD;go_wp2_with fail
   refine rK.o.mono ?_;rintro e w1⟨rfl,gj⟩;have eL:=lh gj;clear gj rK;cases gx
   .go_wp2;go_roundw
    case rel=>
     refine⟨k+1,by omega,by go_num,lh ?_,eL⟩;intro y hy;obtain⟨ba,qX⟩:=List.getElem?_eq_some_iff.1 HX.o;rw[List.take_succ_eq_append_getElem ba,List.mem_append]at hy;rcases hy with hy|hy;·exact HF.o y hy
     .simp only[List.mem_singleton]at hy;rw[hy,qX];exact HGX.o.symm
    case measure=>simp[intOf];omega
   .go_wp2;go_ret;refine⟨⟨_,rfl,?_⟩,eL.o⟩;rw[List.any_eq_true.2 ⟨x,List.mem_of_getElem? HX.o,HGX.o.symm⟩];simp
  .have aR:k=n:=by omega
   subst aR;go_wp2;go_ret;refine⟨⟨_,rfl,?_⟩,HI.o⟩;have an:l.any g=false:=by
    rw[List.any_eq_false];intro y hy;have:=HF.o y (by rw[List.take_of_length_le Ra];exact hy);simp[this]
   rw[an];rfl):G:=i
theorem tq3{G:Prop}(i:G:=by
 obtain⟨k,v,rfl,hk,rfl,TX,NO,HB⟩:=hrel;clear uK N2 aO;by_cases bV:k<m
 .obtain⟨x,hx⟩:∃x,P[k]? =some x:=⟨_,List.getElem?_eq_getElem Q7⟩
  obtain⟨g0,hp⟩:∃g,p2=some ⟨g,0,none⟩:=by
   exact YE
  subst hp;have cx:=NO.o.cell rfl hx;have eF:=(HT.o.bel HB.o).kid (qR.o x (List.mem_of_getElem? hx));have c1:=eF.c1;have ik:(wU l0 (P.take k)).length<1099511627776:=by
   have:=Zal l0 (P.take k);have h3:(P.take k).length<=k:=Pe
   have h4:=bZ.o;omega
  have HA:=lh (Zf2 wr w.heap.size v _ x.text TX.o HB.o.size ik);have HX:=lh hx;clear eF hx ik;go_wp2_with fail
  refine HA.o.mono ?_;rintro e w3⟨v3,rfl,ht3,aX,xa⟩;have hsn:wU l0 (P.take (k+1))=jn (wU l0 (P.take k)) x.text:=by rw[Xz HX.o,Zb9]
  have qK:Hid (Zy w3 w.heap.size v3 (wU l0 (P.take (k+1)))):=lh (by rw[hsn];exact ht3);exact Xq
 .have aR:k=m:=by omega
  subst aR;have cu:Zy wr w.heap.size v (wU l0 P):=by
   have:=TX.o;rwa[List.take_of_length_le (by rw[<-bZ.o];exact Nat.le_refl _)]at this
  have qK:=lh cu;have Db:=Zal l0 P;obtain⟨l1,ku⟩:∃l,l=wU l0 P:=⟨_,rfl⟩
  rw[<-ku]at qK Db;have j7:=lh ku;clear cu TX NO ku;go_wp2_with fail
  refine(HL.o wr (HT.o.bel HB.o)).mono ?_;rintro e w4⟨v4,rfl,uL,eE⟩;obtain⟨p4,cp4,rfl,hge4,hmx4⟩:∃p cp,v4=.slice p Q.length cp∧Q.length<=cp∧cp<=maxLen:=by
   rcases uL.form with⟨h1,h2⟩|⟨g,cap,h1,h2,h3⟩;·exact⟨none,0,by rw[h1,h2];rfl,by rw[h2];exact Nat.le_refl _,by unfold maxLen;omega⟩
   .exact⟨_,_,h1,h2,h3⟩
  have rL:=lh (qK.o.bel eE);have fc:=zT HB eE;have N4:=lh uL;obtain⟨q,cT⟩:∃q,q=Q.length:=⟨_,rfl⟩
  have ng:q<=9223372036854775807:=by unfold maxLen at hmx4;omega
  rw[<-cT]at hge4 N4 dG ⊢;have d7:=lh cT;clear uL eE cT qK HB;obtain⟨bb,px⟩:∃b,b=wr.heap.size:=⟨_,rfl⟩
  rw[<-px]at N4;clear px;go_wp2_with fail
  go_loopw [5,30] (λv i wr=>∃(k:Nat) (v':Value),v'=v∧k<=q∧i=(vI k)∧Hid (Zy wr w.heap.size v' (wU l1 (Q.take k)))∧Hid (jm wr bb (.slice p4 q cp4) Q)∧Hid (Below w.heap.size w wr)) (λ_ i _=>q-(intOf i).toNat)
  case atStart=>exact⟨0,_,rfl,Nat.zero_le _,rfl,rL,N4,fc⟩
  case round=>
   obtain⟨k,v,rfl,hk,rfl,TX,NO,HB⟩:=hrel;clear rL N4 fc;by_cases bV:k<q
   .obtain⟨x,hx⟩:∃x,Q[k]? =some x:=⟨_,List.getElem?_eq_getElem Pr⟩
    obtain⟨g0,hp⟩:∃g,p4=some ⟨g,0,none⟩:=by
     exact YE
    subst hp;have cx:=NO.o.cell rfl hx;have eF:=(HT.o.bel HB.o).kid (jv.o x (List.mem_of_getElem? hx));have c1:=eF.c1;have ik:(wU l1 (Q.take k)).length<1099511627776:=by
     have:=Zal l1 (Q.take k);have h3:(Q.take k).length<=k:=Pe
     have h4:=bZ.o;omega
    have HA:=lh (Zf2 wr w.heap.size v _ x.text TX.o HB.o.size ik);have HX:=lh hx;clear eF hx ik;go_wp2_with fail
    refine HA.o.mono ?_;rintro e w3⟨v3,rfl,ht3,aX,xa⟩;have hsn:wU l1 (Q.take (k+1))=jn (wU l1 (Q.take k)) x.text:=by rw[Xz HX.o,Zb9]
    have qK:Hid (Zy w3 w.heap.size v3 (wU l1 (Q.take (k+1)))):=lh (by rw[hsn];exact ht3);exact Xq
   .have aR:k=q:=by omega
    subst aR;have cu:Zy wr w.heap.size v (wU l1 Q):=by
     have:=TX.o;rwa[List.take_of_length_le Rb]at this
    have BE:=lh cu;clear cu TX;go_wp2;go_ret;rw[<-j7.o];exact⟨_,rfl,BE.o,HB.o⟩):G:=i
theorem tq4{G:Prop}(i:G:=by
 have cM:=h.hbLt;have fy:∀b,ρ b≠none->b<w.heap.size:=h.live;refine SG ?_;intro h1 cE;refine TJ ?_;intro jH;have HC:=lh (SK h1 m (getElem?_lt hm));have HA:=lh (Tg h1 (m:Int) name);rw[fk]at HA;obtain⟨i0,hi,aD,bo,bT⟩:=info_parts Tryz.infoBind;have HH:=lh h1;have HB:=lh cE;have HM:=lh hm;clear h h1 cE hm fk;go_enter Tryz.func43,Tryz.ntmps43
 go_wp2_with fail
 refine HC.o.mono ?_;rintro e w1⟨rfl,rfl⟩;go_wp2_with fail
 refine HA.o.mono ?_;rintro e w1⟨rfl,hB⟩;obtain⟨q0,q1,q2,f0,f1,f2,hs,dx⟩:=WI hB;have fj:=HH.o.below hB;obtain⟨ac,af⟩:=fj.scp m s HM.o;obtain⟨nv,j6⟩:∃v,v=L.nv m:=⟨_,rfl⟩
 rw[<-j6]at ac af;refine YP ?_;clear hB dx fj ac af j6;intro aN d2 kL eW qP HO HN te av qQ;go_wp2_with fail
 refine Z8 [0,2,4,6,8,10,12,14,16,18,20,22,24,26,28,31,33] [17,18,19] (λW=>vC W (L.sb m) 2 nv∧vC W w.heap.size 0 (vI vk)∧vC W w.heap.size 1 (vI vn)∧vC W w.heap.size 2 (.string vs)) ⟨d2,q0,q1,q2⟩ λ_=>?_;refine dW ?_
 iterate 15
  refine dV ?_
 refine Zqo ?_;intro K hK;refine step_append_lies _ Po (.tmp 40) (.tmp 51) 109 Po 0 159 i0 _ 6 64 Tryz.underlying109 hi aD bo bT rfl Pa nv s.names.length (s.names.flatMap LBind.cells) Po ((HO.o.alloc _).drew) ⟨w1.heap.size,0,none⟩ 1 1 (LBind.cells ⟨name,⟨vk,vn,vs⟩,kind,false⟩) Po rfl (World.news_of_block (cs:=(LBind.cells ⟨name,⟨vk,vn,vs⟩,kind,false⟩).toArray) (t:=159) (fr:=(0,0)) (heap_alloc_new w1 _)) (by simp[LBind.cells,Value.oneCell']) Pa Pc O' O' (w1.heap.size+1) Pg ?_
 refine Xt ?_;clear hK K;intro gg cap w2 rH e2 HG HW HT uE;go_wp2;go_ret;refine⟨rfl,?_⟩;have aj:=Zge (b:=⟨name,⟨vk,vn,vs⟩,kind,false⟩) eW.o HM.o HN.o qP.o HG.o HW.o HT.o;obtain⟨ρ',L',hA,hF⟩:=aj;exact⟨ρ',L',hA,(Fr.of_below cM av.o).trans hF⟩):G:=i
theorem tq5{G:Prop}(i:G:=by
 go_wp2_with fail
 refine HK.o _ _ ?_;clear HK K f0 f1 y0;have py:=lh (cD.o.box 0 (st':=true) (vr':=qY) rfl);have ml:=lh (Zbz gr.o th.o 0 (.bool true));clear cD gr;generalize w2.setCell ⟨w.heap.size,0,none⟩ (.bool true)=W6 at py ml ⊢;obtain⟨pb,cb,co,cr,eu,dc⟩:=jm.slice ml.o.rowOf;obtain⟨qb,mu⟩:∃qb,qb=a.kids.length:=⟨_,rfl⟩
 rw[<-mu]at co cr;have c3:=ml.o.c3;rw[co]at c3;refine XB ?_;intro pg W7 oP xi mm hnm aK;rw[aK]at hnm;simp only[ATree.ptr,ATree.b]at hnm;have rM:=lh hnm;have lp:=lh (show EvS C M w true qY M W7 s by rw[oP];exact py.o.bel pg);have Dc:=lh (show TreeAt W7 z.heap.size a by rw[oP];exact ml.o.bel pg);have yl:=lh oP;clear co cr eu dc mu pg oP xi hnm aK mm;refine dh ?_;intro K HK;go_wp2_with fail
 rw[<-yl.o];refine rM.o.mono ?_;rintro e w8⟨v8,rfl,uM,pA⟩;obtain⟨p8,n8,c8,rfl⟩:=uM.slice;have xl:=lh (lp.o.bel pA);have BF:=lh (Dc.o.bel pA);have GP:=lh uM;clear pA uM rM c3;go_wp2_with fail
 refine HK.o _ _ ?_;clear HK K;refine wp_seq_k (λK hK=>?_);have HK:=lh hK;clear hK;obtain⟨f0,f1⟩:=xl.o.lf.two;have eO:=TE xl.o.mat HI.o sc (-1) (-3);obtain⟨nx,eG⟩:∃nx,nx=s.next:=⟨_,rfl⟩
 obtain⟨so,aV⟩:∃so,so=s.opens sc (-1) (-3):=⟨_,rfl⟩
 rw[<-eG,<-aV]at eO;have jK:=lh eO;have eP:=HI.o.opens (d:=d+13600) (outer:=sc) (object:=-1) (owner:=-3) (by have:=HA.o.lo;omega) HA.o.hi Pa O';have nn:=HA.o.opens eP.2;rw[<-aV]at eP;rw[<-aV,<-eG]at nn;have na:=lh eP.1;have ea:=lh (show FAt so nx ⟨true,nx⟩from⟨nn.root,nn.lo,nn.hi,.refl,nn.lo⟩);have HBo:=lh (show b<=so.steps∧so.steps<=20000 by rw[aV];exact HB.o);have am:R=S3 D n nx ⟨true,nx⟩ so:=by rw[gA.o,eG,aV];simp[rN.o]
 have bD:=lh am;clear eO eG aV eP nn am;conv=>arg 2;whnf
 go_wp2_with fail
 refine jK.o.mono ?_;rintro e w9⟨rfl,M9,xm,mv⟩;have hS9:=xl.o.step xm mv;have ht9:=mv.tree BF.o lV.o;have uH:=lh (hS9.box 1 (x:=(vI nx)) (st':=true) (vr':=nx) rfl);have HT9:=lh (Zbz ht9.1 th.o 1 (vI nx));have qZ:=lh ht9.2;obtain⟨g0,g1⟩:=hS9.lf.two;have y1:=hS9.lf.fz 1;clear f0 f1 xm mv hS9 ht9;go_wp2_with fail
 refine HK.o _ _ ?_;clear HK K g0 g1 y1;generalize w9.setCell ⟨w.heap.size,1,none⟩ (vI nx)=W9 at uH HT9 ⊢;refine Zmd (d:=d) HC.o iX.o HD.o uH.o HT9.o qZ.o iu.o.1 iu.o.2.1 na.o ea.o HBo.o.1 HBo.o.2 ⟨rfl,⟨rfl,rfl,rfl,rfl,rfl,trivial⟩,rfl⟩ (λy a' w' h1 h2 h3=>bodyPost_ret h1 h2 ?_) (λ_ _ d _ _ h=>by cases d<;>exact h);rw[bD.o,<-ym.o];exact h3):G:=i
theorem tq6{G:Prop}(i:G:=by
 intro m;induction m with
 |zero=>intro a h;exfalso;cases a;simp[ATree.many]at h
 | succ m ih =>
   intro a hm hT s hg w hI;have IH:=lh ih;have HT:=lh hT;have HG:=lh hg;have HM:=lh hm;have HC:=hg a s (.self a s) w hI;rw[Z91];unfold ATree.ptr at HC ⊢;have kv:∀(i:Nat) (k x:ATree) (s':σ),(g s a).1=true->a.kids[i]?=some k->Reach g k (rf g (a.kids.take i) (g s a).2) x s'->Reach g a s x s':=λi k x s' h1 h2 h3=>.kid h1 h2 h3;obtain⟨ok,s1,pB⟩:∃ok s1,g s a=(ok,s1):=⟨_,_,rfl⟩
   rw[pB]at HC kv ⊢;have pC:=lh kv;clear kv;have HC:=lh HC;clear ih hT hg hm hI pB;cases ok;·exact XG
   .simp only[if_true];go_enter Tryz.func28,Tryz.ntmps28
    go_wp2_with fail
    refine Zu7 ?_;intro w1 gj ni ac ae p cp hv;rw[hv]at ac;refine Zuo ?_;intro c3 aH eL HV n hn;rw[<-hn]at c3 aH;have HN:=lh hn;clear gj ni ac ae hv hn HC;go_wp2_with fail
    go_loopw [19] (λi wr=>∃k:Nat,k<=n∧i=(vI k)∧Hid (Inv (rf g (a.kids.take k) s1) wr)) (λi _=>n-(intOf i).toNat)
    case atStart=>exact⟨0,Nat.zero_le _,rfl,lh (by simpa[rf]using eL.o)⟩
    case round=>
     obtain⟨k,hk,rfl,HI⟩:=hrel;by_cases bV:k<n
     .obtain⟨x,hx⟩:∃x,a.kids[k]? =some x:=⟨_,List.getElem?_eq_getElem Pu⟩
      have eK:=HT.o _ _ HI.o;have ae:=eK.rowOf;rcases Z4 ae with⟨_,h2⟩|⟨g0,gf,fG,k1,k2,k3⟩;·rw[<-HN.o]at h2;omega
      have hp:p=some ⟨g0,0,none⟩:=by
       have:=HV.o.symm.trans fG;simp only[Value.slice.injEq]at this;exact this.1
      subst hp;refine NP ?_;intro cx;unfold ATree.ptr at cx;have aU:x∈a.kids:=List.mem_of_getElem? hx;have cX:=IH.o x (by have:=WQ aU;have:=HM.o;omega) (λs w h=>(HT.o s w h).kid aU) _ (λy s' hy=>HG.o y s' (pC.o k x y s' (by first|rfl|trivial) hx hy)) _ HI.o;exact tr3
     .have aR:k=n:=by omega
      subst aR;go_wp2;go_end0
      refine⟨rfl,?_⟩;have:=HI.o;rwa[List.take_of_length_le Ra]at this):G:=i
theorem tq7{G:Prop}(i:G:=by
 unfold iD at HT;have HT:=lh HT;go_wp2_with fail
 refine HT.o.mono ?_;rintro e w5⟨rfl,kQ,em⟩;have P5:=PX.o.tail kQ em;have G5:=GX.o.rfr aA em;have F5:=FX.o.trans em;have hblk5:=G5.at'.blkOf;simp only[ATree.b,ATree.v,ATree.kind,ATree.text,ATree.n]at hblk5;have n3:vC w5 nb 3 (.slice none 0 0):=by simp[vC,World.cell?,hblk5]
 have P5:=lh P5;have G5:=lh G5;have F5:=lh F5;clear kQ em hblk5 HT PX GX FX;go_wp2_with fail
 refine Z8 [0,2,4,6,8,10,13,15,17] [9,10,11] (λW=>vC W nb 3 (.slice none 0 0)) n3 λ_=>?_;refine dW ?_
 iterate 6
  refine dV ?_
 refine Z6 (λK hK=>?_);go_simp
 have P6:Pre w5.drew rb B d us.tail:=P5.o.below (Below.refl _ _).drew;rcases Zf H2.o with⟨⟨c,p⟩,hv,rfl⟩|⟨t,vs,hv,gV⟩
 .refine(hV w5.drew rb B d _ _ P6 hv).mono ?_;rintro e w3⟨⟨b,rfl,h1,h2⟩,bq⟩;exact⟨rfl,ll.pre F5.o.drew (r:=.error (c,p)) ⟨⟨b,rfl,h1,h2⟩,bq⟩⟩
 .obtain rfl:=Option.some.inj gV;refine(hV w5.drew rb B d _ _ P6 hv).mono ?_;rintro e w3⟨a,rfl,hA,bK,bq⟩;have hF53:RFr w5 w3 rb:=(RFr.refl w5 rb).drew.trans bq;have eM:=G5.o.rfr aA hF53;refine sJ ?_;intro ac;have m3:vC w3 nb 3 (.slice none 0 0):=by simp[vC,World.cell?,ac]
  refine SY ?_;intro mz de;have gz:([]:List ATree).length<=4000:=Pg
  have NE:Hid ((Value.slice none 0 0).ownBlock≠some nb):=lh (by simp[Value.ownBlock]);have N3:=lh eM;have A3:=lh hA;have R3:=lh bK;have F3:=lh (F5.o.trans hF53);refine s5 ?_;intro i0 hi aD bo bT;clear hK K hA bK bq hF53 eM ac hv gV n3;refine ta ?_;intro K hK
  refine step_append_lies _ Po (.tmp 27) (.tmp 30) 40 Po B 22 i0 _ 1 8 Tryz.underlying40 hi aD bo bT rfl Pa (.slice none 0 0) (([]:List ATree)).length ((([]:List ATree)).map ATree.ptr) Po (N3.o.at'.rowOf.alloc _) ⟨w3.heap.size,0,none⟩ 1 1 [a.ptr] Po rfl (World.news_of_block (cs:=#[a.ptr]) (t:=22) (fr:=(0,0)) (heap_alloc_new w3 _)) Pq Pa Pc O' PW (w3.heap.size+1) Pg ?_;intro gg cap w4 aT aC bX cg
  have m4:vC w4 nb 3 (.slice none 0 0):=(aC.cell_far ⟨nb,3,none⟩ Pe (λe=>NE.o e.symm)).trans ((Zb de).trans m3);refine RF ?_;clear hK K;intro lT;have aj:=Got.push aA HP.o.le N3.o (wA:=w5.drew) (λx hx=>(G5.o.new x hx).2) A3.o F3.o R3.o ((Below.refl _ _).alloc (Nat.le_refl _) _) aC aT Pk cg;have ca:=lh aj;clear aC aT bX cg aj;refine Z0 ?_;go_wp2;go_ret;exact⟨_,rfl,ca.o.1,ca.o.2.2,ca.o.2.1⟩):G:=i
theorem tq8{G:Prop}(i:G:=by
 refine RY ?_;refine mA ?_;go_wp2;refine bodyPost_ret (v:=.tuple #[.bool false,.agg #[vI 0,vI 0,.string ⟨#[]⟩],.nilIface]) ?_ rfl ?_;·simp[results,Tryz.results45,go_sem,q0,q1,q2]
 .exact .fine' ar.o bM.o bW.o.drew (aZ.o.trans (.drew (.refl _ _)))):G:=i
theorem tq9{G:Prop}(i:G:=by
 obtain⟨tb,off,cap,h⟩:=hR;have c1:=h.c1;have z1:=h.fz 1;have yo:=h.rlt;have hS:Rd (w.setCell ⟨rb,1,none⟩ (vI ((d:Int)+1))) rb ts (d+1):=⟨tb,off,cap,h.deep O'⟩
 have HS:=lh hS;have HH:=lh h;have HC:=lh HC;clear h hS;unfold vX at hr;by_cases hd30:30<d+1
 .rw[if_pos hd30]at hr;obtain rfl:=Option.some.inj hr;have rO:decide ((d:Int)+1>30)=true:=by simp;omega
  have HF:=lh (S7 _ rb ts (d+1) 4 HS.o);clear hr;go_enter Tryz.func64,Tryz.ntmps64
  go_wp2_with fail
  refine HF.o.mono ?_;rintro e w2⟨⟨b,rfl,h1,h2⟩,hB⟩;rw[World.size_setCell]at h1;refine⟨rfl,⟨b,rfl,h1,h2⟩,?_⟩;exact((RFr.refl w rb).set 1 _).trans (RFr.below hB)
 .rw[if_neg hd30]at hr;have be:(w.setCell ⟨rb,1,none⟩ (vI ((d:Int)+1))).heap.size=w.heap.size:=World.size_setCell ..;have HX:=lh (HC.o O' hr _ HS.o be);have xo:=lh be;clear be hr;go_enter Tryz.func64,Tryz.ntmps64
  go_wp2_with fail
  refine HX.o.mono ?_;rcases r with⟨c,p⟩|⟨t,ts'⟩
  .rintro e w2⟨⟨b,rfl,h1,h2⟩,hF⟩;rw[xo.o]at h1;exact⟨rfl,⟨b,rfl,h1,h2⟩,((RFr.refl w rb).set 1 _).trans hF⟩
  .rintro e w2⟨a,rfl,hG,⟨GR,yp,je,h2⟩,hF⟩;have k1:=h2.c1;have kz:=h2.fz 1;have H2:=lh h2;have HG:=lh hG;have HF:=lh hF;clear hG h2 hF;go_wp2;go_ret;exact⟨a,rfl,(HG.o.rfr hB ((RFr.refl w2 rb).set _ _)).pre ((RFr.refl w rb).set 1 _),⟨GR,yp,je,H2.o.deep O'⟩,(((RFr.refl w rb).set 1 _).trans HF.o).set 1 _⟩):G:=i
theorem Aah{G:Prop}(i:G:=by
 have dS:=lh (λW M' (f:MFr M M' W0 W)=>HS.o W M' ((MFr.of_below jL.o).trans f));have bS:=lh (λW (hB:Below W0.heap.size W0 W)=>bF.o W (jL.o.trans (hB.mono jL.o.size)));have ir:=lh (HM.o.below jL.o);have rP:=lh (Nat.le_trans HE.o jL.o.size)
 refine uY (.take 0 (.take 1 (.take 2 (.take 3 (.take 4 (.take 5 (.take 6 (.take 7 (.take 8 (.two 9 (.take 10 (.take 11 (.take 12 (.go 13 (.go 14 (.go 15 (.nil))))))) 13 (.go 9 (.take 10 (.take 11 (.take 12 (.go 14 (.go 15 (.nil))))))))))))))))) 14 (λW=>vC W w.heap.size 0 (.bool fr.strict)∧vC W w.heap.size 1 (vI fr.vars)∧vC W a.b 3 (.slice (some ⟨kg,0,none⟩) 1 kc)∧vC W kg 0 (vP o.b)∧vC W o.b 0 (vI o.kind)∧vC W o.b 1 (.string o.text)) (dS.o _ _ (MFr.drew (.refl _ _))) ?_
 refine lM ?_;refine Zt ?_;apply L4 (H:=pV C w M W0 r1);·exact RD dS bS rP.o HO.o
 .exact Zwl dS bS ir rP.o HO.o
 intro W1 p1 M1 k1 n1 t1 bU ai;have F1:=(MFr.of_below (M:=M) jL.o).trans ai.1.2.1;have bw:=lh F1;obtain⟨s1,q1⟩:=r1;cases q1 with
 | error x1 =>
   exact tr5
 | ok v1 =>
   obtain⟨rfl,rfl⟩:v1=⟨k1,n1,t1⟩∧bU=.nilIface:=ai.1.2.2;have hR:=HR.o;simp only[f7]at hR;obtain⟨c0,c1,c2,-,-,-⟩:=ai.2.six;have pE:=bR.o.2.2.2.1;have bG:=Zkh ai.1.1 ⟨k1,n1,t1⟩ pE.1 pE.2.1;obtain⟨ks,bO⟩:∃ks,ks=SX s1.H ⟨k1,n1,t1⟩:=⟨_,rfl⟩
   rw[<-bO]at bG hR;simp only[LVal.agg]at bG;have pF:=lh bG;have bZ:=lh ai.1.1;have am:R=(s1,.ok ⟨4,0,ks⟩):=hR;clear ai F1 HR bG bO hR pE;subst am;go_wp2_with fail
   refine pF.o.mono ?_;rintro e W2⟨rfl,au⟩;have aO:=lh au;have jf:=Y' W2 ks;simp only[LVal.agg]at jf;have Dd:=lh jf;clear au jf c0 c1 c2;go_wp2_with fail
   refine Dd.o.mono ?_;rintro e W3⟨rfl,aB⟩;have eQ:=aO.o.trans (aB.mono aO.o.size);obtain⟨q0,q1,q2,z0,z1,z2⟩:=(ar.o.fr (bw.o.trans (.of_below eQ))).six;have fc:=lh eQ;clear aB eQ;go_wp2;refine bodyPost_ret (v:=.tuple #[.agg #[vI 4,vI 0,.string ks],.nilIface]) ?_ rfl ?_;·simp[results,Tryz.results120,go_sem,q0,q1,q2]
   .exact .fine ar.o bJ.o (bZ.o.below fc.o) (bw.o.trans (.of_below fc.o))):G:=i
theorem TD{G:Prop}(i:G:=by
 go_enter Tryz.func45,Tryz.ntmps45
 go_wp2_with fail
 rw[<-lN.o];clear f5 y5 g5 d3 d0 d1 f0 f1;obtain⟨m0,m1,m2,-,-,-⟩:=(bQ.o.fr lO.o).six;obtain⟨q0,q1,q2,z0,z1,z2⟩:=(ar.o.fr lO.o).six;refine RY ?_;refine mA ?_;go_wp2;refine bodyPost_ret (v:=.tuple #[.bool false,.agg #[vI 0,vI 0,.string ⟨#[]⟩],.nilIface]) ?_ rfl ?_;·simp[results,Tryz.results45,go_sem,q0,q1,q2]
 .exact .fine' ar.o bM.o oI.o.drew (lO.o.trans (.drew (.refl _ _)))):G:=i
theorem XJ{G:Prop}(i:G:=by
 have ko:ak C M3 W3 x3 fg:=aX.1.2.2;have bK:R=vH D sc fr ((l.drop (k+1)).map (ATree.nt C.N)) (s3,.error x3):=HR.o;obtain⟨T1,P1,rfl,hP⟩:=ko.ne;have il:=lh ko;have dU:=lh bK;have mw:=lh (Fin.pre eo.o.2.1 eo.o.2.2.1 bC.o);clear aX F3 ko HR;cases b3
 .go_wp2_with fail
  refine Vg ?_;intro b0 b1 b2 q0 q1 q2 z0 pe z2 j0;refine mA ?_;have HNL:=lh (il.o.fr (.drew (.refl _ _)));have g4:=j0.o.2.2.2 _ _ HNL.o;go_wp2_with fail
  go_roundw
  case rel=>exact⟨k+1,M3,(s3,.error x3),false,k3,n3,t3,by omega,by go_num,rfl,lh j0.o.1,lh j0.o.2.1,lh j0.o.2.2.1,lh g4,mw,dU⟩
  case measure=>simp[intOf];omega
 .go_wp2_with fail
  refine Vg ?_;intro b0 b1 b2 q0 q1 q2 z0 pe z2 j0;refine mA ?_;have HNL:=lh (il.o.fr (.drew (.refl _ _)));have g4:=j0.o.2.2.2 _ _ HNL.o;go_wp2_with fail
  go_roundw
  case rel=>exact⟨k+1,M3,(s3,.error x3),true,k3,n3,t3,by omega,by go_num,rfl,lh j0.o.1,lh j0.o.2.1,lh j0.o.2.2.1,lh g4,mw,dU⟩
  case measure=>simp[intOf];omega):G:=i
theorem XW{G:Prop}(i:G:=by
 obtain⟨k,c,hk,rfl,rfl,rfl,HK⟩:=hrel;by_cases bV:k<q
 .obtain⟨y,hy⟩:∃y,P[k]? =some y:=⟨_,List.getElem?_eq_getElem Pr⟩
  obtain⟨g0,hp⟩:=gZ.o k y hy;subst hp;have aU:=oV.o y (List.mem_of_getElem? hy);have cx:=N2.o.cell rfl hy;have c1:=(gr.o.kid aU).c1;have e9:P.drop k=y::P.drop (k+1):=by
   obtain⟨hl,he⟩:=List.getElem?_eq_some_iff.1 hy;rw[List.drop_eq_getElem_cons hl,he]
  clear aU hy;cases c
  .by_cases hs:Zg y.text Zd=true
   .have hb:(y.text.toList== [97,114,103,117,109,101,110,116,115])=true:=by rw[<-Zd2,RV,hs]
    have xd:=lh (show(o||(P.map (ATree.nt C.N)).any λk=>Zg k.text Zd)=(true||((P.drop (k+1)).map (ATree.nt C.N)).any λk=>Zg k.text Zd) by rw[HK.o,e9,List.map_cons,List.any_cons,Zz,hs];rfl);clear HK hs e9;exact YL
   .rw[Bool.not_eq_true]at hs;have hb:(y.text.toList== [97,114,103,117,109,101,110,116,115])=false:=by rw[<-Zd2,RV,hs]
    have xd:=lh (show(o||(P.map (ATree.nt C.N)).any λk=>Zg k.text Zd)=(false||((P.drop (k+1)).map (ATree.nt C.N)).any λk=>Zg k.text Zd) by rw[HK.o,e9,List.map_cons,List.any_cons,Zz,hs];rfl);clear HK hs e9;go_wp2_with fail
    go_roundw
    case rel=>exact⟨k+1,false,by omega,by first|rfl|rw[hb],by go_num,trivial,xd⟩
    case measure=>simp[intOf];omega
  .have xd:=lh (show(o||(P.map (ATree.nt C.N)).any λk=>Zg k.text Zd)=(true||((P.drop (k+1)).map (ATree.nt C.N)).any λk=>Zg k.text Zd) by rw[HK.o];simp);clear HK e9;exact YL
 .have aR:k=q:=by omega
  subst aR;have hR:=HK.o;rw[List.drop_eq_nil_of_le Rb,List.map_nil,List.any_nil,Bool.or_false]at hR;go_wp2_with fail
  exact eg.o _ _ ⟨rfl,⟨rfl,rfl,rfl,rfl,rfl,rfl,by rw[hR];rfl,trivial⟩,rfl⟩ aO.o):G:=i
theorem Vx{G:Prop}(i:G:=by
 subst hr;clear h h1 hob cS hm dI ap hk hp af hv ae bz;go_enter Tryz.func122,Tryz.ntmps122
 go_wp2_with fail
 refine SN ?_;intro w1 q0 q1 q2 f0 f1 f2 hs d0 d1 d2 eW HB;go_wp2_with fail
 refine Ve ?_;intro w2 au fE r0 r1 r2 r3;have r4:=HR.o w2 fE 4 (vI uN) rfl;have z1:=HZ.o w2 fE (k*6+1);have z2:=HZ.o w2 fE (k*6+1+1);have z3:=HZ.o w2 fE (k*6+1+2);refine Te ?_;intro mq jw nS;have nU:=lh fE;have aO:=lh (HB.o.trans (au.mono (Nat.le_of_lt hs)));clear au fE q0 q1 q2 f0 f1 f2 d0 d1 d2;go_wp2;go_ret;exact⟨rfl,ρ,L,nU.o,Fr.of_below cM aO.o⟩):G:=i
theorem Aar{G:Prop}(i:G:=by
 refine U0 ?_;clear s9 hm4;intro W6 p6 M6 u0 u1 q0 q1 q2 z0 z1 z2 p0 p1 p2 jX mh;have hi4:Inv s4 (d+1):=by
  rw[HSs4.o];exact(nQ.o.object (d:=d+1) (code:=3+(n0:Int)) O' (by rw[HSs3.o,qL.o];simp;omega)).1
 have fm:=TN jX.o.1.drew hi4 nx a.text 3 ⟨5,nO,⟨#[]⟩⟩;simp only[LVal.agg]at fm;have lW:=lh fm;clear hi4 fm
 have lp:=lh (show∀W' M',MFr M6 M' W6 W'->vC W' a.b 1 (.string a.text)∧vC W' p6 0 (vI 5)∧vC W' p6 1 (vI nO)∧vC W' p6 2 (.string ⟨#[]⟩)from
  λW' M' f=>⟨(HS.o W' M' (mh.o.trans f)).2.1,(jX.o.2.2.fr f).cell rfl,(jX.o.2.2.fr f).cell rfl,(jX.o.2.2.fr f).cell rfl⟩)
 go_wp2_with fail
 refine oi [(true,0),(true,1),(true,2),(true,3),(true,4),(true,5),(true,6),(true,7),(true,8)] [9] (λW=>vC W a.b 1 (.string a.text)∧vC W p6 0 (vI 5)∧vC W p6 1 (vI nO)∧vC W p6 2 (.string ⟨#[]⟩)) (lp.o _ _ (.drew (.refl _ _))) (λbu=>?_);refine ep ?_;refine Z0 ?_;clear q0 q1 q2 z0 z1 z2 p0 p1 p2 u0 u1;go_wp2_with fail
 refine lW.o.mono ?_;rintro e W7⟨rfl,M7,kw,dK⟩;have hF7':=(MFr.drew (.refl M6 W6)).trans dK;obtain⟨-,p0,p1,p2⟩:=lp.o _ _ hF7';obtain⟨q0,q1,q2,z0,z1,z2⟩:=(ar.o.fr (mh.o.trans hF7')).six;have HMX:=lh kw;have oJ:=lh (mh.o.trans hF7');clear kw dK hF7';go_wp2;refine bodyPost_ret (v:=.agg #[vI 5,vI nO,.string ⟨#[]⟩]) ?_ rfl ?_;·simp[results,Tryz.results21,go_sem,q0,q1,q2]
 .obtain⟨g1,g2,g3⟩:=(ar.o.fr oJ.o).ret (x':=(vI 5)) (y':=(vI nO)) (z':=.string ⟨#[]⟩) HMX.o ((MFr.of_below bJ.o).trans oJ.o);exact⟨by rw[HNO2.o],_,by rw[np.o];exact(by have:=g1;rw[HSs4.o,HSs3.o,qL.o]at this;rw[HNO2.o]at this ⊢;simpa[LVal.ref]using this),g2⟩):G:=i
theorem Ug{G:Prop}(i:G:=by
 go_wp2_with fail
 refine HE.o.mono ?_;rcases r with⟨c,p⟩|⟨t,ts'⟩
 .rintro e wz⟨⟨b,rfl,h1,h2⟩,hF⟩;exact⟨rfl,⟨b,rfl,h1,h2⟩,hF⟩
 .rintro e wz⟨az,rfl,hG,hR,hF⟩;have HG:=lh hG;have HR:=lh hR;have HF:=lh hF;clear hG hR hF HE;go_wp2;go_ret;exact⟨az,rfl,HG.o,HR.o,HF.o⟩):G:=i
theorem Vo{G:Prop}(i:G:=by
 obtain⟨s3,q3⟩:=R;cases q3 with
 | error x3 =>
   have il:=lh (show ak C M3 W3 x3 fg from bP.o.2.2);go_wp2;refine bodyPost_ret (v:=.tuple #[.bool b3,.agg #[vI k3,vI n3,.string t3],fg]) ?_ rfl ?_;·simp[results,Tryz.results45,go_sem,q0,q1,q2]
   .exact .err' ar.o bM.o bP.o.1 bE.o il.o
 | ok v3 =>
   obtain⟨rfl,rfl⟩:v3=(b3,⟨k3,n3,t3⟩)∧fg=.nilIface:=bP.o.2.2;go_wp2;refine bodyPost_ret (v:=.tuple #[.bool b3,.agg #[vI k3,vI n3,.string t3],.nilIface]) ?_ rfl ?_;·simp[results,Tryz.results45,go_sem,q0,q1,q2]
   .exact .fine' ar.o bM.o bP.o.1 bE.o):G:=i
theorem Aaw{G:Prop}(i:G:=by
 obtain⟨rfl,rfl⟩:v3=(b3,⟨k3,n3,t3⟩)∧fg=.nilIface:=bP.o.2.2;go_wp2;refine bodyPost_ret (v:=.tuple #[.bool b3,.agg #[vI k3,vI n3,.string t3],.nilIface]) ?_ rfl ?_;·simp[results,Tryz.results45,go_sem,q0,q1,q2]
 .exact .fine' ar.o bM.o bP.o.1 bE.o):G:=i
theorem Vk{G:Prop}(i:G:=by
 rw[<-mB]at av hR;subst hR;clear mB;obtain⟨s1,q⟩:=R;simp only[ag];cases q with
 | error x1 =>
   have he:ak C M1 w1 x1 bU:=av.o.2.2;have HE:=lh he;clear he;go_wp2;refine bodyPost_ret (v:=.tuple #[.agg #[vI k1,vI n1,.string t1],bU]) ?_ rfl ?_;·simp[results,Tryz.results119,go_sem,q0,q1,q2]
   .exact .err ar.o bJ.o av.o.1 av.o.2.1 HE.o
 | ok v1 =>
   obtain⟨rfl,rfl⟩:v1=⟨k1,n1,t1⟩∧bU=.nilIface:=av.o.2.2;go_wp2;refine bodyPost_ret (v:=.tuple #[.agg #[vI k1,vI n1,.string t1],.nilIface]) ?_ rfl ?_;·simp[results,Tryz.results119,go_sem,q0,q1,q2]
   .exact .fine ar.o bJ.o av.o.1 av.o.2.1):G:=i
theorem Aay{G:Prop}(i:G:=by
 have il:=lh (show ak C M3 W3 x3 fg from bP.o.2.2);go_wp2;refine bodyPost_ret (v:=.tuple #[.bool b3,.agg #[vI k3,vI n3,.string t3],fg]) ?_ rfl ?_;·simp[results,Tryz.results45,go_sem,q0,q1,q2]
 .exact .err' ar.o bM.o bP.o.1 bE.o il.o):G:=i
theorem Xa{G:Prop}(i:G:=by
 go_wp2;refine bodyPost_ret (v:=.agg #[vI 5,vI nO,.string ⟨#[]⟩]) ?_ rfl ?_;·simp[results,Tryz.results21,go_sem,q0,q1,q2]
 .obtain⟨g1,g2,g3⟩:=(ar.o.fr oJ.o).ret (x':=(vI 5)) (y':=(vI nO)) (z':=.string ⟨#[]⟩) HMX.o ((MFr.of_below bJ.o).trans oJ.o);exact⟨by rw[HNO2.o],_,by rw[np.o];exact(by have:=g1;rw[HSs4.o,HSs3.o,qL.o]at this;simpa using this),g2⟩):G:=i
theorem Sg{G:Prop}(i:G:=by
 have HC:=lh HC;clear hv;go_wp2_with fail
 refine HC.o.mono ?_;rintro e wz⟨⟨b,rfl,h1,h2⟩,hF⟩;exact⟨rfl,ll.pre F2.o (r:=.error (c,p)) ⟨⟨b,rfl,h1,h2⟩,hF⟩⟩):G:=i
theorem ZF{G:Prop}(i:G:=by
 cases q3 with
 | error x3 =>
   have il:=lh (show ak C M3 W3 x3 fg from bP.o.2.2);go_wp2;refine bodyPost_ret (v:=.tuple #[.agg #[vI k3,vI n3,.string t3],fg]) ?_ rfl ?_;·simp[results,Tryz.results77,go_sem,q0,q1,q2]
   .exact .err' ar.o bM.o bP.o.1 bE.o il.o
 | ok v3 =>
   obtain⟨rfl,rfl⟩:v3=⟨k3,n3,t3⟩∧fg=.nilIface:=bP.o.2.2;go_wp2;refine bodyPost_ret (v:=.tuple #[.agg #[vI k3,vI n3,.string t3],.nilIface]) ?_ rfl ?_;·simp[results,Tryz.results77,go_sem,q0,q1,q2]
   .exact .fine' ar.o bM.o bP.o.1 bE.o):G:=i
theorem XF{G:Prop}(i:G:=by
 have dU:=lh (show R=vH D sc fr ((l.drop (k+1)).map (ATree.nt C.N)) (s3,.ok (true,⟨k3,n3,t3⟩))from HR.o);have mw:=lh (Fin.pre eo.o.2.1 eo.o.2.2.1 bC.o);clear HR;go_wp2_with fail
 refine Vg ?_;intro b0 b1 b2 q0 q1 q2 z0 pe z2 j0;refine mA ?_;go_wp2_with fail
 go_roundw
 case rel=>exact⟨k+1,M3,(s3,.ok (true,⟨k3,n3,t3⟩)),true,k3,n3,t3,by omega,by go_num,rfl,lh j0.o.1,lh j0.o.2.1,lh j0.o.2.2.1,lh ⟨rfl,rfl⟩,mw,dU⟩
 case measure=>simp[intOf];omega):G:=i
theorem Aan{G:Prop}(i:G:=by
 rintro e wz⟨⟨b,rfl,h1,h2⟩,hF⟩;exact⟨rfl,ll.pre F2.o (r:=.error (c,p)) ⟨⟨b,rfl,h1,h2⟩,hF⟩⟩):G:=i
theorem Xj{G:Prop}(i:G:=by
 have gh:TU ao=(decide (xp=18)&&Zg t1 UT):=by rw[<-kA.o];rfl
 have iu:=lh gh;clear ae rQ rR fA ai mC gh;by_cases h18:xp=18
 .subst h18;by_cases jM:t1=UT
  .subst jM;have H1:=lh (yq.o (by rw[iu.o];simp[Zg]));unfold UT at e1;go_wp2;go_ret;exact H1.o
  .have H0:=lh (pG.o (by rw[iu.o];simp[Zg,jM]));have aK:¬t1.toList=UT.toList:=λh=>jM (Z4y h);have jG:(t1.toList==UT.toList)=false:=by simpa using aK
   have hl:UT.toList=[117,115,101,32,115,116,114,105,99,116]:=by rw[Lib.toList_data];rfl
   have pc:¬t1.toList=[117,115,101,32,115,116,114,105,99,116]:=by rw[<-hl];exact aK
   have hne4:(t1.toList== [117,115,101,32,115,116,114,105,99,116])=false:=by simpa using pc
   unfold UT at aK jG;clear jM hl;go_wp2;go_ret;exact H0.o
 .have n18:(xp==18)=false:=by simpa using h18
  have H0:=lh (pG.o (by rw[iu.o];simp[h18]));clear h18;go_wp2;go_ret;exact H0.o):G:=i
theorem Vs{G:Prop}(i:G:=by
 rw[<-ex]at h1;have eL:=lh h1;clear h1 ex hR;subst am;go_enter Tryz.func119,Tryz.ntmps119
 go_wp2_with fail
 rw[<-HZ.o];clear x0 x1 x2 y0 y1 y2;refine eL.o.mono ?_;refine YO ?_;intro w1 q0 q1 q2 z0 z1 z2 av;go_wp2;refine bodyPost_ret (v:=.tuple #[.agg #[vI 2,vI ib,.string ⟨#[]⟩],.nilIface]) ?_ rfl ?_;·simp[results,Tryz.results119,go_sem,q0,q1,q2]
 .exact .fine ar.o bJ.o (HM.o.below av.o) (.of_below av.o)):G:=i
theorem WX{G:Prop}(i:G:=by
 go_wp2_with fail
 refine Z8 [0,2,4,6,8,10,12,14,16,18,20,22,24,26,28,30,32,34,36] [19,20,21] (λW=>vC W sb 0 (.string text)∧vC W sb 1 (vI i)) ⟨q0,q1⟩ λ_=>?_;refine dW ?_
 iterate 19
  refine dV ?_
 refine Z0 ?_;go_wp2;refine Z8 [0,2,4,6,8,10] [6] (λW=>vC W sb 1 (vI i)) q1 λ_=>?_;refine dW ?_
 iterate 6
  refine dV ?_
 refine Z0 ?_;go_wp2;go_ret3
 rw[bD.o];exact⟨rfl,SI.o.drew.drew⟩):G:=i
theorem ZD{G:Prop}(i:G:=by
 have he:ak C M1 W1 x1 bU:=qO.o;have am:R=(s2,.error x1):=HR.o;clear HR;subst am;obtain⟨T1,P1,rfl,hP⟩:=he.ne;have ej:=lh he;clear he;obtain⟨m0,m1,m2,-,-,-⟩:=(bQ.o.fr ei.o).six;obtain⟨q0,q1,q2,z0,z1,z2⟩:=(ar.o.fr ei.o).six;go_wp2_with fail
 refine RY ?_;refine mA ?_;go_wp2;refine bodyPost_ret (v:=.tuple #[.bool false,.agg #[vI 0,vI 0,.string ⟨#[]⟩],.iface T1 (.pointer P1)]) ?_ rfl ?_;·simp[results,Tryz.results45,go_sem,q0,q1,q2]
 .exact .err' ar.o bM.o jD.o.drew (ei.o.trans (.drew (.refl _ _))) ej.o):G:=i
theorem yR{G:Prop}(i:G:=by
 rintro e w9⟨⟨b,rfl,h1,h2⟩,hB⟩;exact⟨rfl,ll.err FQ.o ⟨b,rfl,h1,h2⟩ hB⟩):G:=i
theorem y8{G:Prop}(i:G:=by
 simp only[ATree.tree,Tree.mk.injEq,true_and]at h2;rw[h2]at h1;exact h1):G:=i
theorem XR{G:Prop}(i:G:=by
 go_wp2_with fail
 rw[<-nW.o];refine(kB.o w1 De.o).mono ?_;rintro e w3⟨rfl,aX⟩;obtain⟨r0,r1,gu,mr⟩:=cU.o w3 aX;have gy:=lh gu;have ms:=lh mr;clear aX gu mr q0 q1;cases SB
 .simp only[Bool.false_eq_true,if_false]at ti ⊢;go_wp2_with fail
  refine(gm.o w3 ms.o).mono ?_;rintro e w4⟨rfl,eE⟩;have jX:=zT gy eE;clear eE;by_cases hz:RK=0
  .subst hz;go_wp2;go_ret;exact⟨by rw[ti.o];rfl,jX.o⟩
  .have n0:(RK !=0)=true:=by simpa using hz
   have HEV2:Hid (ev=.iface 34 (vI RK)):=lh (by rw[ti.o];unfold df;rw[if_neg hz]);clear hz ti;go_wp2;go_ret;exact⟨by rw[HEV2.o];rfl,jX.o⟩
 .simp only[if_true]at ti ⊢;go_wp2;go_ret;exact⟨by rw[ti.o];rfl,gy.o⟩):G:=i
theorem V9{G:Prop}(i:G:=by
 have HC:=lh (UV w3 rb B _ d _ _ P3.o.rd (by have:=P3.o.deep;omega) aA hv λhd h1 w4 hR hs=>HS.o w4 rb B (d+1) _ _ ⟨hR,hd,aA,by have:=P3.o.le;omega,P3.o.few⟩ h1);clear hv;go_wp2_with fail
 refine HC.o.mono ?_;rintro e wz⟨⟨b,rfl,h1,h2⟩,hF⟩;exact⟨rfl,ll.pre F3.o (r:=.error (c,p)) ⟨⟨b,rfl,h1,h2⟩,hF⟩⟩):G:=i
theorem Vf{G:Prop}(i:G:=by
 refine ep ?_;refine Z0 ?_;go_wp2_with fail
 refine HW.o.mono ?_;rintro e W4⟨rfl,M4,fN,bh⟩;have jg:=lh fN;have kC:=lh ((ei.o.trans bE.o).trans ((MFr.drew (.refl M3 W3)).trans bh));clear fN bh;go_wp2_with fail
 go_roundw
 case rel=>exact⟨k+1,M4,sb,by omega,by go_num,jg,kC,tj,tt,bD⟩
 case measure=>simp[intOf];omega):G:=i
theorem Yv{G:Prop}(i:G:=by
 rw[e];clear e;go_enter Tryz.func129,Tryz.ntmps129
 go_wp2_with fail
 refine Z8 [0,2,4,6,8,10,12,14,16] [9,10,11] (λW=>vC W w.heap.size 0 (vI 5)∧vC W w.heap.size 1 (vI n)) ⟨World.cell?_alloc_new _ _ _ 0,World.cell?_alloc_new _ _ _ 1⟩ λ_=>?_;refine dW ?_
 iterate 9
  refine dV ?_
 refine Z0 ?_;go_wp2_with fail
 refine HC.o.mono ?_;rintro e w1⟨rfl,rfl⟩;go_wp2;go_ret;exact⟨rfl,HB.o.drew⟩):G:=i
theorem Vl{G:Prop}(i:G:=by
 exact⟨mb,⟨λ_=>⟨e,h1,Nat.lt_of_lt_of_le h2 hg.size,_,by have:(false).toNat=0:=rfl;have:(true).toNat=1:=rfl;omega,ho⟩,(λh=>by cases h),hm.2.2.1,(λh=>by cases h)⟩,hc.keep hr hB hg.size hg.os hg.tape hg.output (λx hx hn=>hg.block x hx (λe=>hn (by cases e;rfl))) h1 (.inl rfl),hr,hB,Nat.le_trans hs hg.size⟩):G:=i
theorem YI{G:Prop}(i:G:=by
 rw[<-Df]at hR fT;clear Df;subst hR;obtain⟨s9,q9⟩:=R;cases q9 with
 | error x9 =>
   have HE9:=lh (show ak C M9 W9 x9 BG from fT.o.2.2);go_wp2;refine bodyPost_ret (v:=.tuple #[.bool b9,.agg #[vI k9,vI n9,.string t9],BG]) ?_ rfl ?_;·simp[results,Tryz.results80,go_sem,q0,q1,q2]
   .exact .err ar.o bJ.o fT.o.1 qZ.o HE9.o
 | ok v9 =>
   obtain⟨rfl,rfl⟩:v9=(b9,⟨k9,n9,t9⟩)∧BG=.nilIface:=fT.o.2.2;go_wp2;refine bodyPost_ret (v:=.tuple #[.bool b9,.agg #[vI k9,vI n9,.string t9],.nilIface]) ?_ rfl ?_;·simp[results,Tryz.results80,go_sem,q0,q1,q2]
   .exact .fine ar.o bJ.o fT.o.1 qZ.o):G:=i
theorem KA{G:Prop}(i:G:=by
 go_wp2_with fail
 refine HC.o.mono ?_;rintro e w1⟨rfl,rfl⟩;go_wp2;go_ret;exact⟨rfl,rfl⟩):G:=i
theorem ZA{G:Prop}(i:G:=by
 go_wp2;refine Z8 [0,2,4,10,7,8] [6] (λW=>vC W tb 3 (vI j)) t3 λ_=>?_;refine dW ?_
 iterate 4
  refine dV ?_
 refine Zn8 ?_
 iterate 1
  refine dV ?_
 refine Z0 ?_;go_wp2;go_ret2
 rw[HE.o];exact Yq (M4.o.scan.belowOf B1.o fA) _):G:=i
theorem V'{G:Prop}(i:G:=by
 go_wp2_with fail
 refine HQ.o.mono ?_;rintro e w4⟨ev,rfl,he,eQ⟩;have fc:=lh eQ;have HE:=lh he;clear eQ he;go_wp2;go_ret;have hR:=HR.o;simp[tG,tO]at hR;rw[hR];exact⟨M2,(H2.o.below bP.o).below fc.o,gY.o.trans (aZ.o.trans ((MFr.of_below bP.o).trans (.of_below fc.o))),ev,rfl,HE.o⟩):G:=i
theorem R8{G:Prop}(i:G:=by
 go_wp2_with fail
 refine HC.o.mono ?_;rintro e w1⟨rfl,rfl⟩;go_wp2;go_ret;exact⟨rfl,ρ,L,HH.o,Fr.of_below cM HB.o⟩):G:=i
theorem XT{G:Prop}(i:G:=by
 rcases BH with h3|⟨h3,tu⟩
 all_goals
  go_enter Tryz.func119,Tryz.ntmps119
  go_wp2_with fail
  rw[<-HZ.o];clear x0 x1 x2 y0 y1 y2;refine(Dg.o wh _ (Below.refl _ _)).mono ?_;rintro e w9⟨ev,rfl,he,kR⟩;obtain⟨q0,q1,q2,z0,z1,z2⟩:=(ar.o.fr (MFr.trans (.refl _ _) (.of_below kR))).six;have fT:=lh kR;have HE:=lh he;clear kR he;subst hR;go_wp2;refine bodyPost_ret (v:=.tuple #[.agg #[vI 0,vI 0,.string ⟨#[]⟩],ev]) ?_ rfl ?_;·simp[results,Tryz.results119,go_sem,q0,q1,q2]
  .exact .err ar.o bJ.o (HM.o.below fT.o) (MFr.trans (.refl _ _) (.of_below fT.o)) HE.o):G:=i
theorem KF{G:Prop}(i:G:=by
 obtain⟨wA,hr⟩:=hc.row;obtain⟨pv,cv,h,-⟩:=hr.form;exact⟨pv,_,cv,h⟩):G:=i
theorem Xb{G:Prop}(i:G:=by
 have gU:g≠b:=by
  rcases HT.o with h|h;·exact λe=>tv.o (by rw[h,e])
  .omega
 have ac:w2.heap[b]?=some (.cells #[vP b,v] 186 (0,0)):=(HG.o.block b Pe (λe=>tv.o e.symm)).trans ((Below.heap_alloc _ _ _ iO).trans HB.o.blk);refine⟨Zh _ ac,.inr rfl,?_,by simp only[Value.ownBlock,ne_eq,Option.some.injEq];exact gU,GS⟩;rw[List.length_append,<-pH.o];exact Z2 HW.o λg' ez=>Below.heap_setCell _ _ _ _ (λe=>gU (by simp only[Value.ownBlock,Option.some.injEq]at ez;rw[ez,e]))):G:=i
theorem Yu{G:Prop}(i:G:=by
 obtain⟨h1,h2,h3⟩:=h;have hL:Lo C M' w w' w.heap.size #[vI k0,vI n0,.string t0] 55:=by
  have:Lo C M w (w.alloc (vO k0 n0 t0)).drew w.heap.size #[vI k0,vI n0,.string t0] 55:=(Lo.new hM (Nat.le_refl _) (Nat.le_trans hO hE) _ _).fr (.drew (.refl _ _));exact this.fr h2
 obtain⟨g1,g2,g3,g4⟩:=hL.fill (x':=(vI k)) (y':=(vI n)) (z':=.string t) h1 ((MFr.of_below ((Z1 w (vO k0 n0 t0)).drew)).trans h2) (Nat.le_refl _);refine⟨⟨g1,g2,?_⟩,g3⟩;rcases hr:r.2 with x|v;·rw[hr]at h3;exact g4 _ _ h3
 .rw[hr]at h3;exact h3):G:=i
theorem XA{G:Prop}(i:G:=by
 have hw:=HW.o;rw[oN.o,km.o]at hw;rw[km.o];simpa[mK,mZ,jS,nc,CloR.cells,ATree.ptr]using hw):G:=i
theorem ID{G:Prop}(i:G:=by
 simp only[Except.ok.injEq,Prod.mk.injEq]at h;obtain⟨rfl,_⟩:=h;simp at hk):G:=i
theorem YJ{G:Prop}(i:G:=by
 refine Z6 (λK hK=>?_);go_simp
 refine rK.o.mono ?_;rintro e W3⟨M3,k3,n3,t3,fg,rfl,dp⟩;have F3:=(MFr.drew (.refl M1 W2)).trans dp.2.1;refine hK _ _ (q8.o _ _ F3) ?_;clear hK K;have dU:=lh dp;have bE:=lh (aZ.o.trans F3);have oO:=lh (g9.o.fr F3);obtain⟨q0,q1,q2,z0,z1,z2⟩:=(ar.o.fr bE.o).six;clear dp F3 rK;simp only[ag];refine ep ?_;refine Z0 ?_;go_wp2_with fail
 show Go.Leaves _ _ _ _ _ _ _;exact Zgn (r:=r) iP.o dU.o.1 bE.o (yr.o) pI.o oO.o yt.o eR.o dU.o.2.2 rfl rfl):G:=i
theorem WW{G:Prop}(i:G:=by
 have mD:=KB Dh.o.mat MK;simp only[MK]at mD;have uO:=lh mD;clear mD;go_wp2_with fail
 refine uO.o.mono ?_;rintro e w5⟨oY,rfl,ra,eS⟩;have xq:=lh (show ak C M w5 (.thr (.say MK)) oY from ra);have lq:=lh (Dh.o.bel eS);obtain⟨q0,q1,q2,z0,z1,z2⟩:=lq.o.lr.six;clear ra eS;go_wp2_with fail
 refine bodyPost_ret (v:=.tuple #[.agg #[vI 0,vI 0,.string ⟨#[]⟩],oY]) ?_ rfl ?_;·simp[results,Tryz.results143,go_sem,q0,q1,q2]
 .rw[eR.o];exact Zu9 lq.o xq.o rfl):G:=i
theorem SJ{G:Prop}(i:G:=by
 rintro e w7⟨⟨b,rfl,h1,h2⟩,dK⟩;exact⟨rfl,ll.pre FQ.o.drew (r:=.error (c,p)) ⟨⟨b,rfl,h1,h2⟩,dK⟩⟩):G:=i
theorem Z'{G:Prop}(i:G:=by
 unfold UJ Zg at hs;simp only[decide_eq_true_eq]at hs;by_cases h1:s=BN;·exact .inl h1
 by_cases h2:s=TZ;·exact .inr (.inl h2)
 by_cases h3:s=T8;·exact .inr (.inr (.inl h3))
 by_cases h4:s=TQ;·exact .inr (.inr (.inr (.inl h4)))
 by_cases h5:s=Tp;·exact .inr (.inr (.inr (.inr (.inl h5))))
 by_cases h6:s=T2;·exact .inr (.inr (.inr (.inr (.inr (.inl h6)))))
 by_cases h7:s=T7;·exact .inr (.inr (.inr (.inr (.inr (.inr h7)))))
 simp[h1,h2,h3,h4,h5,h6,h7]at hs):G:=i
theorem S6{G:Prop}(i:G:=by
 have:=HV.o.symm.trans fG;simp only[Value.slice.injEq]at this;exact this.1):G:=i
theorem Vm{G:Prop}(i:G:=by
 rw[show df cd=.nilIface by rw[gB];rfl];clear dL bq cL gB;go_wp2_with fail
 go_roundw
 case rel=>exact⟨k+1,M3,sb,by omega,by go_num,dq,lh (ei.o.trans bE.o),tj,tt,bD⟩
 case measure=>simp[intOf];omega):G:=i
theorem Aai{G:Prop}(i:G:=by
 refine ep ?_;refine Z6t (dS.o _ _ (.drew (.refl _ _))) ?_ Po;simp only[Act.put,zA,zB,zC];refine Z0 ?_;obtain⟨q0,q1,q2,z0,z1,z2⟩:=(ar.o.fr bw.o).six;go_wp2;refine bodyPost_ret (v:=.tuple #[.agg #[vI k1,vI n1,.string t1],.iface T1 (.pointer P1)]) ?_ rfl ?_;·simp[results,Tryz.results77,go_sem,q0,q1,q2]
 .exact .err' ar.o bM.o av.o.1.1.drew (bw.o.trans (.drew (.refl _ _))) ej.o):G:=i
theorem U'{G:Prop}(i:G:=by
 have HG:=lh (hG.pre F2.o);have HR:=lh hR;have HF:=lh (F2.o.trans hF);clear hG hR hF HC;go_wp2;go_ret;exact⟨a,rfl,HG.o,HR.o,HF.o⟩):G:=i
theorem ZL{G:Prop}(i:G:=by
 have am:R=(s2,.ok ⟨k1,n1,t1⟩):=by have:=bD.o;simpa using this
 clear bD;subst am;obtain⟨q0,q1,q2,z0,z1,z2⟩:=(ar.o.fr (bw.o.trans (.of_below aO.o))).six;go_wp2;refine bodyPost_ret (v:=.tuple #[.agg #[vI k1,vI n1,.string t1],.nilIface]) ?_ rfl ?_;·simp[results,Tryz.results77,go_sem,q0,q1,q2]
 .exact .fine' ar.o bM.o (bZ.o.below aO.o) (bw.o.trans (.of_below aO.o))):G:=i
theorem T3{G:Prop}(i:G:=by
 go_wp2_with fail
 refine HC.o.mono ?_;rintro e w3⟨⟨b,rfl,h1,h2⟩,hB⟩;exact⟨rfl,ll.err (RFr.refl _ _) ⟨b,rfl,h1,h2⟩ hB⟩):G:=i
theorem Xs{G:Prop}(i:G:=by
 rw[<-mj.o];rcases iK.o with h|h;·exact .inl h
 .exact .inr O'):G:=i
theorem TH{G:Prop}(i:G:=by
 simp only[ATree.tree,Tree.mk.injEq,true_and]at this;rw[<-this,Z87,List.length_map]):G:=i
theorem XM{G:Prop}(i:G:=by
 refine ep ?_;refine Z0 ?_;go_wp2_with fail
 refine kD.o.mono ?_;rintro e W5⟨rfl,M5,lX,em⟩;have rc:=lh lX;have re:=lh (bE.o.trans (((MFr.drew (.refl Mb W3)).trans (.drew (.refl _ _))).trans em));clear lX em;go_wp2_with fail
 go_roundw
 case rel=>exact⟨k+1,M5,sb,by omega,by go_num,rc,re,tj,tt,bD⟩
 case measure=>simp[intOf];omega):G:=i
theorem Aaa{G:Prop}(i:G:=by
 refine(gm.o w2 gr.o).mono ?_;rintro e w9⟨rfl,iN⟩;have fT:=lh ((eX.o).trans (iN.mono (eX.o).size));clear iN;go_wp2;go_ret;exact⟨by rw[aF.o];rfl,fT.o⟩):G:=i
theorem ZM{G:Prop}(i:G:=by
 have gy:=lh eS;obtain⟨q0,q1,q2,z0,z1,z2⟩:=((ar.o.fr HF.o).bel eS).six;clear ra eS;go_wp2_with fail
 refine⟨.tuple #[.agg #[vI 0,vI 0,.string ⟨#[]⟩],oY],?_,?_⟩;·simp[results,Tryz.results131,go_sem,q0,q1,q2]
 .rw[eR.o];exact al.err ar.o bJ.o (HM.o.below gy.o) (HF.o.trans (.of_below gy.o)) xq.o):G:=i
theorem Yr{G:Prop}(i:G:=by
 rw[<-jE]at am aq;have N:=lh hA;have FQ:=lh aq;have PQ:=lh ((P3.o.next (ts':=us) hR bh kq.o).next am (RFr.below (rb:=rb) aX) (Nat.le_refl _));clear mi nT kh hY hR bh ai ax aX hA am aq HN aN jE be dw HC;have pJ:=lh (Option.some.inj uG.o).symm;go_wp2;go_ret;rw[pJ.o];exact⟨_,rfl,N.o,PQ.o.rd,FQ.o⟩):G:=i
theorem Yx{G:Prop}(i:G:=by
 go_roundw
 case rel=>
  refine⟨k+1,_,rfl,by omega,by go_num,lh ?_,lh ?_⟩
  .rw[HF.o,if_pos (by simp[wH,<-kS.o])];unfold jm;rw[List.length_append,List.map_append];exact HW.o
  .exact Xc
 case measure=>simp[intOf];omega):G:=i
theorem VN{G:Prop}(i:G:=by
 have:Lo C M wE (w.alloc (vO k0 n0 t0)).drew w.heap.size #[vI k0,vI n0,.string t0] 55:=(Lo.new hM hE hO _ _).fr (.drew (.refl _ _));exact this.fr h.2.1):G:=i
theorem ZK{G:Prop}(i:G:=by
 have:m=((List.range l.toArray.size).map λj=>!ph.contains j).toArray:=by
  apply Array.ext;·simp only[hs,List.size_toArray,List.length_map,List.length_range]
  .intro j h1 h2;have:=rS j O';simp only[List.getElem_toArray,List.getElem_map,List.getElem_range];rw[<-this];simp[h1]
 rw[this];exact rT):G:=i
theorem VG{G:Prop}(i:G:=by
 split at h;·cases h
 .simp only[Except.ok.injEq,Prod.mk.injEq]at h;obtain⟨rfl,_⟩:=h;exact⟨by simp,(λh=>by simp at h),(λh=>by simp at h)⟩):G:=i
theorem XN{G:Prop}(i:G:=by
 have tz:=lh jz.1;clear hy mF jh fm hR jz;go_wp2_with fail
 refine lW.o.mono ?_;rintro e W4⟨rfl,M4,fN,bh⟩;have jg:=lh fN;have kC:=lh (bH.o.trans bh);clear fN bh;go_wp2_with fail
 go_roundw
 case rel=>exact⟨k+1,M4,_,by omega,by go_num,jg,kC,tz,HR⟩
 case measure=>simp[intOf];omega):G:=i
theorem T9{G:Prop}(i:G:=by
 go_enter Tryz.func81,Tryz.ntmps81
 go_wp2;go_ret;exact⟨by simp,(Below.refl _ _).alloc (Nat.le_refl _) _⟩):G:=i
theorem Yp{G:Prop}(i:G:=by
 go_roundw
 case rel=>
  refine⟨k+1,by go_num,by omega,λj a hj ha=>?_,hB.trans (aL.mono hB.size)⟩;by_cases pK:j=k
  .subst pK;have:=HG.o.symm.trans ha;simp only[Option.some.injEq]at this;subst this;simpa[LBind.is]using hq
  .exact HO.o j a O' ha
 case measure=>simp[intOf];omega):G:=i
theorem Td{G:Prop}(i:G:=by
 exact⟨g.1,g.2.1,g.2.2.1,by show _<=20000*(s.steps.toNat+1);omega⟩):G:=i
theorem X9{G:Prop}(i:G:=by
 refine Eq.trans (show _=z.cell? ⟨0,0,none⟩from ?_) cY;refine Eq.trans (World.cell?_setCell_other _ _ _ _ Qm) (Eq.trans (World.cell?_setCell_other _ _ _ _ Qm) (World.cell?_setCell_other _ _ _ _ Qm))):G:=i
theorem ZV{G:Prop}(i:G:=by
 simp only[Act.put,zA,zB,zC];go_wp2;go_ret;exact⟨rfl,mG.o,⟨nX.o.os.trans HG.o.os,nX.o.tape.trans HG.o.tape,nX.o.output.trans HG.o.output,Nat.le_trans HG.o.size nX.o.size,λb h1 h2=>(nX.o.block b (Nat.lt_of_lt_of_le h1 HG.o.size) h2).trans (HG.o.block b h1 h2)⟩⟩):G:=i
theorem YK{G:Prop}(i:G:=by
 go_wp2;go_loop [8] (λi=>i=(vI 0)) (λ_=>0)
 case atStart=>rfl
 case round=>
  subst hrel;go_wp2;go_ret;exact⟨rfl,Below.refl _ _⟩):G:=i
theorem XI{G:Prop}(i:G:=by
 obtain⟨rfl,rfl⟩:v1=⟨k1,n1,t1⟩∧bU=.nilIface:=av.o.2.2;go_wp2;refine bodyPost_ret (v:=.tuple #[.agg #[vI k1,vI n1,.string t1],.nilIface]) ?_ rfl ?_;·simp[results,Tryz.results77,go_sem,q0,q1,q2]
 .exact .fine' ar.o bM.o av.o.1 av.o.2.1):G:=i
theorem SL{G:Prop}(i:G:=by
 go_enter Tryz.func24,Tryz.ntmps24
 go_wp2;go_ret;exact⟨rfl,HB.o _⟩):G:=i
theorem Aao{G:Prop}(i:G:=by
 exact⟨none,0,by rw[h1,h2];rfl,by rw[h2];exact Nat.le_refl _,by unfold maxLen;omega⟩):G:=i
theorem ZW{G:Prop}(i:G:=by
 unfold L1 at h;by_cases h1:aa SA ts=true;·exact Zm h1
 .by_cases h2:aa SQ ts=true;·exact Zm h2
  .by_cases h3:aa Tn ts=true;·exact Zm h3
   .by_cases h4:aa TL ts=true;·exact Zm h4
    .simp[h1,h2,h3,h4]at h):G:=i
theorem ZH{G:Prop}(i:G:=by
 have S9:=MT.o.app HZ.o HG.o;have S9:=lh S9;go_roundw
 case rel=>exact⟨j+z,f,l++[⟨5,X,0,j⟩],_,rfl,S9.o,WR oZ.o,Z62 HQ.o HJ.o aA HT.o,by omega,by omega,by simp;omega⟩
 case measure=>
  rw[S9.o.c1,CI.o];simp[intOf];omega):G:=i
theorem ZG{G:Prop}(i:G:=by
 refine AR (λK hK=>?_);refine hK _ _ (D2 ?_);clear hK K;refine HK.o _ _ ?_;exact HN.o _ _ M7 _ ⟨rfl,⟨rfl,rfl,rfl,rfl,trivial⟩,rfl⟩ (yu.o.below tA.o).drew ((tB.o.trans (.of_below tA.o)).trans (.drew (.refl _ _))) (HL.o.fr (.drew (.refl _ _)))):G:=i
theorem Yt{G:Prop}(i:G:=by
 go_wp2_with fail
 refine HC.o.mono ?_;rintro e w9⟨⟨b,rfl,h1,h2⟩,hB⟩;exact⟨rfl,ll.err F5.o ⟨b,rfl,h1,h2⟩ hB⟩):G:=i
theorem YT{G:Prop}(i:G:=by
 have ej:=lh (show ak C M1 W1 x1 bU from av.o.2.2);go_wp2;refine bodyPost_ret (v:=.tuple #[.agg #[vI k1,vI n1,.string t1],bU]) ?_ rfl ?_;·simp[results,Tryz.results77,go_sem,q0,q1,q2]
 .exact .err' ar.o bM.o av.o.1 av.o.2.1 ej.o):G:=i
theorem Xx{G:Prop}(i:G:=by
 have il:=lh ko;clear cj ko aB;refine Z0 ?_;go_wp2;refine bodyPost_ret (v:=.tuple #[.agg #[vI 0,vI 0,.string ⟨#[]⟩],fg]) ?_ rfl ?_;·simp[results,Tryz.results77,go_sem,q0,q1,q2]
 .exact .err' ar.o bM.o dq.o bE.o il.o):G:=i
theorem X6{G:Prop}(i:G:=by
 have:=Zm h;refine Z9.bind (ih _ _ _ Pf) (L .around _ _) λt us h2=>?_;exact Z9.bind (Z9.within (ih _ _ _ Pn)) (Leaves.within (L .stmt _ _)) λt vs h3=>Z9.ok):G:=i
theorem YR{G:Prop}(i:G:=by
 rcases h.form with⟨h1,h2⟩|⟨g,cap,h1,h2,h3⟩;·exact⟨none,0,by rw[h1,h2];rfl,by rw[h2];exact Nat.le_refl _,by unfold maxLen;omega,λi x hx=>by rw[h2]at hx;simp at hx⟩
 .exact⟨_,_,h1,h2,h3,λi x hx=>⟨g,rfl⟩⟩):G:=i
theorem Uj{G:Prop}(i:G:=by
 exact⟨rfl,ll.pre F4.o (r:=.error (c,p)) ⟨⟨b,rfl,h1,h2⟩,hF⟩⟩):G:=i
theorem Uk{G:Prop}(i:G:=by
 simp only[Except.ok.injEq,Prod.mk.injEq]at h;obtain⟨rfl,_⟩:=h;simp at h1):G:=i
theorem VU{G:Prop}(i:G:=by
 unfold Instr.lookup;simp[run_underlying Tryz.underlying46,Go.MapKept.run_getObj_map hb,Zb1,hj,Result.andThen]):G:=i
theorem Xg{G:Prop}(i:G:=by
 refine Near.scope (m:=m) hm Pg λp hp=>?_;have rU:=List.mem_of_getElem? hb;rcases List.mem_or_eq_of_mem_set hp with h|rfl;·exact⟨.inr ⟨p,h,rfl⟩,.inr ⟨p,h,rfl⟩⟩
 .exact⟨.inl hv,.inr ⟨b,rU,rfl⟩⟩):G:=i
theorem Xo{G:Prop}(i:G:=by
 have g1:steps<=20001:=O'
 have g2:¬20000<steps:=O'
 have g3:decide (steps<=20001)=true:=by simpa using g1
 have g4:decide (20000<steps)=false:=Q6
 go_wp2;go_ret;exact⟨rfl,nY.o⟩):G:=i
theorem V3{G:Prop}(i:G:=by
 go_enter Tryz.func71,Tryz.ntmps71
 go_wp2;go_ret;refine⟨by rw[aF.o];rfl,?_⟩;rw[<-fH.o];exact eX.o):G:=i
theorem Tx{G:Prop}(i:G:=by
 have h3:dd=D:=h3;subst h3;exact congrArg (λt=>(⟨t,dd⟩:Act)) e):G:=i
theorem YD{G:Prop}(i:G:=by
 go_enter Tryz.func18,Tryz.ntmps18
 go_wp2_with fail
 refine HC.o.mono ?_;rintro e w1⟨rfl,rfl⟩;go_wp2_with fail
 refine HB.o.mono ?_;rintro e w1⟨rfl,hB⟩;have dx:=Lib.hid hB;clear hB;go_wp2;go_ret;exact⟨rfl,dx.o⟩):G:=i
theorem XE{G:Prop}(i:G:=by
 subst cK;rw[List.getElem?_append_right (Nat.le_refl _)]at hj;simp only[Nat.sub_self,List.getElem?_cons_zero,Option.some.injEq]at hj;subst hj;simp only[n,if_true];exact⟨ac,by simpa using World.ownsRow_nil _ _ _ _⟩):G:=i
theorem Xr{G:Prop}(i:G:=by
 go_wp2;go_ret2
 rw[HE.o];exact Yq (M4.o.scan.belowOf B1.o fA) _):G:=i
theorem U5{G:Prop}(i:G:=by
 clear dM aH hc;go_wp2;go_ret;exact⟨by rw[findIdx?_none_of (by rw[<-HN.o];exact HO.o)];rfl,hB⟩):G:=i
theorem XO{G:Prop}(i:G:=by
 have gW:TU ao=false:=by rw[<-kA.o];rfl
 have H0:=lh (pG.o gW);clear gW;rcases Z4 ae with⟨rfl,_⟩|⟨g0,gf,rfl,_,_,_⟩
 all_goals
  clear ae;go_wp2;go_ret;exact H0.o):G:=i
theorem Vd{G:Prop}(i:G:=by
 go_wp2_with fail
 refine HC.o.mono ?_;rintro e w1⟨rfl,rfl⟩;go_wp2;go_ret;exact⟨rfl,Below.refl _ _⟩):G:=i
theorem Un{G:Prop}(i:G:=by
 go_enter Tryz.func107,Tryz.ntmps107
 go_wp2;go_ret;exact⟨rfl,HB.o⟩):G:=i
theorem Zwh{G:Prop}(i:G:=by
 intro j o hj;have iH:=getElem?_lt hj;exact⟨by rw[far _ _ (h.rob j iH) Pg Pg];exact(h.obj j o hj).1,Z2 (h.obj j o hj).2 λg hg=>far g _ (h.rpv j g iH hg) Pg Pg⟩):G:=i
theorem Zue{G:Prop}(i:G:=by
 intro j o hj;have iH:=getElem?_lt hj;exact⟨by rw[far _ _ (h.rsb j iH) Pg Pg];exact(h.scp j o hj).1,Z2 (h.scp j o hj).2 λg hg=>far g _ (h.rnv j g iH hg) Pg Pg⟩):G:=i
theorem Zoy{G:Prop}(i:G:=by
 exact .fine' ar.o bM.o (HM.o.below av.o) (.of_below av.o)):G:=i
theorem Zvz{G:Prop}(i:G:=by
 have n15:(xu==15)=false:=by simpa using xv
 have H0:=lh (pG.o (by rw[<-kA.o];cases l0<;>simp[fs,ATree.tree,TU,xv]));clear ae rQ rR fA mC xv;go_wp2;go_ret;exact H0.o):G:=i
theorem Zui{G:Prop}(i:G:=by
 have h3:=Lo.new (wE:=w) (h.below h1) O' h.old.size #[vI 0,vI 0,.string ⟨#[]⟩] 55;rw[hs]at h3;exact⟨h1.trans ((Z1 _ _).mono h1.size),h2.bel (Z1 _ _),h3⟩):G:=i
theorem Ztr{G:Prop}(i:G:=by
 go_wp2_with fail
 refine Zrz ?_;intro w9 fT;go_wp2;go_ret;exact⟨by rw[aF.o];rfl,fT.o⟩):G:=i
theorem Zt0{G:Prop}(i:G:=by
 rcases h.form with⟨h1,h2⟩|⟨g,cap,h1,h2,h3⟩;·exact⟨none,0,by rw[h1,h2];rfl,by rw[h2];exact Nat.le_refl _,by omega⟩
 .unfold maxLen at h3;exact⟨_,_,h1,h2,by omega⟩):G:=i
theorem Zvd{G:Prop}(i:G:=by
 obtain⟨c1,f1,h1⟩:=Lib.ownsRow_kind h k hk;obtain⟨c2,f2,h2⟩:=Lib.ownsRow_kind ht k e;rw[h1]at h2;simp only[Option.some.injEq,Obj.cells.injEq]at h2;exact absurd h2.2.1 Pa):G:=i
theorem Zsy{G:Prop}(i:G:=by
 refine(HV.o g O' w6.drew rb B d _ _ P7 hv).mono ?_;rintro e w7⟨⟨b,rfl,h1,h2⟩,dK⟩;exact⟨rfl,ll.pre F6.o.drew (r:=.error (c,p)) ⟨⟨b,rfl,h1,h2⟩,dK⟩⟩):G:=i
theorem Zvk{G:Prop}(i:G:=by
 rintro e w4⟨rfl,M3,h3,f3⟩;have H3:=lh h3;have bE:=lh (gY.o.trans ((MFr.of_below av.o.drew).trans f3));clear h3 f3;go_wp2;go_ret;rw[bD.o];exact⟨M3,H3.o,bE.o,rfl⟩):G:=i
theorem Zts{G:Prop}(i:G:=by
 intro l;induction l with
 |nil=>intro h;cases h
 | cons y l ih =>
   intro h;simp only[ox,List.mem_append];rcases List.mem_cons.1 h with rfl|h;·exact .inl hx
   .exact .inr (ih h)):G:=i
theorem Zqz{G:Prop}(i:G:=by
 go_ret;exact⟨by rw[findIdx?_some_of HO.o HG.o hq];rfl,hB.trans (aL.mono (hB.size))⟩):G:=i
theorem Zs2{G:Prop}(i:G:=by
 unfold kV;rw[if_neg (by rw[hq];decide),if_neg (by rw[hq];decide),if_pos hq,hr];simp):G:=i
theorem Zpj{G:Prop}(i:G:=by
 go_wp2;go_ret;exact⟨by rw[<-RV];rfl,(Below.refl _ _).alloc (Nat.le_refl _) _⟩):G:=i
theorem Zqa{G:Prop}(i:G:=by
 obtain⟨x,vs,hx,h⟩:=Ec h;have:=Zjd hx;have:=cu h;subst this;omega):G:=i
theorem Zs5{G:Prop}(i:G:=by
 have:=Xw (ts:=ts) O';simp only[Job.base,xF,Up]at *;omega):G:=i
theorem Zr6{G:Prop}(i:G:=by
 rw[cL];exact(na.o.clos (d:=d+2) (c:=⟨a.nt C.N,nx,Zj body⟩) ig.o).1):G:=i
theorem Zsn{G:Prop}(i:G:=by
 have:=Zm h;exact ad.bind (ih .around _ _) λt us h2=>ad.bind (ad.within (ih .stmt _ _)) λt vs h3=>ad.ok QP):G:=i
theorem Zur{G:Prop}(i:G:=by
 have aN:=HS.o;rw[<-HN.o]at aN;rw[<-HN.o,<-aN];exact Z2 HW.o λg' ez=>k5 g' PG):G:=i
theorem Zvw{G:Prop}(i:G:=by
 rcases Z4 G3.at'.rowOf with⟨h1,h2⟩|⟨g0,gf,h1,_⟩
 .simp only[ATree.v,ATree.kids]at h1 h2;exact⟨none,0,by rw[h1,h2]⟩
 .exact⟨_,_,h1⟩):G:=i
theorem Zth{G:Prop}(i:G:=by
 clear hv;go_wp2_with fail
 refine HV.o.mono ?_;rintro e w2⟨⟨b,rfl,h1,h2⟩,hF⟩;exact⟨rfl,ll.pre F1.o (r:=.error (c,p)) ⟨⟨b,rfl,h1,h2⟩,hF⟩⟩):G:=i
theorem Zpi{G:Prop}(i:G:=by
 exact .fine ar.o bJ.o (bW.o.below bP.o) (aZ.o.trans (.of_below bP.o))):G:=i
theorem Zub{G:Prop}(i:G:=by
 unfold vX at hv;by_cases h30:30<d+1;·rw[if_pos h30]at hv;cases hv
 .rw[if_neg h30]at hv;cases g with
  |zero=>cases hv
  |succ g=>exact Zkv hv):G:=i
theorem Ztj{G:Prop}(i:G:=by
 obtain⟨h1,h2,h3⟩:=h;refine⟨h1.below hB,h2.trans (.of_below hB),?_⟩;rcases hr:r.2 with x|v;·rw[hr]at h3;exact h3.bel hB
 .rw[hr]at h3;exact h3):G:=i
theorem Zql{G:Prop}(i:G:=by
 rw[cL];exact(na.o.clos (d:=d+2) (c:=⟨a.nt C.N,nx,true⟩) ig.o).1):G:=i
theorem Zws{G:Prop}(i:G:=by
 exact wpOp_mono (λa' w' h'=>⟨λhh=>h'.1 ((cV _ fB).symm.trans hh),VT dE hQ ri _ _ a' w' Qv (cV _ fB) aL h'.1 h'.2⟩) h.1):G:=i
theorem Zty{G:Prop}(i:G:=by
 cases ph with
 |nil=>simp[Oy]at rV
 | cons t r =>
   simp only[Oy,Bool.and_eq_true]at rV;intro u hu;simpa using List.all_eq_true.1 rV.1.1.2 u hu):G:=i
theorem Zsq{G:Prop}(i:G:=by
 rcases Z4 h with⟨h1,h2⟩|⟨g,cap,h1,h2,h3,_⟩;·exact .inl ⟨h1,List.eq_nil_of_length_eq_zero h2⟩
 .exact .inr ⟨g,cap,h1,h2,h3⟩):G:=i
theorem Zr3{G:Prop}(i:G:=by
 have:=h.szO;show s.H.objects.length+d<=20000*(s.steps.toNat+1);omega):G:=i
theorem Zq3{G:Prop}(i:G:=by
 have:=h.szS;show s.H.scopes.length+d<=20000*(s.steps.toNat+1);omega):G:=i
theorem Zry{G:Prop}(i:G:=by
 subst h3;go_enter Tryz.func112,Tryz.ntmps112
 go_wp2;go_ret;exact⟨rfl,rfl⟩):G:=i
theorem Zwg{G:Prop}(i:G:=by
 refine Zsg ?_;intro g1 g2 g3;exact⟨M1,g1,g2,rfl⟩):G:=i
theorem Zqe{G:Prop}(i:G:=by
 exact Z2 h.rowO λg hg=>far g _ (h.rvo g hg) Pg Pg):G:=i
theorem Zpx{G:Prop}(i:G:=by
 exact Z2 h.rowS λg hg=>far g _ (h.rvs g hg) Pg Pg):G:=i
theorem Zq1{G:Prop}(i:G:=by
 rw[Zi text O' O',show j+(i-j)=i by omega]):G:=i
theorem Zvn{G:Prop}(i:G:=by
 unfold Z3;refine Z9.want λh=>Z9.bind (ih _ _ _ Pf) (L _ _ _) λt us h=>Z9.want λh2=>Z9.ok):G:=i
theorem Zpr{G:Prop}(i:G:=by
 simp only[Nat.reduceEqDiff,if_true,if_false];rw[d1,n5];exact hK w4 h4 g4):G:=i
theorem Zuk{G:Prop}(i:G:=by
 have HG:=lh (hG.pre F4.o);have HR:=lh hR;have HF:=lh (F4.o.trans hF);clear hG hR hF bS;go_wp2;go_ret;exact⟨a,rfl,HG.o,HR.o,HF.o⟩):G:=i
theorem Zwb{G:Prop}(i:G:=by
 clear hc;go_enter Tryz.func24,Tryz.ntmps24
 go_wp2_with fail
 refine(HC.o _).mono ?_;rintro e w1⟨rfl,rfl⟩;go_wp2;go_ret;exact⟨rfl,HB.o _⟩):G:=i
theorem Zw6{G:Prop}(i:G:=by
 intro g' ez;simp only[Value.ownBlock,Option.some.injEq]at ez;subst ez;rw[<-j6];rcases fU with h'|h';·exact .inl h'
 .exact .inr O'):G:=i
theorem Zq9{G:Prop}(i:G:=by
 rw[e];go_enter Tryz.func55,Tryz.ntmps55
 go_wp2;go_ret;exact⟨rfl,rfl⟩):G:=i
theorem Zqr{G:Prop}(i:G:=by
 rw[e];go_enter Tryz.func57,Tryz.ntmps57
 go_wp2;go_ret;exact⟨rfl,rfl⟩):G:=i
theorem Zpg{G:Prop}(i:G:=by
 have:=h.szC;show s.clos.length+d<=20000*(s.steps.toNat+1);omega):G:=i
theorem Zse{G:Prop}(i:G:=by
 have:=h.szN;show s.seen.length+d<=20000*(s.steps.toNat+1);omega):G:=i
theorem Zwe{G:Prop}(i:G:=by
 intro g' ez;simp only[Value.ownBlock,Option.some.injEq]at ez;subst ez;rw[<-hv];rcases HT.o with h|h;·exact .inl h
 .exact .inr O'):G:=i
theorem Zwd{G:Prop}(i:G:=by
 intro b dB;by_cases e:nv'.ownBlock=some b;·exact(af.lt b e).2
 .simp only[ρ',if_neg e]at dB;exact Nat.lt_of_lt_of_le (h.live b dB) be):G:=i
theorem Zq8{G:Prop}(i:G:=by
 have:=h.szL;show s.log.length+d<=20000*(s.steps.toNat+1);omega):G:=i
theorem Zvh{G:Prop}(i:G:=by
 clear hs;go_wp2_with fail
 refine HC.o.mono ?_;rintro e w3⟨⟨b,rfl,h1,h2⟩,hB⟩;exact⟨rfl,ll.err F2.o ⟨b,rfl,h1,h2⟩ hB⟩):G:=i
theorem Zvr{G:Prop}(i:G:=by
 clear hk;go_wp2_with fail
 refine HC.o.mono ?_;rintro e w9⟨⟨b,rfl,h1,h2⟩,hB⟩;exact⟨rfl,ll.err F2.o ⟨b,rfl,h1,h2⟩ hB⟩):G:=i
theorem Zxc{G:Prop}(i:G:=by
 rcases Z4 ae with⟨h1,h2⟩|⟨g0,gf,h1,h2,_⟩;·exact⟨none,0,by rw[h1,h2],by omega⟩
 .exact⟨_,_,h1,h2⟩):G:=i
theorem Ztq{G:Prop}(i:G:=by
 obtain⟨g1,g2,g3⟩:=(hL.fr hF).ret (x':=(vI k)) (y':=(vI n)) (z':=.string t) hM (hz.trans hF);exact⟨M1,g1,g2,rfl⟩):G:=i
theorem Zr7{G:Prop}(i:G:=by
 intro b _ _ h3;rw[hv]at h3;exact far b (λe=>h3 (by rw[e];rfl))):G:=i
theorem Zrg{G:Prop}(i:G:=by
 exact Fin.raise (h.less O') (Ext.refl _) rfl hs Ga.2.2.2.1):G:=i
theorem Zsw{G:Prop}(i:G:=by
 go_wp2_with fail
 refine HC.o.mono ?_;rintro e w9⟨⟨b,rfl,h1,h2⟩,hB⟩;exact⟨rfl,ll.err F3.o ⟨b,rfl,h1,h2⟩ hB⟩):G:=i
theorem Zt8{G:Prop}(i:G:=by
 rintro e w3⟨⟨b,rfl,h1,h2⟩,bq⟩;exact⟨rfl,ll.pre F2.o.drew (r:=.error (c,p)) ⟨⟨b,rfl,h1,h2⟩,bq⟩⟩):G:=i
theorem Zwi{G:Prop}(i:G:=by
 rw[tC.o,h];obtain⟨h1,h2,h3⟩:=Got.text (t':=RB) aA HP.o.le G2.o F2.o R2.o;exact⟨_,rfl,h1,h3,h2⟩):G:=i
theorem Zwt{G:Prop}(i:G:=by
 unfold MSt.loose;split;·rfl
 .split;·exact(Vh (qC _)).ls
  .exact(Z5w (qC _) Pa Pa).ls):G:=i
theorem Zvu{G:Prop}(i:G:=by
 rcases Nat.lt_or_ge j K with h'|h';·exact h'
 .have:=s4 O';rw[show K=j by omega,Z7c hl]at this;cases this):G:=i
theorem Zvi{G:Prop}(i:G:=by
 rintro e wz⟨⟨b,rfl,h1,h2⟩,hF⟩;exact⟨rfl,ll.pre FQ.o.drew (r:=.error (c,p)) ⟨⟨b,rfl,h1,h2⟩,hF⟩⟩):G:=i
theorem Zt9{G:Prop}(i:G:=by
 intro t' ts' h';simp only[iy,Option.some.injEq,Except.ok.injEq,Prod.mk.injEq]at h';rw[<-h'.1,<-h'.2];exact⟨h,g⟩):G:=i
theorem Zvs{G:Prop}(i:G:=by
 rintro e w3⟨rfl,hD⟩;have HD':=lh ((MFr.of_below (M:=M) HB.o).does hD);clear hD;go_wp2;go_end0
 exact⟨rfl,HD'.o⟩):G:=i
theorem Zua{G:Prop}(i:G:=by
 have:=Z2 af λg' ez=>k5 g' PG;simpa using this):G:=i
theorem Zut{G:Prop}(i:G:=by
 clear fN bh;go_wp2_with fail
 exact eg.o _ _ M4 ⟨rfl,⟨rfl,rfl,rfl,rfl,rfl,rfl,trivial⟩,rfl⟩ jg.o kC.o):G:=i
theorem Zxm{G:Prop}(i:G:=by
 rcases List.mem_append.1 hx with hx|hx;·exact HX.o x hx
 .simp only[List.mem_singleton]at hx;subst hx;exact GT.o):G:=i
theorem Zuq{G:Prop}(i:G:=by
 go_wp2_with fail
 refine HV.o.mono ?_;rintro e w2⟨⟨b,rfl,h1,h2⟩,hF⟩;exact⟨rfl,⟨b,rfl,h1,h2⟩,hF⟩):G:=i
theorem Zsm{G:Prop}(i:G:=by
 go_wp2_with fail
 refine HC.o.mono ?_;rintro e w2⟨⟨b,rfl,h1,h2⟩,hF⟩;exact⟨rfl,⟨b,rfl,h1,h2⟩,hF⟩):G:=i
theorem Zvb{G:Prop}(i:G:=by
 rw[World.cell?_alloc_lt _ _ ⟨1,0,none⟩ PE,World.cell?_alloc_lt _ _ ⟨1,0,none⟩ aA];exact hg):G:=i
theorem Zus{G:Prop}(i:G:=by
 obtain⟨x,vs,hx,h⟩:=Ec h;obtain⟨y,vs,hx,h⟩:=Ec h;obtain⟨rfl,_⟩:=RN h;cases hk):G:=i
theorem Zss{G:Prop}(i:G:=by
 exact⟨ht.1.keepB λk hk=>ac k (ht.1.has k hk).2 (ht.2 k hk),λk hk=>fp k (ht.1.has k hk).2 (ht.2 k hk)⟩):G:=i
theorem Zt6{G:Prop}(i:G:=by
 rcases hx with⟨_,rfl⟩|⟨q,_,hx⟩;·exact⟨_,_,rfl⟩
 .obtain⟨_,rfl,_⟩:=hx;exact⟨_,_,rfl⟩):G:=i
theorem Zv4{G:Prop}(i:G:=by
 go_enter Tryz.func23,Tryz.ntmps23
 go_wp2;refine wp_loop_rounds 1 ?_;rw[rounds_succ];go_wp2;go_ret;exact⟨rfl,rfl⟩):G:=i
theorem Ztc{G:Prop}(i:G:=by
 rcases hob:H.scope? n with _|s;·simp[LHeap.has,hob]at hq
 .exact⟨s,rfl,by rw[<-has_eq hob];exact hq⟩):G:=i
theorem Ztm{G:Prop}(i:G:=by
 rw[k6 w.heap.size Pe O' (λe=>by have:=yi _ e.symm;omega)];exact heap_alloc2_old w _ _):G:=i
theorem Zvm{G:Prop}(i:G:=by
 rw[ca.o.2.2.left,RL.o];exact Nat.lt_of_lt_of_le (by have:=Z9m hk;rw[List.length_tail];omega) PL.o):G:=i
theorem Zu4{G:Prop}(i:G:=by
 rcases Nat.lt_or_ge t.block w.heap.size with h|h;·exact h
 .simp[vC,World.cell?,Array.getElem?_eq_none h]at BJ):G:=i
theorem Zv2{G:Prop}(i:G:=by
 exact ad.bind (ih .value _ _) λt us h2=>ad.end' QQ):G:=i
theorem Zu0{G:Prop}(i:G:=by
 go_roundw
 case rel=>exact⟨k+1,by omega,by go_num,lh HB.o.drew⟩
 case measure=>simp[intOf];omega):G:=i
theorem Ztd{G:Prop}(i:G:=by
 obtain⟨h1,h2,_⟩:=List.findIdx?_eq_some_iff_getElem.1 h;exact⟨_,List.getElem?_eq_getElem h1,h2⟩):G:=i
theorem Zsv{G:Prop}(i:G:=by
 simp only[Value.ownBlock,ne_eq,Option.some.injEq];rcases HT.o with h|h;·have:=yi g h;omega
 .omega):G:=i
theorem Zsz{G:Prop}(i:G:=by
 rcases Nat.lt_or_ge 1 w.heap.size with h|h;·exact h
 .simp[vC,World.cell?,Array.getElem?_eq_none h]at hg):G:=i
theorem Zwr{G:Prop}(i:G:=by
 exact⟨rfl,((aO.o.setCell (Nat.le_refl _) _).setCell (Nat.le_refl _) _).setCell (Nat.le_refl _) _⟩):G:=i
theorem Zu6{G:Prop}(i:G:=by
 exact⟨rfl,((HB.o.setCell (Nat.le_refl _) _).setCell (Nat.le_refl _) _).setCell (Nat.le_refl _) _⟩):G:=i
theorem Zu8{G:Prop}(i:G:=by
 simp only[List.length_append,List.length_cons,List.length_nil,Nat.zero_add];rw[Zle];exact af):G:=i
theorem Zvj{G:Prop}(i:G:=by
 rintro e w9⟨⟨b,rfl,h1,h2⟩,hB⟩;exact⟨rfl,ll.err FQ.o.drew ⟨b,rfl,h1,h2⟩ hB⟩):G:=i
theorem Zuv{G:Prop}(i:G:=by
 exact(bP.o.alloc Di _).grown HG.o Pe λj hj=>(World.ownsRow.lt rL.o j hj).1):G:=i
theorem Zv8{G:Prop}(i:G:=by
 go_enter Tryz.func63,Tryz.ntmps63
 go_wp2;go_ret;rw[HB.o,<-RV];exact⟨rfl,rW.o _⟩):G:=i
theorem Zsp{G:Prop}(i:G:=by
 obtain⟨ba,qX⟩:=List.getElem?_eq_some_iff.1 rX;rw[List.take_succ_eq_append_getElem ba,qX]):G:=i
theorem Zsk{G:Prop}(i:G:=by
 by_cases h9:ix<0;·exact .inl ⟨decide_eq_true h9,h9⟩
 .exact .inr ⟨decide_eq_false h9,h9⟩):G:=i
theorem Zug{G:Prop}(i:G:=by
 exact .err ar.o bJ.o (av.o.1.below aO.o).drew (aZ.o.trans (.drew (.refl _ _))) ej.o):G:=i
theorem Ztf{G:Prop}(i:G:=by
 rw[hR];exact⟨M2,H2.o.below bP.o,gY.o.trans (aZ.o.trans (.of_below bP.o)),rfl⟩):G:=i
theorem Zwc{G:Prop}(i:G:=by
 subst cK;rw[List.getElem?_set_self fB]at hj;cases hj;simp only[if_true];exact⟨ac,af⟩):G:=i
theorem Zx5{G:Prop}(i:G:=by
 rw[ca.o.2.2.left,RL.o];have:=fX.o;simp only[Job.least]at this;have:=PL.o;omega):G:=i
theorem Zu2{G:Prop}(i:G:=by
 simp only[vH,if_neg h];rcases D (k.kid 0) sc fr s with⟨s1,e|⟨_|_,u⟩⟩<;>rfl):G:=i
theorem Zva{G:Prop}(i:G:=by
 rw[Below.heap_setCell _ _ _ _ hb,Below.heap_setCell _ _ _ _ hb,Below.heap_setCell _ _ _ _ hb]):G:=i
theorem Zwp{G:Prop}(i:G:=by
 unfold Oper.wp;simp[execOp,eO,hm,hx,hv,iw,Result.andThen];exact BK _ _ (hK w' r1 r2)):G:=i
theorem Zw5{G:Prop}(i:G:=by
 obtain⟨h1,h2⟩:=List.getElem?_eq_some_iff.1 hy;rw[List.drop_eq_getElem_cons h1,h2]):G:=i
theorem Ztt{G:Prop}(i:G:=by
 unfold maxLen at h2;go_enter Tryz.func39,Tryz.ntmps39
 go_wp2;go_ret2
 exact⟨rfl,rfl⟩):G:=i
theorem Zt3{G:Prop}(i:G:=by
 unfold maxLen at h2;go_enter Tryz.func33,Tryz.ntmps33
 go_wp2;go_ret2
 exact⟨rfl,rfl⟩):G:=i
theorem Zve{G:Prop}(i:G:=by
 simp only[ρ',if_neg e,if_neg e1]at dB;exact Nat.lt_of_lt_of_le (h.live b dB) be):G:=i
theorem Zuu{G:Prop}(i:G:=by
 have h:=cC.o;unfold nextO at h;rw[if_pos h8]at h;exact(Option.some.inj h).symm):G:=i
theorem Zv5{G:Prop}(i:G:=by
 have h:=cC.o;unfold Ux at h;rw[if_pos h8]at h;exact(Option.some.inj h).symm):G:=i
theorem Zw4{G:Prop}(i:G:=by
 show(if preB text j 0 then rD 0 else zd text j 0)=_;rw[<-tD.o];rfl):G:=i
theorem Ztk{G:Prop}(i:G:=by
 show(if preB text j 1 then rD 1 else zd text j 1)=_;rw[<-tD.o];rfl):G:=i
theorem Zso{G:Prop}(i:G:=by
 show(if preB text j 2 then rD 2 else zd text j 2)=_;rw[<-tD.o];rfl):G:=i
section
variable {P:Program}{ah:Array Oper}{md:Region.Mode}
def Ends(K:Act->World->Prop)(Q:Exit->Act->World->Prop):Exit->Act->World->Prop
 | .normal,a,w=>K a w
 |e,a,w=>Q e a w
theorem Zqc{Q g:Exit->Act->World->Prop}{o:Oper}{a:Act}{w:World}{K:Act->World->Prop}
 (hp:∀c a w,g (.panic c) a w->Q (.panic c) a w)(ho:LetsOut g->LetsOut Q)(h:o.wp P a w K g):o.wp P a w K Q:=by
 unfold Oper.wp at *;generalize(execOp a.eval o).run P w=r at *;cases r with
 | ok n w' =>
   cases n<;>simp only[Oper.upon]at h ⊢<;>
    first
     |exact h
     |exact Calls.mono h (λe dQ he=>by cases e<;>first|exact he|exact hp _ _ _ he|exact ho he)
 |halt x w'=>cases x<;>simp only[Oper.upon]at h ⊢<;>exact hp _ _ _ h
theorem Zjp{Q:Exit->Act->World->Prop}{R:Act->World->Prop}{i:Nat}{a:Act}{w:World}{K:Act->World->Prop}
 (h:wpOp P ah (Ends R Q) i K a w):wpOp P ah Q i K a w:=by
 unfold wpOp at *;split;·rename_i ho;simp only[ho]at h;exact h
 .rename_i o ho;simp only[ho]at h;split
  .rename_i g;simp only[g,if_true]at h;rcases h with h|⟨m,p⟩;·exact .inl (Zqc (λ_ _ _ h=>h) (λh=>h) h)
   .exact .inr ⟨m,p⟩
  .rename_i g;simp only[g]at h;exact h
theorem Zbv{Q:Exit->Act->World->Prop}:∀(f:Nat) (g:Array Bool) (a:Act) (w:World),wpAny P md ah Q f g a w->wpAny P md ah Q (f+1) g a w
 |0,g,a,w,h=>⟨λ_=>h.2,by rw[h.1];simp⟩
 |f+1,g,a,w,h=>⟨h.1,λi hi=>wpOp_mono (λa' w' m=>Zbv f _ a' w' m) (h.2 i hi)⟩
theorem Zet{Q:Exit->Act->World->Prop}{f g:Nat}(o:f<=g){m:Array Bool}{a:Act}{w:World}(h:wpAny P md ah Q f m a w):wpAny P md ah Q g m a w:=by
 obtain⟨d,rfl⟩:=Nat.exists_eq_add_of_le o;induction d with
 |zero=>exact h
 |succ d p=>exact Zbv _ _ _ _ (p O')
theorem Xy(m j:Nat):(Array.replicate m false).getD j false=false:=by
 rcases Nat.lt_or_ge j m with h|h<;>simp[h]
def tm(l:List Nat)(m:Array Bool):Array Bool:=l.foldl (λm i=>m.setIfInBounds i true) m
theorem ZP(l:List Nat)(m:Array Bool):(tm l m).size=m.size:=by
 unfold tm;induction l generalizing m with
 |nil=>rfl
 |cons i l g=>simp only[List.foldl_cons];rw[g];simp
theorem Z3k{l:List Nat}{m:Array Bool}{j:Nat}(d:Bool)(h:j∉l):(tm l m).getD j d=m.getD j d:=by
 unfold tm;induction l generalizing m with
 |nil=>rfl
 | cons i l g =>
   simp only[List.mem_cons,not_or]at h;simp only[List.foldl_cons];rw[g h.2,getD_set_ne d (Ne.symm h.1)]
theorem Z36{l:List Nat}{m:Array Bool}{j:Nat}(h:m.getD j false=true):(tm l m).getD j false=true:=by
 unfold tm;induction l generalizing m with
 |nil=>exact h
 |cons i l g=>simp only[List.foldl_cons];exact g (getD_set_true h)
theorem Z47{l:List Nat}{m:Array Bool}{j:Nat}(h:j∈l)(g:j<m.size):(tm l m).getD j false=true:=by
 unfold tm;induction l generalizing m with
 |nil=>cases h
 | cons i l o =>
   simp only[List.foldl_cons];rcases List.mem_cons.1 h with rfl|h;·exact Z36 (l:=l) (by simp[g])
   .exact o h (by simpa using g)
theorem Z80(m:Array Bool)(i j:Nat):(m.setIfInBounds i true).setIfInBounds j true=(m.setIfInBounds j true).setIfInBounds i true:=by
 by_cases h:i=j;·subst h;rfl
 .exact Array.setIfInBounds_comm _ _ h
theorem Zfm(l:List Nat)(m:Array Bool)(i:Nat):tm l (m.setIfInBounds i true)=(tm l m).setIfInBounds i true:=by
 unfold tm;induction l generalizing m with
 |nil=>rfl
 |cons j l g=>simp only[List.foldl_cons];rw[Z80,g]
def Closed(md:Region.Mode)(ah:Array Oper)(m:Array Bool):Prop:=
 ∀j o,ah[j]?=some o->m.getD j false=true->∀e∈o.after,Region.binds md e=true->m.getD e.on false=true
theorem Closed.set{m:Array Bool}(h:Closed md ah m){i:Nat}(hi:i∈Region.ready md ah m):Closed md ah (m.setIfInBounds i true):=by
 obtain⟨_,u,y,E⟩:=mem_ready.1 hi;intro j o g hl e he hb;by_cases p:i=j
 .subst p;have:o=u:=Option.some.inj (g.symm.trans y);subst this;exact getD_set_true (E e he hb)
 .rw[getD_set_ne false p]at hl;exact getD_set_true (h j o g hl e he hb)
def WE(md:Region.Mode)(ah:Array Oper)(m:Array Bool)(j:Nat):Array Bool:=
 match ah[j]? with
 |some o=>o.after.toList.foldl (λm e=>if Region.binds md e then m.setIfInBounds e.on true else m) m
 |none=>m
def Zr0(md:Region.Mode)(ah:Array Oper)(t:Nat):Array Bool:=
 (List.range t).reverse.foldl (λm j=>if m.getD j false then WE md ah m j else m) (WE md ah (Array.replicate ah.size false) t)
theorem Z83{m p:Array Bool}(g:∀k,m.getD k false=true->p.getD k false=true){j:Nat}
 (y:∀o,ah[j]?=some o->∀e∈o.after,Region.binds md e=true->p.getD e.on false=true):∀k,(WE md ah m j).getD k false=true->p.getD k false=true:=by
 unfold WE;cases ho:ah[j]? with
 |none=>exact g
 | some o =>
   simp only;have E:=y o ho
   have:∀(l:List Edge),(∀e∈l,Region.binds md e=true->p.getD e.on false=true)->∀m:Array Bool,(∀k,m.getD k false=true->p.getD k false=true)->
    ∀k,(l.foldl (λm e=>if Region.binds md e then m.setIfInBounds e.on true else m) m).getD k false=true->p.getD k false=true:=by
    intro l;induction l with
    |nil=>intro _ m g;exact g
    | cons e l F =>
      intro he m g;simp only[List.foldl_cons];refine F (λG I=>he G (List.mem_cons_of_mem _ I)) _ λk hk=>?_;by_cases hb:Region.binds md e=true
      .rw[if_pos hb]at hk;by_cases u:e.on=k;·subst u;exact he e (List.mem_cons_self ..) hb
       .rw[getD_set_ne false u]at hk;exact g k hk
      .rw[if_neg hb]at hk;exact g k hk
   exact this o.after.toList (λe he=>E e (Array.mem_toList_iff.1 he)) m g
theorem Zjk{g:Array Bool}(hc:Closed md ah g){t:Nat}(ht:∀o,ah[t]?=some o->∀e∈o.after,Region.binds md e=true->g.getD e.on false=true) :
 ∀k,(Zr0 md ah t).getD k false=true->g.getD k false=true:=by
 unfold Zr0;have y:∀k,(WE md ah (Array.replicate ah.size false) t).getD k false=true->g.getD k false=true:=
  Z83 (λk hk=>by
   rcases Nat.lt_or_ge k ah.size with h|h;·simp[h]at hk
   .simp[h]at hk) ht
 have:∀(l:List Nat) (m:Array Bool),(∀k,m.getD k false=true->g.getD k false=true)->
  ∀k,(l.foldl (λm j=>if m.getD j false then WE md ah m j else m) m).getD k false=true->g.getD k false=true:=by
  intro l;induction l with
  |nil=>intro m p;exact p
  | cons j l E =>
    intro m p;simp only[List.foldl_cons];refine E _ ?_;by_cases u:m.getD j false=true
    .rw[if_pos u];exact Z83 p (λo ho e he hb=>hc j o ho (p j u) e he hb)
    .rw[if_neg u];exact p
 exact this _ _ y
def waits(md:Region.Mode)(ah:Array Oper)(j i:Nat):Bool:=
 match ah[j]? with
 |some o=>o.after.any λe=>Region.binds md e&&e.on==i
 |none=>false
def Xn(md:Region.Mode)(ah:Array Oper):Bool:=
 (List.range ah.size).all λj=>match ah[j]? with|some o=>o.after.all λe=>!Region.binds md e||decide (e.on<j)|none=>true
def Zc6(md:Region.Mode)(ah:Array Oper):Nat->List Nat->Bool
 |_,[]=>true
 |t,u::r=>waits md ah u t&&Zc6 md ah u r
def Oy(md:Region.Mode)(ah:Array Oper):List Nat->Bool
 | []=>false
 |t::r=>Xn md ah&&((t::r).all λj=>decide (j<ah.size))&&((List.range ah.size).all λj=>(t::r).contains j||(Zr0 md ah t).getD j false)&&Zc6 md ah t r
def U9(md:Region.Mode)(ah:Array Oper):List Nat->Array Bool->Bool
 | [],g=>(Region.ready md ah g).isEmpty
 |t::r,g=>decide (Region.ready md ah g=[t])&&U9 md ah r (g.setIfInBounds t true)
theorem Zdm{t:Nat}:∀{r:List Nat},Zc6 md ah t r=true->∀u∈r,∃s∈t::r,waits md ah u s=true:=by
 intro r;induction r generalizing t with
 |nil=>intro _ u g;cases g
 | cons v r m =>
   intro h u g;simp only[Zc6,Bool.and_eq_true]at h;rcases List.mem_cons.1 g with rfl|g;·exact⟨t,List.mem_cons_self ..,h.1⟩
   .obtain⟨s,hs,o⟩:=m h.2 u g;exact⟨s,List.mem_cons_of_mem _ hs,o⟩
theorem Z8c{j i:Nat}(h:waits md ah j i=true){m:Array Bool}(g:j∈Region.ready md ah m):m.getD i false=true:=by
 obtain⟨_,o,ho,p⟩:=mem_ready.1 g;unfold waits at h;rw[ho]at h;obtain⟨e,he,hb⟩:=Array.any_eq_true'.1 h;simp only[Bool.and_eq_true,beq_iff_eq]at hb;rw[<-hb.2];exact p e he hb.1
theorem Zl4{g:List Nat}(p:Oy md ah g=true){m:Array Bool}(hc:Closed md ah m)(F:∀t∈g,m.getD t false=false)
 {j:Nat}(G:j<ah.size)(I:j∉g)(J:m.getD j false=false):∀t∈g,t∉Region.ready md ah m:=by
 cases g with
 |nil=>simp[Oy]at p
 | cons t r =>
   simp only[Oy,Bool.and_eq_true]at p;obtain⟨⟨⟨_,_⟩,hd⟩,O⟩:=p;intro u U hr;rcases List.mem_cons.1 U with rfl|X
   .obtain⟨_,o,ho,Y⟩:=mem_ready.1 hr;have y:=List.all_eq_true.1 hd j (List.mem_range.2 G);simp only[Bool.or_eq_true,List.contains_eq_mem,decide_eq_true_eq]at y;have Z:=y.resolve_left I;have:=Zjk hc (t:=u) (λo' Dj e he hb=>by
     have:o'=o:=Option.some.inj (Dj.symm.trans ho);subst this;exact Y e he hb) j Z
    rw[J]at this;cases this
   .obtain⟨s,hs,hw⟩:=Zdm O u X;have E:=Z8c hw hr;rw[F s hs]at E;cases E
theorem Zca{m:Array Bool}{j:Nat}(h:j<m.size):m.getD j true=m.getD j false:=by simp[h]
theorem Z8l(u:Xn md ah=true){m:Array Bool}(hs:m.size=ah.size):∀j,j<ah.size->m.getD j false=false->Region.ready md ah m≠[]:=by
 intro j;induction j using Nat.strongRecOn with
 | _ j y =>
   intro p E;have ho:ah[j]?=some ah[j]:=Array.getElem?_eq_getElem p;have g:=List.all_eq_true.1 u j (List.mem_range.2 p);rw[ho]at g;simp only[Array.all_eq_true_iff_forall_mem,Bool.or_eq_true,Bool.not_eq_true',decide_eq_true_eq]at g;by_cases o:∀e∈ah[j].after,Region.binds md e=true->m.getD e.on false=true
   .intro F;have:j∈Region.ready md ah m:=mem_ready.2 ⟨by rw[Zca O'];exact E,_,ho,o⟩;rw[F]at this;cases this
   .simp only[Classical.not_forall]at o;obtain⟨e,he,hb,hn⟩:=o;have I:e.on<j:=(g e he).resolve_left (by simp[hb]);exact y e.on I O' (by simpa using hn)
theorem Z7u{Q:Exit->Act->World->Prop}:∀(l:List Nat) (m:Array Bool) (a:Act) (w:World),U9 md ah l m=true->
 wpList P ah Q (l.filterMap (ah[·]?)) a w->wpAny P md ah Q l.length m a w
 | [],m,a,w,g,h=>⟨by simpa[U9]using g,h⟩
 | t :: l, m, a, w, g, h => by
   simp only[U9,Bool.and_eq_true,decide_eq_true_eq]at g;refine⟨λp=>(by rw[g.1]at p;cases p),λi hi=>?_⟩;have u:=hi;rw[g.1]at hi;have y:i=t:=by simpa using hi
   subst y;obtain⟨_,o,ho,_⟩:=mem_ready.1 u;rw[List.filterMap_cons,ho]at h;simp only[wpList]at h;have E:wpOp P ah Q i (wpList P ah Q (l.filterMap (ah[·]?))) a w:=by unfold wpOp;simp only[ho];exact h
   exact wpOp_mono (λa' w' F=>Z7u l _ a' w' g.2 F) E
theorem Z9k{Q:Exit->Act->World->Prop}{y:List Nat}(I:Oy md ah y=true)(rT:∀m:Array Bool,m.size=ah.size->(∀j,j<ah.size->m.getD j false=!y.contains j)->U9 md ah y m=true) :
 ∀ (f : Nat) (p : Array Bool) (a : Act) (w : World), p.size = ah.size → Closed md ah p → (∀ t ∈ y, p.getD t false = false) →
   wpAny P md ah (Ends (wpList P ah Q (y.filterMap (ah[·]?))) Q) f (tm y p) a w->wpAny P md ah Q (f+y.length) p a w:=by
 have Y:Xn md ah=true:=by
  cases y with
  |nil=>simp[Oy]at I
  |cons t r=>simp only[Oy,Bool.and_eq_true]at I;exact I.1.1.1
 have jz:∀t∈y,t<ah.size:=by
  cases y with
  |nil=>simp[Oy]at I
  | cons t r =>
    simp only[Oy,Bool.and_eq_true]at I;intro u hu;simpa using List.all_eq_true.1 I.1.1.2 u hu
 have fin:∀(g:Nat) (p:Array Bool) (a:Act) (w:World),p.size=ah.size->(∀t∈y,p.getD t false=false)->(∀j,j<ah.size->j∉y->p.getD j false=true)->
  wpList P ah Q (y.filterMap (ah[·]?)) a w->wpAny P md ah Q (g+y.length) p a w:=by
  intro g p a w hs J O h;refine Zet (Nat.le_add_left _ _) (Z7u y p a w (rT p hs λj U=>?_) h);by_cases F:j∈y;·rw[J j F];simp[F]
  .rw[O j U F];simp[F]
 have done:∀(p:Array Bool),p.size=ah.size->Region.ready md ah (tm y p)=[]->∀j,j<ah.size->j∉y->p.getD j false=true:=by
  intro p hs hr j U F;cases h:p.getD j false with
  |true=>rfl
  |false=>exact absurd hr (Z8l Y (by rw[ZP];exact hs) j U (by rw[Z3k false F];exact h))
 intro f;induction f with
 | zero =>
   intro p a w hs hc J h;exact fin 0 p a w hs J (done p hs h.1) h.2
 | succ f ih =>
   intro p a w hs hc J h;by_cases O:∀j,j<ah.size->j∉y->p.getD j false=true
   .refine fin (f+1) p a w hs J O (h.1 ?_);refine List.eq_nil_iff_forall_not_mem.2 λi hi=>?_;obtain⟨E,o,ho,_⟩:=mem_ready.1 hi;have fB:i<ah.size:=(Array.getElem?_eq_some_iff.1 ho).1;rw[Zca (by rw[ZP];omega)]at E;by_cases X:i∈y;·rw[Z47 X O']at E;cases E
    .rw[Z3k false X,O i fB X]at E;cases E
   .simp only[Classical.not_forall]at O;obtain⟨j,U,F,yv⟩:=O;have Z:p.getD j false=false:=by simpa using yv
    have KD:=Zl4 I hc J U F Z;rw[show f+1+y.length=(f+y.length)+1 by omega];refine⟨λE=>absurd E (Z8l Y hs j U Z),λi hi=>?_⟩;have X:i∉y:=λhp=>KD i hp hi;obtain⟨E,o,ho,GO⟩:=mem_ready.1 hi;have Dk:i∈Region.ready md ah (tm y p):=mem_ready.2 ⟨by rw[Z3k true X];exact E,o,ho,λe he hb=>Z36 (GO e he hb)⟩;refine wpOp_mono (λa' w' h'=>?_) (Zjp (h.2 i Dk));refine ih _ a' w' (by simpa using hs) (hc.set hi) (λt ht=>?_) (by rw[Zfm];exact h');rw[getD_set_ne false (by rintro rfl;exact X ht)]
    exact J t ht
def xw(P:Program)(ah:Array Oper)(Q:Exit->Act->World->Prop)(S:World->Prop):List (Bool×Oper)->Act->World->Prop
 | [],a,w=>Q .normal a w
 |(true,o)::r,a,w=>∃v,YieldsIf P ah S o v a∧xw P ah Q S r (a.put o.dst v) w
 |(false,o)::r,a,w=>if Region.wanted o (yielded ah a.tmps)=true then o.wp P a w (λa' w'=>S w'∧xw P ah Q S r a' w') Q else xw P ah Q S r (a.put o.dst undef) w
def VO(md:Region.Mode)(ah:Array Oper):List (Bool×Nat)->Array Bool->Bool
 | [],g=>(Region.ready md ah g).isEmpty
 |(true,i)::r,g=>(Region.ready md ah g).contains i&&Region.free md ah g i&&VO md ah r (g.setIfInBounds i true)
 |(false,i)::r,g=>decide (Region.ready md ah g=[i])&&VO md ah r (g.setIfInBounds i true)
def Sr(ah:Array Oper)(l:List (Bool×Nat)):List (Bool×Oper):=l.filterMap λx=>(ah[x.2]?).map λo=>(x.1,o)
theorem Z4e{Q:Exit->Act->World->Prop}{S:World->Prop}(y:Region.noSelect ah=true)(E:∀c a d v w,Q (.panic c) (Act.put a d v) w->Q (.panic c) a w) :
 ∀(l:List (Bool×Nat)) (g:Array Bool) (a:Act) (w:World),VO md ah l g=true->S w->xw P ah Q S (Sr ah l) a w->wpAnyH P md ah Q S l.length g a w
 | [],g,a,w,m,_,h=>⟨by simpa[VO]using m,h⟩
 | (true, i) :: l, g, a, w, m, p, h => by
   simp only[VO,Bool.and_eq_true]at m;obtain⟨⟨hr,hf⟩,F⟩:=m;obtain⟨_,o,ho,_⟩:=mem_ready.1 (show i∈Region.ready md ah g by simpa using hr);have e:Sr ah ((true,i)::l)=(true,o)::Sr ah l:=by simp[Sr,ho]
   rw[e]at h;obtain⟨v,J,u⟩:=h;exact wpAnyH_take ho y hf hr (λc a w=>E c a _ _ w) J p (Z4e y E l _ _ w F p u)
 | (false, i) :: l, g, a, w, m, p, h => by
   simp only[VO,Bool.and_eq_true,decide_eq_true_eq]at m;obtain⟨hr,F⟩:=m;obtain⟨_,o,ho,_⟩:=mem_ready.1 (show i∈Region.ready md ah g by rw[hr];simp);have e:Sr ah ((false,i)::l)=(false,o)::Sr ah l:=by simp[Sr,ho]
   rw[e]at h;refine wpAnyH_all hr Pg λk hk=>?_;have O:k=i:=QI
   subst O;unfold wpOp;simp only[ho];unfold xw at h;split at h
   .rename_i I;rw[if_pos I];exact .inl (Oper.wp_mono (λa' w' u=>⟨u.1,Z4e y E l _ a' w' F u.1 u.2⟩) h)
   .rename_i I;rw[if_neg I];exact⟨p,Z4e y E l _ _ w F p h⟩
theorem Z9s{Q:Exit->Act->World->Prop}{S:World->Prop}{o:Oper}{r:List (Bool×Oper)}{a:Act}{w:World}(v:Value)
 (g:Region.wanted o (yielded ah a.tmps)=true)(m:∀w',S w'->(execOp a.eval o).run P w'=.ok (.value v) w')(h:xw P ah Q S r (a.put o.dst v) w):xw P ah Q S ((true,o)::r) a w:=
 ⟨v,.inl ⟨g,m⟩,h⟩
theorem Zf3{Q:Exit->Act->World->Prop}{S:World->Prop}{o:Oper}{r:List (Bool×Oper)}{a:Act}{w:World}
 (g:Region.wanted o (yielded ah a.tmps)=false)(h:xw P ah Q S r (a.put o.dst undef) w):xw P ah Q S ((true,o)::r) a w:=
 ⟨undef,.inr ⟨g,rfl⟩,h⟩
theorem Zp0{Q:Exit->Act->World->Prop}{S:World->Prop}{o:Oper}{r:List (Bool×Oper)}{a:Act}{w:World}(v:Value)(h:xw P ah Q S r (a.put o.dst v) w)
 (hw:Region.wanted o (yielded ah a.tmps)=true:=by rfl)(hy:∀w',S w'->(execOp a.eval o).run P w'=.ok (.value v) w':=by(intro w' lS;(repeat(have GU:=lS.1;replace lS:=lS.2));go_simp;first|done|with_reducible rfl)) :
 xw P ah Q S ((true,o)::r) a w:=⟨v,.inl ⟨hw,hy⟩,h⟩
theorem Zow{Q:Exit->Act->World->Prop}{S:World->Prop}{o:Oper}{r:List (Bool×Oper)}{a:Act}{w:World}(h:xw P ah Q S r (a.put o.dst undef) w)
 (hw:Region.wanted o (yielded ah a.tmps)=false:=by rfl):xw P ah Q S ((true,o)::r) a w:=⟨undef,.inr ⟨hw,rfl⟩,h⟩
theorem Z6{Q:Exit->Act->World->Prop}{S:World->Prop}{o:Oper}{r:List (Bool×Oper)}{a:Act}{w:World}
 (h:∀K:Act->World->Prop,(∀a' w',S w'->xw P ah Q S r a' w'->K a' w')->if Region.wanted o (yielded ah a.tmps)=true then o.wp P a w K Q else K (a.put o.dst undef) w) :
 xw P ah Q S ((false,o)::r) a w:=by
 unfold xw;by_cases g:Region.wanted o (yielded ah a.tmps)=true
 .rw[if_pos g];have:=h (λa' w'=>S w'∧xw P ah Q S r a' w') (λ_ _ m p=>⟨m,p⟩);rwa[if_pos g]at this
 .rw[if_neg g];have:=h (λa' w'=>S w'∧xw P ah Q S r a' w') (λ_ _ m p=>⟨m,p⟩);rw[if_neg g]at this;exact this.2
theorem Z0{Q:Exit->Act->World->Prop}{S:World->Prop}{a:Act}{w:World}{l:List Oper}(h:wpList P ah Q l a w):xw P ah (Ends (wpList P ah Q l) Q) S [] a w:=h
def Ty(md:Region.Mode)(ah:Array Oper)(m:List (Bool×Nat))(g:List Nat):Bool:=
 Region.noSelect ah&&Oy md ah g&&U9 md ah g (((List.range ah.size).map λj=>!g.contains j).toArray)&&VO md ah m (tm g (Array.replicate ah.size false))&&decide (m.length+g.length=ah.size)
theorem Za{Q:Exit->Act->World->Prop}{id:Nat}{l:List Oper}{a:Act}{w:World}(p:List (Bool×Nat))(ph:List Nat)(S:World->Prop)(F:P.follows .mixedOrders=true)
 (y:Ty .any l.toArray p ph=true)(I:∀c a d v w,Q (.panic c) (Act.put a d v) w->Q (.panic c) a w)(E:S w.drew)
 (h:S w.drew->xw P l.toArray (Ends (wpList P l.toArray Q (ph.filterMap (l.toArray[·]?))) Q) S (Sr l.toArray p) a w.drew):(Code.region id l.toArray true).wp P Q a w:=by
 simp only[Ty,Bool.and_eq_true,decide_eq_true_eq]at y;obtain⟨⟨⟨⟨J,rV⟩,rT⟩,O⟩,U⟩:=y;refine wp_region_any F ?_;have X:∀t∈ph,t<l.toArray.size:=by
  exact Zty
 have H:=Z4e (P:=P) (md:=.any) (Q:=Ends (wpList P l.toArray Q (ph.filterMap (l.toArray[·]?))) Q) J I p _ a w.drew O E (h E);have g:=Z9k (Q:=Q) rV (λm hs rS=>?_) p.length (Array.replicate l.toArray.size false) a w.drew Pg ?_ ?_ (wpAny_of_held _ _ _ _ H);·rw[U]at g;exact g
 .exact ZK
 .intro j o _ hl;rw[Xy]at hl;cases hl
 .intro t _;exact Xy _ _
theorem oi{Q:Exit->Act->World->Prop}{id:Nat}{l:List Oper}{a:Act}{w:World}(gN:List (Bool×Nat))(ph:List Nat)(S:World->Prop)(hS:S w.drew)
 (h:S w.drew->xw P l.toArray (Ends (wpList P l.toArray Q (ph.filterMap (l.toArray[·]?))) Q) S (Sr l.toArray gN) a w.drew)
 (hm:P.follows .mixedOrders=true:=by kernel_rfl)(hB:Ty .any l.toArray gN ph=true:=by kernel_rfl)(hQ:∀c a d v w,Q (.panic c) (Act.put a d v) w->Q (.panic c) a w:=by(intro _ _ d _ _ h;cases d<;>exact h)):(Code.region id l.toArray true).wp P Q a w:=
 Za gN ph S hm hB hQ hS h
def pD(n:Nat):Bool×Nat:=(n %2==0,n/2)
theorem Z8{Q:Exit->Act->World->Prop}{id:Nat}{l:List Oper}{a:Act}{w:World}(gN:List Nat)(ph:List Nat)(S:World->Prop)(hS:S w.drew)
 (h:S w.drew->xw P l.toArray (Ends (wpList P l.toArray Q (ph.filterMap (l.toArray[·]?))) Q) S (Sr l.toArray (gN.map pD)) a w.drew)(hm:P.follows .mixedOrders=true:=by kernel_rfl)
 (hB:Ty .any l.toArray (gN.map pD) ph=true:=by kernel_rfl)(hQ:∀c a d v w,Q (.panic c) (Act.put a d v) w->Q (.panic c) a w:=by(intro _ _ d _ _ h;cases d<;>exact h)):(Code.region id l.toArray true).wp P Q a w:=
 Za (gN.map pD) ph S hm hB hQ hS h
end
section
variable {P:Program}{ah:Array Oper}{md:Region.Mode}{Q:Exit->Act->World->Prop}{S:World->Prop}{t:Nat}
theorem Z8f{m:Array Bool}{i j:Nat}(h:i<m.size):(m.setIfInBounds i true).getD j false=if i=j then true else m.getD j false:=by
 by_cases e:i=j;·subst e;rw[if_pos rfl];simp[h]
 .rw[if_neg e,getD_set_ne false e]
def UI(P:Program)(md:Region.Mode)(ah:Array Oper)(Q:Exit->Act->World->Prop)(S:World->Prop)(t:Nat):Nat->Array Bool->Act->World->Prop
 |0,g,a,w=>Region.ready md ah g=[]∧Q .normal a w
 | fuel + 1, g, a, w =>
   (Region.ready md ah g=[]->Q .normal a w)∧
   ∀i∈Region.ready md ah g,wpOp P ah Q i (λa' w'=>((g.setIfInBounds i true).getD t false=false->S w')∧UI P md ah Q S t fuel (g.setIfInBounds i true) a' w') a w
theorem Z9p:∀(fuel:Nat) (g:Array Bool) (a:Act) (w:World),UI P md ah Q S t fuel g a w->wpAny P md ah Q fuel g a w
 |0,_,_,_,h=>h
 |fuel+1,_,_,_,h=>⟨h.1,λi hi=>wpOp_mono (λa' w' m=>Z9p fuel _ a' w' m.2) (h.2 i hi)⟩
theorem Z7m{i:Nat}{u:Oper}{v:Value}{E:World->Prop}(hi:ah[i]?=some u)(dE:∀(j:Nat) (o:Oper) cs b,ah[j]?=some o->o.op≠.select cs b)
 (hQ:∀c a w,Q (.panic c) (a.put u.dst v) w->Q (.panic c) a w)(jA:i≠t) :
 ∀ (fuel : Nat) (g : Array Bool) (a : Act) (w : World), g.size = ah.size →
   (∀j y,ah[j]?=some y->j≠i->g.getD j true=false->(∀e∈y.after,Region.binds md e=true->e.on≠i)->u.apart ah y=true)->
   i∈Region.ready md ah g->YieldsIf P ah E u v a->((waits md ah t i=true∧g.getD t false=false∧E=S)∨E=λ_=>True)->(g.getD t false=false->S w)->
   UI P md ah Q S t fuel (g.setIfInBounds i true) (a.put u.dst v) w->UI P md ah Q S t (fuel+1) g a w:=by
 have F:∀(g:Array Bool) (w:World),((waits md ah t i=true∧g.getD t false=false∧E=S)∨E=λ_=>True)->(g.getD t false=false->S w)->E w:=by
  intro g w m X;rcases m with⟨_,h,rfl⟩|rfl;·exact X h
  .trivial
 have same:∀(g:Array Bool),(g.setIfInBounds i true).getD t false=g.getD t false:=λl=>getD_set_ne false jA;intro fuel;induction fuel with
 | zero =>
   intro g a w _ _ hr U m I H;refine⟨λh=>(by rw[h]at hr;cases hr),λj J=>?_⟩;by_cases p:j=i;·subst p;exact U.wpOp hi (F _ _ m I) ⟨λh=>I ((same g).symm.trans h),H⟩
   .have:=ready_mono J p;rw[H.1]at this;cases this
 | succ fuel ih =>
   intro g a w be fp hr U m I H;refine⟨λh=>(by rw[h]at hr;cases hr),λj J=>?_⟩;by_cases p:j=i;·subst p;exact U.wpOp hi (F _ _ m I) ⟨λh=>I ((same g).symm.trans h),H⟩
   .have X:=H.2 j (ready_mono J p);obtain⟨yx,y,Y,an⟩:=mem_ready.1 J;have O:g.getD i true=false:=(mem_ready.1 hr).1;have yy:g.getD i false=false:=by
     rcases Nat.lt_or_ge i g.size with Z|Z;·simp[Z]at O ⊢;exact O
     .simp[Z]
    have Dm:∀e∈y.after,Region.binds md e=true->e.on≠i:=λe he hb Dn=>by
     have m:=an e he hb;rw[Dn,yy]at m;cases m
    have yz:waits md ah t i=true->j≠t:=λhw e=>by
     subst e;have:=Z8c hw J;rw[yy]at this;cases this
    have h3:=wpOp_putIf Y (fp j y Y p yx Dm) (λcs b=>dE i u cs b hi) (λcs b=>dE j y cs b Y) hQ U X
    have uP:∀k ok,ah[k]?=some ok->k≠i->(g.setIfInBounds j true).getD k true=false->
     (∀e∈ok.after,Region.binds md e=true->e.on≠i)->u.apart ah ok=true:=λk ok hk rY O dM=>by
     refine fp k ok hk rY ?_ dM;by_cases pK:j=k;·subst pK;exact yx
     .rw[getD_set_ne true pK]at O;exact O
    refine wpOp_mono (λa' w' h4=>?_) h3;have hb:(g.setIfInBounds j true).getD t false=false->S w':=λh=>h4.2.1 (by rw[Z80,getD_set_ne false jA];exact h);refine⟨hb,ih (g.setIfInBounds j true) a' w' Qv uP (ready_mono hr (Ne.symm p)) h4.1 ?_ hb ?_⟩
    .rcases m with⟨q1,q2,q3⟩|q;·exact .inl ⟨q1,by rw[getD_set_ne false (yz q1)];exact q2,q3⟩
     .exact .inr q
    .rw[Array.setIfInBounds_comm _ _ p];exact h4.2.2
inductive Pl3
 |nil
 |take(i:Nat)(r:Pl3)
 |go(i:Nat)(r:Pl3)
 |two(i:Nat)(ri:Pl3)(j:Nat)(rj:Pl3)
 |three(i:Nat)(ri:Pl3)(j:Nat)(rj:Pl3)(k:Nat)(rk:Pl3)
def Pl3.len:Pl3->Nat
 | .nil=>0
 | .take _ r=>r.len+1
 | .go _ r=>r.len+1
 | .two _ r _ _=>r.len+1
 | .three _ r _ _ _ _=>r.len+1
def v7(P:Program)(md:Region.Mode)(ah:Array Oper)(Q:Exit->Act->World->Prop)(S:World->Prop)(t:Nat):Pl3->Bool->Act->World->Prop
 | .nil,_,a,w=>Q .normal a w
 | .take i r,b,a,w=>∃o v,ah[i]?=some o∧((b=false∧waits md ah t i=true∧YieldsIf P ah S o v a)∨YieldsIf P ah (λ_=>True) o v a)∧v7 P md ah Q S t r b (a.put o.dst v) w
 | .go i r,b,a,w=>wpOp P ah Q i (λa' w'=>((b||i==t)=false->S w')∧v7 P md ah Q S t r (b||i==t) a' w') a w
 | .two i g j m,b,a,w=>wpOp P ah Q i (λa' w'=>((b||i==t)=false->S w')∧v7 P md ah Q S t g (b||i==t) a' w') a w∧wpOp P ah Q j (λa' w'=>((b||j==t)=false->S w')∧v7 P md ah Q S t m (b||j==t) a' w') a w
 | .three i g j m k p,b,a,w=>wpOp P ah Q i (λa' w'=>((b||i==t)=false->S w')∧v7 P md ah Q S t g (b||i==t) a' w') a w∧wpOp P ah Q j (λa' w'=>((b||j==t)=false->S w')∧v7 P md ah Q S t m (b||j==t) a' w') a w∧wpOp P ah Q k (λa' w'=>((b||k==t)=false->S w')∧v7 P md ah Q S t p (b||k==t) a' w') a w
def sU(md:Region.Mode)(ah:Array Oper)(t:Nat):Pl3->Array Bool->Bool
 | .nil,g=>(Region.ready md ah g).isEmpty
 | .take i r,g=>(Region.ready md ah g).contains i&&Region.free md ah g i&&decide (i≠t)&&sU md ah t r (g.setIfInBounds i true)
 | .go i r,g=>decide (Region.ready md ah g=[i])&&sU md ah t r (g.setIfInBounds i true)
 | .two i m j o,g=>decide (Region.ready md ah g=[i,j])&&decide (m.len=o.len)&&sU md ah t m (g.setIfInBounds i true)&&sU md ah t o (g.setIfInBounds j true)
 | .three i m j o k p,g=>decide (Region.ready md ah g=[i,j,k])&&decide (m.len=o.len)&&decide (m.len=p.len)&&sU md ah t m (g.setIfInBounds i true)&&sU md ah t o (g.setIfInBounds j true)&&sU md ah t p (g.setIfInBounds k true)
theorem VT(dE:Region.noSelect ah=true)(hQ:∀c a d v w,Q (.panic c) (Act.put a d v) w->Q (.panic c) a w) :
 ∀(l:Pl3) (g:Array Bool) (b:Bool) (a:Act) (w:World),g.size=ah.size->g.getD t false=b->sU md ah t l g=true->(b=false->S w)->v7 P md ah Q S t l b a w->UI P md ah Q S t l.len g a w
 | .nil,g,b,a,w,_,_,m,_,h=>⟨by simpa[sU]using m,h⟩
 | .take i r, g, b, a, w, be, hb, m, p, h => by
   simp only[sU,Bool.and_eq_true,decide_eq_true_eq]at m;obtain⟨⟨⟨hr,hf⟩,E⟩,F⟩:=m;obtain⟨o,v,ho,u,h'⟩:=h;have yA:=VT dE hQ r (g.setIfInBounds i true) b _ w Qv ((getD_set_ne false E).trans hb) F p h';rcases u with⟨h0,hw,u⟩|u;·exact Z7m ho (Region.noSelect_spec dE) (λc a w=>hQ c a _ _ w) E r.len g a w be (Region.free_spec ho hf) (by simpa using hr) u (.inl ⟨hw,hb.trans h0,rfl⟩) (λh=>p (hb.symm.trans h)) yA
   .exact Z7m ho (Region.noSelect_spec dE) (λc a w=>hQ c a _ _ w) E r.len g a w be (Region.free_spec ho hf) (by simpa using hr) u (.inr rfl) (λh=>p (hb.symm.trans h)) yA
 | .go i r, g, b, a, w, be, hb, m, p, h => by
   simp only[sU,Bool.and_eq_true,decide_eq_true_eq]at m;obtain⟨hr,F⟩:=m;obtain⟨_,o,ho,_⟩:=mem_ready.1 (show i∈Region.ready md ah g by rw[hr];simp);have fB:i<g.size:=by rw[be];exact(Array.getElem?_eq_some_iff.1 ho).1
   have cV:(g.setIfInBounds i true).getD t false=(b||i==t):=by
    rw[Z8f fB,hb];by_cases e:i=t;·subst e;simp
    .simp[e]
   refine⟨λh0=>Q8,λk hk=>?_⟩;rw[hr]at hk;have rY:k=i:=QI
   subst rY;exact wpOp_mono (λa' w' h'=>⟨λhh=>h'.1 (cV.symm.trans hh),VT dE hQ r _ _ a' w' Qv cV F h'.1 h'.2⟩) h
 | .two i ri j I, g, b, a, w, be, hb, m, p, h => by
   simp only[sU,Bool.and_eq_true,decide_eq_true_eq]at m;obtain⟨⟨⟨hr,J⟩,aL⟩,O⟩:=m;obtain⟨_,o1,U,_⟩:=mem_ready.1 (show i∈Region.ready md ah g by rw[hr];simp);obtain⟨_,o2,mJ,_⟩:=mem_ready.1 (show j∈Region.ready md ah g by rw[hr];simp);have fB:i<g.size:=by rw[be];exact(Array.getElem?_eq_some_iff.1 U).1
   have y:j<g.size:=by rw[be];exact(Array.getElem?_eq_some_iff.1 mJ).1
   have cV:∀k,k<g.size->(g.setIfInBounds k true).getD t false=(b||k==t):=λk hk=>by
    rw[Z8f hk,hb];by_cases e:k=t;·subst e;simp
    .simp[e]
   refine⟨λh0=>Q8,λk hk=>?_⟩;rw[hr]at hk;have X:k=i∨k=j:=QI
   rcases X with rfl|rfl;·exact Zws
   .show wpOp P ah Q k (λa' w'=>_∧UI P md ah Q S t ri.len _ a' w') a w;rw[J];exact wpOp_mono (λa' w' h'=>⟨λhh=>h'.1 ((cV _ y).symm.trans hh),VT dE hQ I _ _ a' w' Qv (cV _ y) O h'.1 h'.2⟩) h.2
 | .three i ri j I Y rk, g, b, a, w, be, hb, m, p, h => by
   simp only[sU,Bool.and_eq_true,decide_eq_true_eq]at m;obtain⟨⟨⟨⟨⟨hr,J⟩,pM⟩,aL⟩,O⟩,aB⟩:=m;have Z:∀x,x∈Region.ready md ah g->x<g.size:=λx hx=>by
    obtain⟨_,o1,U,_⟩:=mem_ready.1 hx;rw[be];exact(Array.getElem?_eq_some_iff.1 U).1
   have fB:i<g.size:=Z i (by rw[hr];simp);have y:j<g.size:=Z j (by rw[hr];simp);have ba:Y<g.size:=Z Y (by rw[hr];simp);have cV:∀k,k<g.size->(g.setIfInBounds k true).getD t false=(b||k==t):=λk hk=>by
    rw[Z8f hk,hb];by_cases e:k=t;·subst e;simp
    .simp[e]
   refine⟨λh0=>Q8,λk hk=>?_⟩;rw[hr]at hk;have X:k=i∨k=j∨k=Y:=QI
   rcases X with rfl|rfl|rfl;·exact Zws
   .show wpOp P ah Q k (λa' w'=>_∧UI P md ah Q S t ri.len _ a' w') a w;rw[J];exact wpOp_mono (λa' w' h'=>⟨λhh=>h'.1 ((cV _ y).symm.trans hh),VT dE hQ I _ _ a' w' Qv (cV _ y) O h'.1 h'.2⟩) h.2.1
   .show wpOp P ah Q k (λa' w'=>_∧UI P md ah Q S t ri.len _ a' w') a w;rw[pM];exact wpOp_mono (λa' w' h'=>⟨λhh=>h'.1 ((cV _ ba).symm.trans hh),VT dE hQ rk _ _ a' w' Qv (cV _ ba) aB h'.1 h'.2⟩) h.2.2
def Zkq(md:Region.Mode)(ah:Array Oper)(t:Nat)(pl:Pl3):Bool:=
 Region.noSelect ah&&sU md ah t pl (Array.replicate ah.size false)&&decide (pl.len=ah.size)
theorem Z1y{id:Nat}{l:List Oper}{a:Act}{w:World}(pl:Pl3)(t:Nat)(S:World->Prop)(o:P.follows .mixedOrders=true)
 (m:Zkq .any l.toArray t pl=true)(p:∀c a d v w,Q (.panic c) (Act.put a d v) w->Q (.panic c) a w)(u:S w.drew)
 (h:v7 P .any l.toArray Q S t pl false a w.drew):(Code.region id l.toArray true).wp P Q a w:=by
 simp only[Zkq,Bool.and_eq_true,decide_eq_true_eq]at m;obtain⟨⟨y,E⟩,F⟩:=m;refine wp_region_any o ?_;have g:=Z9p _ _ _ _ (VT (P:=P) (md:=.any) (Q:=Q) (S:=S) (t:=t) y p pl (Array.replicate l.toArray.size false) false a w.drew Pg (Xy _ _) E (λ_=>u) h);rw[F]at g;exact g
theorem uY{P:Program}{Q:Exit->Act->World->Prop}{id:Nat}{l:List Oper}{a:Act}{w:World}(pl:Pl3)(t:Nat)(S:World->Prop)(hS:S w.drew)
    (h:v7 P .any l.toArray Q S t pl false a w.drew)(hm:P.follows .mixedOrders=true:=by kernel_rfl)(hB:Zkq .any l.toArray t pl=true:=by kernel_rfl)(hQ:∀c a d v w,Q (.panic c) (Act.put a d v) w->Q (.panic c) a w:=by(intro _ _ d _ _ h;cases d<;>exact h)):(Code.region id l.toArray true).wp P Q a w:=
  Z1y pl t S hm hB hQ hS h
theorem Z7g{o:Oper}{i:Nat}{r:Pl3}{a:Act}{w:World}(v:Value)(ho:ah[i]?=some o)(g:waits md ah t i=true)
 (m:Region.wanted o (yielded ah a.tmps)=true)(p:∀w',S w'->(execOp a.eval o).run P w'=.ok (.value v) w')(h:v7 P md ah Q S t r false (a.put o.dst v) w):v7 P md ah Q S t (.take i r) false a w:=
 ⟨o,v,ho,.inl ⟨rfl,g,.inl ⟨m,p⟩⟩,h⟩
theorem X4{o:Oper}{i:Nat}{r:Pl3}{b:Bool}{a:Act}{w:World}(v:Value)(ho:ah[i]?=some o)
 (g:Region.wanted o (yielded ah a.tmps)=true)(m:∀w',(execOp a.eval o).run P w'=.ok (.value v) w')(h:v7 P md ah Q S t r b (a.put o.dst v) w):v7 P md ah Q S t (.take i r) b a w:=
 ⟨o,v,ho,.inr (.inl ⟨g,λw' _=>m w'⟩),h⟩
theorem Zmr{o:Oper}{i:Nat}{r:Pl3}{a:Act}{w:World}(ho:ah[i]?=some o)(g:(i==t)=false)(m:Region.wanted o (yielded ah a.tmps)=true)
 (h:∀K:Act->World->Prop,(∀a' w',S w'->v7 P md ah Q S t r false a' w'->K a' w')->o.wp P a w K Q):v7 P md ah Q S t (.go i r) false a w:=by
 unfold v7 wpOp;simp only[ho];rw[if_pos m];exact .inl (h _ λa' w' p u=>⟨λ_=>p,by simpa[g]using u⟩)
theorem Zik{o:Oper}{i:Nat}{r:Pl3}{b:Bool}{a:Act}{w:World}(ho:ah[i]?=some o)(g:(b||i==t)=true)(p:Region.wanted o (yielded ah a.tmps)=true)
 (h:∀K:Act->World->Prop,(∀a' w',v7 P md ah Q S t r true a' w'->K a' w')->o.wp P a w K Q):v7 P md ah Q S t (.go i r) b a w:=by
 unfold v7 wpOp;simp only[ho];rw[if_pos p];exact .inl (h _ λa' w' u=>⟨λm=>(by rw[g]at m;cases m),by rw[g];exact u⟩)
theorem Zkr{i j:Nat}{g m:Pl3}{b:Bool}{a:Act}{w:World}(o:v7 P md ah Q S t (.go i g) b a w)(p:v7 P md ah Q S t (.go j m) b a w):v7 P md ah Q S t (.two i g j m) b a w:=⟨o,p⟩
theorem D2{b:Bool}{a:Act}{w:World}(h:Q .normal a w):v7 P md ah Q S t .nil b a w:=h
end
end Go.Proofs.YtjikfacdcdiddaaGreatDoor
namespace Go.Proofs.YtjikfacdcdiddaaGreatDoor
open Go Go.RowKit
structure LVal where
 kind:Int
 n:Int
 s:ByteArray
def LVal.cells(v:LVal):List Value:=[vI v.kind,vI v.n,.string v.s]
def LVal.agg(v:LVal):Value:=.agg #[vI v.kind,vI v.n,.string v.s]
structure LBind where
 name:ByteArray
 v:LVal
 kind:Int
 ready:Bool
def LBind.cells(b:LBind):List Value:=[.string b.name,vI b.v.kind,vI b.v.n,.string b.v.s,vI b.kind,.bool b.ready]
structure LProp where
 name:ByteArray
 v:LVal
 fixed:Bool
def LProp.cells(b:LProp):List Value:=[.string b.name,vI b.v.kind,vI b.v.n,.string b.v.s,.bool b.fixed]
structure LObj where
 props:List LProp
 code:Int
structure LScope where
 outer:Int
 object:Int
 names:List LBind
structure LHeap where
 objects:List LObj
 scopes:List LScope
def Zg(a b:ByteArray):Bool:=decide (a=b)
theorem Zl1{a b:ByteArray}:Zg a b=true↔a=b:=by simp[Zg]
theorem Z4y{a b:ByteArray}(h:a.toList=b.toList):a=b:=by
 obtain⟨⟨a⟩⟩:=a;obtain⟨⟨b⟩⟩:=b;simpa[ByteArray.toList_eq]using h
theorem RV(a b:ByteArray):(a.toList==b.toList)=Zg a b:=by
 unfold Zg;by_cases h:a=b;·simp[h]
 .simp only[h,decide_false,beq_eq_false_iff_ne,ne_eq];exact λe=>h (Z4y e)
theorem getElem?_flatMap{α β:Type}(f:α->List β)(m:Nat)(hf:∀a,(f a).length=m)(l:List α)(i j:Nat)(o:j<m) :
 (l.flatMap f)[i*m+j]?=(l[i]?).bind λa=>(f a)[j]?:=by
 induction l generalizing i with
 |nil=>simp
 | cons a l g =>
   rw[List.flatMap_cons];cases i with
   |zero=>rw[List.getElem?_append_left (by rw[hf];omega)];simp
   | succ i =>
     rw[List.getElem?_append_right QM,hf,show(i+1)*m+j-m=i*m+j by rw[Nat.succ_mul];omega,g];simp
theorem Md{w:World}{base:Nat}{e:TypeId}{m:Nat}{v:Value}{n:Nat}{α:Type}{f:α->List Value}{l:List α}(hf:∀a,(f a).length=m)
 (h:w.ownsRow base e m v n (l.flatMap f)){g:Nat}(p:v.ownBlock=some g){i j:Nat}{a:α}{x:Value}(hi:l[i]?=some a)(o:(f a)[j]?=some x) :
 w.cell? ⟨g,i*m+j,none⟩=some x:=by
 have u:j<m:=by rw[<-hf a];exact(List.getElem?_eq_some_iff.1 o).1
 have:=h.cells p (i*m+j) x (by rw[getElem?_flatMap f m hf l i j u,hi];exact o);rwa[show((⟨g,0,none⟩:Addr).add (i*m+j))=⟨g,i*m+j,none⟩ by unfold Addr.add;split<;>simp_all]at this
theorem Z2{w w':World}{base:Nat}{e:TypeId}{m:Nat}{v:Value}{n:Nat}{o:List Value}(h:w.ownsRow base e m v n o)
 (hb:∀g,v.ownBlock=some g->w'.heap[g]?=w.heap[g]?):w'.ownsRow base e m v n o:=by
 refine⟨h.1,?_⟩;rcases h.2 with hn|⟨g,cap,p,rfl,u,y,E⟩;·exact .inl hn
 .exact .inr ⟨g,cap,p,rfl,u,by rw[hb g rfl];exact y,E⟩
theorem Z4{w:World}{base:Nat}{e:TypeId}{m:Nat}{v:Value}{n:Nat}{o:List Value}(h:w.ownsRow base e m v n o) :
 (v=.slice none 0 0∧n=0)∨∃g cap,v=.slice (some ⟨g,0,none⟩) n cap∧n<=cap∧cap<=maxLen∧g<w.heap.size:=by
 rcases h.2 with hn|⟨g,cap,E,rfl,_,p,u,y,_⟩;·exact .inl hn
 .exact .inr ⟨g,cap,rfl,u,y,(Array.getElem?_eq_some_iff.1 p).1⟩
theorem Tb{w:World}{base:Nat}{e:TypeId}{m:Nat}{v:Value}{n:Nat}{u:List Value}(h:w.ownsRow base e m v n u){g:Nat}(p:v.ownBlock=some g)(o:Nat) :
 w.frozen? ⟨g,o,none⟩=false:=by
 rcases h.2 with⟨rfl,_⟩|⟨E,cap,F,rfl,_,y,_⟩;·cases p
 .simp only[Value.ownBlock,Option.some.injEq]at p;subst p;simp[World.frozen?,y]
inductive Role
 |hp|objs|scps
 |obj(i:Nat)|prp(i:Nat)|scp(i:Nat)|nam(i:Nat)
structure HL where
 vo:Value
 vs:Value
 ob:Nat->Nat
 pv:Nat->Value
 sb:Nat->Nat
 nv:Nat->Value
def x6(f:Nat->Nat)(n:Nat):List Value:=(List.range n).map λi=>.pointer (some ⟨f i,0,none⟩)
structure HeapAt(ρ:Nat->Option Role)(w:World)(hb ho:Nat)(L:HL)(H:LHeap):Prop where
 cellO:w.cell? ⟨hb,ho,none⟩=some L.vo
 cellS:w.cell? ⟨hb,ho+1,none⟩=some L.vs
 frO:w.frozen? ⟨hb,ho,none⟩=false
 frS:w.frozen? ⟨hb,ho+1,none⟩=false
 rowO:w.ownsRow 0 95 1 L.vo H.objects.length (x6 L.ob H.objects.length)
 rowS:w.ownsRow 0 106 1 L.vs H.scopes.length (x6 L.sb H.scopes.length)
 obj:∀i o,H.objects[i]?=some o->w.heap[L.ob i]?=some (.cells #[L.pv i,vI o.code] 98 (0,0))∧w.ownsRow 0 103 5 (L.pv i) o.props.length (o.props.flatMap LProp.cells)
 scp:∀i s,H.scopes[i]?=some s->w.heap[L.sb i]?=some (.cells #[vI s.outer,vI s.object,L.nv i] 111 (0,0))∧w.ownsRow 0 159 6 (L.nv i) s.names.length (s.names.flatMap LBind.cells)
 rhp:ρ hb=some .hp
 rvo:∀g,L.vo.ownBlock=some g->ρ g=some .objs
 rvs:∀g,L.vs.ownBlock=some g->ρ g=some .scps
 rob:∀i,i<H.objects.length->ρ (L.ob i)=some (.obj i)
 rpv:∀i g,i<H.objects.length->(L.pv i).ownBlock=some g->ρ g=some (.prp i)
 rsb:∀i,i<H.scopes.length->ρ (L.sb i)=some (.scp i)
 rnv:∀i g,i<H.scopes.length->(L.nv i).ownBlock=some g->ρ g=some (.nam i)
 live:∀b,ρ b≠none->b<w.heap.size
theorem getElem?_lt{α:Type}{l:List α}{i:Nat}{a:α}(h:l[i]?=some a):i<l.length:=(List.getElem?_eq_some_iff.1 h).1
theorem HeapAt.keep{ρ:Nat->Option Role}{w w':World}{hb ho:Nat}{L:HL}{H:LHeap}(h:HeapAt ρ w hb ho L H)(hs:w.heap.size<=w'.heap.size)
 (hk:∀b,ρ b≠none->w'.heap[b]?=w.heap[b]?):HeapAt ρ w' hb ho L H where
 cellO:=(World.cell?_of_block (hk hb Rg)).trans h.cellO
 cellS:=(World.cell?_of_block (hk hb Rg)).trans h.cellS
 frO:=(World.frozen?_of_block (hk hb Rg)).trans h.frO
 frS:=(World.frozen?_of_block (hk hb Rg)).trans h.frS
 rowO:=Z2 h.rowO λg m=>hk g (by simp[h.rvo g m])
 rowS:=Z2 h.rowS λg m=>hk g (by simp[h.rvs g m])
 obj i o ho:=⟨by rw[hk _ (by simp[h.rob i (getElem?_lt ho)])];exact(h.obj i o ho).1,Z2 (h.obj i o ho).2 λg m=>hk g (by simp[h.rpv i g (getElem?_lt ho) m])⟩
 scp i o ho:=⟨by rw[hk _ (by simp[h.rsb i (getElem?_lt ho)])];exact(h.scp i o ho).1,Z2 (h.scp i o ho).2 λg m=>hk g (by simp[h.rnv i g (getElem?_lt ho) m])⟩
 rhp:=h.rhp
 rvo:=h.rvo
 rvs:=h.rvs
 rob:=h.rob
 rpv:=h.rpv
 rsb:=h.rsb
 rnv:=h.rnv
 live b hb:=Nat.lt_of_lt_of_le (h.live b hb) hs
theorem HeapAt.below{ρ:Nat->Option Role}{w w':World}{hb ho:Nat}{L:HL}{H:LHeap}(h:HeapAt ρ w hb ho L H)(g:Below w.heap.size w w'):HeapAt ρ w' hb ho L H:=
 h.keep g.size λb hb=>g.block b (h.live b hb)
structure Fr(ρ ρ':Nat->Option Role)(hb ho:Nat)(w w':World):Prop where
 os:w'.os=w.os
 tape:w'.tape=w.tape
 output:w'.output=w.output
 size:w.heap.size<=w'.heap.size
 block:∀k,k<w.heap.size->ρ k=none->w'.heap[k]?=w.heap[k]?
 role:∀k,k<w.heap.size->ρ k=none->ρ' k=none
 cell:∀o,o≠ho->o≠ho+1->w'.cell? ⟨hb,o,none⟩=w.cell? ⟨hb,o,none⟩
 frz:∀o,w'.frozen? ⟨hb,o,none⟩=w.frozen? ⟨hb,o,none⟩
theorem Fr.refl(ρ:Nat->Option Role)(hb ho:Nat)(w:World):Fr ρ ρ hb ho w w:=⟨rfl,rfl,rfl,Nat.le_refl _,λ_ _ _=>rfl,λ_ _ h=>h,λ_ _ _=>rfl,λ_=>rfl⟩
theorem Fr.trans{ρ ρ' ρ'':Nat->Option Role}{hb ho:Nat}{w w' dQ:World}(a:Fr ρ ρ' hb ho w w')(b:Fr ρ' ρ'' hb ho w' dQ):Fr ρ ρ'' hb ho w dQ:=
 ⟨b.os.trans a.os, b.tape.trans a.tape, b.output.trans a.output, Nat.le_trans a.size b.size,
  λk hk hr=>(b.block k (Nat.lt_of_lt_of_le hk a.size) (a.role k hk hr)).trans (a.block k hk hr),
  λk hk hr=>b.role k (Nat.lt_of_lt_of_le hk a.size) (a.role k hk hr),
  λo g m=>(b.cell o g m).trans (a.cell o g m),λo=>(b.frz o).trans (a.frz o)⟩
theorem Fr.of_below{ρ:Nat->Option Role}{hb ho:Nat}{w w':World}(m:hb<w.heap.size)(g:Below w.heap.size w w'):Fr ρ ρ hb ho w w':=
 ⟨g.os,g.tape,g.output,g.size,λk hk _=>g.block k hk,λ_ _ h=>h,λ_ _ _=>g.cell (p:=⟨hb,_,none⟩) m,λ_=>g.frozen (p:=⟨hb,_,none⟩) m⟩
theorem HeapAt.drew{ρ:Nat->Option Role}{w:World}{hb ho:Nat}{L:HL}{H:LHeap}(h:HeapAt ρ w hb ho L H):HeapAt ρ w.drew hb ho L H:=h.keep (Nat.le_refl _) λ_ _=>rfl
theorem Fr.drew{ρ ρ':Nat->Option Role}{hb ho:Nat}{w w':World}(a:Fr ρ ρ' hb ho w w'):Fr ρ ρ' hb ho w w'.drew:=⟨a.os,a.tape,a.output,a.size,a.block,a.role,a.cell,a.frz⟩
theorem HeapAt.hbLt{ρ:Nat->Option Role}{w:World}{hb ho:Nat}{L:HL}{H:LHeap}(h:HeapAt ρ w hb ho L H):hb<w.heap.size:=h.live hb Rg
theorem Zx{w w1:World}{c:Array Value}{T:TypeId}(g:Below (w.alloc (.cells c T)).heap.size (w.alloc (.cells c T)) w1)(i:Nat)(x:Value)(h:c[i]?=some x):w1.cell? ⟨w.heap.size,i,none⟩=some x:=
 (g.cell (p:=⟨w.heap.size,i,none⟩) Pg).trans ((World.cell?_alloc_new _ _ _ i).trans h)
theorem Wt{w w1:World}{c:Array Value}{T:TypeId}(g:Below (w.alloc (.cells c T)).heap.size (w.alloc (.cells c T)) w1)(i:Nat):w1.frozen? ⟨w.heap.size,i,none⟩=false:=
 (g.frozen (p:=⟨w.heap.size,i,none⟩) Pg).trans (World.frozen?_alloc_new _ _ _ _)
theorem Z5i{w w1:World}{o:Obj}(g:Below (w.alloc o).heap.size (w.alloc o) w1):w.heap.size<w1.heap.size:=by have:=g.size;simp at this;omega
theorem UP{w w1:World}{o:Obj}(g:Below (w.alloc o).heap.size (w.alloc o) w1):Below w.heap.size w w1:=((Below.refl _ _).alloc (Nat.le_refl _) _).trans (g.mono Pg)
theorem Zcp{k:IntKind}{a b:Int}(h:a=b):Ending.returned (.int k a)=.returned (.int k b):=by rw[h]
theorem Zoi{a b:Bool}(h:a=b):Ending.returned (.bool a)=.returned (.bool b):=by rw[h]
theorem Zb{w:World}{o:Obj}{p:Addr}(h:p.block<w.heap.size):(w.alloc o).cell? p=w.cell? p:=((Below.refl w.heap.size w).alloc (Nat.le_refl _) o).cell h
theorem RH{w:World}{o:Obj}{p:Addr}(h:p.block<w.heap.size):(w.alloc o).frozen? p=w.frozen? p:=((Below.refl w.heap.size w).alloc (Nat.le_refl _) o).frozen h
def LHeap.scope? (H:LHeap)(n:Int):Option LScope:=if n<0 then none else H.scopes[n.toNat]?
def LHeap.object? (H:LHeap)(n:Int):Option LObj:=if n<0 then none else H.objects[n.toNat]?
theorem Zcj(f:Nat->Nat)(n i:Nat)(h:i<n):(x6 f n)[i]?=some (.pointer (some ⟨f i,0,none⟩)):=by simp[x6,h]
theorem Zn{w:World}{base:Nat}{e:TypeId}{v:Value}{n:Nat}{m:List Value}(h:w.ownsRow base e 1 v n m){g:Nat}(o:v.ownBlock=some g){i:Nat}{x:Value}(hi:m[i]?=some x) :
 w.cell? ⟨g,i,none⟩=some x:=by
 have:=h.cells o i x hi;rwa[show((⟨g,0,none⟩:Addr).add i)=⟨g,i,none⟩ by unfold Addr.add;split<;>simp_all]at this
section
variable {ρ:Nat->Option Role}{w:World}{hb ho:Nat}{L:HL}{H:LHeap}
theorem T5(h:HeapAt ρ w hb ho L H)(n:Int)(hn:H.scope? n=none) :
 Calls Tryz.prog 39 #[.pointer (some ⟨hb,ho,none⟩),vI n] w λe w'=>e=.returned (.tuple #[.pointer none,.bool false])∧w=w':=by
 have hc:=h.cellS;by_cases p:n<0
 .clear h;go_enter Tryz.func39,Tryz.ntmps39
  go_wp2;go_ret2
  exact⟨rfl,rfl⟩
 .obtain⟨m,rfl⟩:=Int.eq_ofNat_of_zero_le (by omega:0<=n);have u:H.scopes.length<=m:=by simpa[LHeap.scope?,p]using hn
  rcases Z4 h.rowS with⟨o,y⟩|⟨g,cap,o,E,h2,_⟩
  .rw[o]at hc;clear h hn p o;go_enter Tryz.func39,Tryz.ntmps39
   go_wp2;go_ret2
   exact⟨rfl,rfl⟩
  .rw[o]at hc;clear h hn p o;exact Ztt
theorem SK(h:HeapAt ρ w hb ho L H)(m:Nat)(hn:m<H.scopes.length) :
 Calls Tryz.prog 39 #[.pointer (some ⟨hb,ho,none⟩),vI m] w λe w'=>e=.returned (.tuple #[.pointer (some ⟨L.sb m,0,none⟩),.bool true])∧w=w':=by
 have hc:=h.cellS;rcases Z4 h.rowS with⟨hv,o⟩|⟨g,cap,hv,p,h2,_⟩;·omega
 .have hp:=Zn h.rowS (g:=g) Pv (Zcj L.sb _ m hn);rw[hv]at hc;clear h hv;exact Ztt
theorem Z7p(h:HeapAt ρ w hb ho L H)(n:Int)(hn:H.object? n=none) :
 Calls Tryz.prog 33 #[.pointer (some ⟨hb,ho,none⟩),vI n] w λe w'=>e=.returned (.tuple #[.pointer none,.bool false])∧w=w':=by
 have hc:=h.cellO;by_cases p:n<0
 .clear h;go_enter Tryz.func33,Tryz.ntmps33
  go_wp2;go_ret2
  exact⟨rfl,rfl⟩
 .obtain⟨m,rfl⟩:=Int.eq_ofNat_of_zero_le (by omega:0<=n);have u:H.objects.length<=m:=by simpa[LHeap.object?,p]using hn
  rcases Z4 h.rowO with⟨o,y⟩|⟨g,cap,o,E,h2,_⟩
  .rw[o]at hc;clear h hn p o;go_enter Tryz.func33,Tryz.ntmps33
   go_wp2;go_ret2
   exact⟨rfl,rfl⟩
  .rw[o]at hc;clear h hn p o;exact Zt3
theorem Z6w(h:HeapAt ρ w hb ho L H)(m:Nat)(hn:m<H.objects.length) :
 Calls Tryz.prog 33 #[.pointer (some ⟨hb,ho,none⟩),vI m] w λe w'=>e=.returned (.tuple #[.pointer (some ⟨L.ob m,0,none⟩),.bool true])∧w=w':=by
 have hc:=h.cellO;rcases Z4 h.rowO with⟨hv,o⟩|⟨g,cap,hv,p,h2,_⟩;·omega
 .have hp:=Zn h.rowO (g:=g) Pv (Zcj L.ob _ m hn);rw[hv]at hc;clear h hv;exact Zt3
end
theorem findIdx?_none_of{α:Type}{p:α->Bool}{l:List α}(h:∀j a,j<l.length->l[j]?=some a->p a=false):l.findIdx? p=none:=by
 rw[List.findIdx?_eq_none_iff];intro x hx;obtain⟨j,g,rfl⟩:=List.getElem_of_mem hx;exact h j _ g (List.getElem?_eq_getElem g)
theorem findIdx?_some_of{α:Type}{p:α->Bool}{l:List α}{k:Nat}{a:α}(h:∀j a,j<k->l[j]?=some a->p a=false)(hk:l[k]?=some a)(g:p a=true):l.findIdx? p=some k:=by
 rw[List.findIdx?_eq_some_iff_getElem];obtain⟨m,rfl⟩:=List.getElem?_eq_some_iff.1 hk;refine⟨m,g,λj o=>?_⟩;rw[h j _ o (List.getElem?_eq_getElem O')];simp
def tL:Option Nat->Int|some k=>k|none=>-1
def LBind.is(name:ByteArray)(b:LBind):Bool:=Zg b.name name
def LProp.is(name:ByteArray)(b:LProp):Bool:=Zg b.name name
def LScope.idx(s:LScope)(name:ByteArray):Option Nat:=s.names.findIdx? (LBind.is name)
def LObj.idx(o:LObj)(name:ByteArray):Option Nat:=o.props.findIdx? (LProp.is name)
theorem Z95(w:World)(g:Addr)(name n s:ByteArray)(k m o:Int)(rd:Bool)(hx:w.cell? g=some (.string name))(hb:g.block<w.heap.size) :
 Calls Tryz.prog 75 #[.agg #[.string n,vI k,vI m,.string s,vI o,.bool rd],.pointer (some g)] w λe w'=>e=.returned (.bool (Zg n name))∧Below w.heap.size w w':=by
 go_enter Tryz.func75,Tryz.ntmps75
 exact Zpj
theorem Zab(w:World)(g:Addr)(name n s:ByteArray)(k m:Int)(rd:Bool)(hx:w.cell? g=some (.string name))(hb:g.block<w.heap.size) :
 Calls Tryz.prog 73 #[.agg #[.string n,vI k,vI m,.string s,.bool rd],.pointer (some g)] w λe w'=>e=.returned (.bool (Zg n name))∧Below w.heap.size w w':=by
 go_enter Tryz.func73,Tryz.ntmps73
 exact Zpj
theorem indexB(w:World)(bx:Addr)(name:ByteArray)(hx:w.cell? bx=some (.string name))(hb:bx.block<w.heap.size)(v:Value)(l:List LBind)
 (af:w.ownsRow 0 159 6 v l.length (l.flatMap LBind.cells)) :
 Calls Tryz.prog 74 #[v,.func (.func 75) #[] #[.pointer (some bx)]] w λe w'=>e=.returned (vI (tL (l.findIdx? (LBind.is name))))∧Below w.heap.size w w':=by
 have ae:=λg hg i j a x=>Md (f:=LBind.cells) (m:=6) (λ_=>rfl) af (g:=g) hg (i:=i) (j:=j) (a:=a) (x:=x);rcases Z4 af with⟨hv,hz⟩|⟨g,c,hv,o,u,hg⟩;·exact YG
 .subst hv;have hc:=ae g rfl;clear af ae;obtain⟨n,hn⟩:∃n,n=l.length:=⟨_,rfl⟩
  rw[<-hn]at o ⊢;unfold maxLen at u;have HN:=Lib.hid hn;clear hn;go_enter Tryz.func74,Tryz.ntmps74
  go_wp2;go_loopw [5,8] (λ_ i wr=>∃k:Nat,i=(vI k)∧k<=n∧(∀j a,j<k->l[j]?=some a->LBind.is name a=false)∧Below w.heap.size w wr) (λ_ i _=>n-(intOf i).toNat)
  case atStart=>exact⟨0,rfl,by omega,λj a hj=>by omega,Below.refl _ _⟩
  case round=>
   obtain⟨k,rfl,hk,dM,hB⟩:=hrel;have aH:n=l.length:=HN.o;by_cases F:k<n
   .have y:k<l.length:=by omega
    have ed:l[k]?=some l[k]:=List.getElem?_eq_getElem y;generalize l[k]=b at ed;obtain⟨bn,⟨bk,bm,bs⟩,mn,kn⟩:=b;refine YY ?_;intro c0 c1 c2 c3 c4 c5 mp dB;have HG:=Lib.hid ed;have HO:=Lib.hid dM;clear ed dM hc hx aH;by_cases hq:Zg bn name=true
    .go_wp2_with (go_at_call 75;refine(Z95 _ bx name bn bs bk bm mn kn mp dB).mono ?_;rintro e w1⟨rfl,aL⟩)
     exact Zqz
    .go_wp2_with (go_at_call 75;refine(Z95 _ bx name bn bs bk bm mn kn mp dB).mono ?_;rintro e w1⟨rfl,aL⟩)
     exact Yp
   .have E:k=n:=by omega
    subst E;have HO:=Lib.hid dM;exact U5
theorem Zw9(w:World)(u:Addr)(name:ByteArray)(hx:w.cell? u=some (.string name))(hb:u.block<w.heap.size)(v:Value)(l:List LProp)
 (E:w.ownsRow 0 103 5 v l.length (l.flatMap LProp.cells)) :
 Calls Tryz.prog 72 #[v,.func (.func 73) #[] #[.pointer (some u)]] w λe w'=>e=.returned (vI (tL (l.findIdx? (LProp.is name))))∧Below w.heap.size w w':=by
 have I:=λg y i j a x=>Md (f:=LProp.cells) (m:=5) (λ_=>rfl) E (g:=g) y (i:=i) (j:=j) (a:=a) (x:=x);rcases Z4 E with⟨J,Z⟩|⟨g,c,J,h1,h2,y⟩
 .subst J;have :l=[]:=List.eq_nil_of_length_eq_zero Z;subst this;clear E I Z;go_enter Tryz.func72,Tryz.ntmps72
  exact YK
 .subst J;have hc:=I g rfl;clear E I;obtain⟨n,hn⟩:∃n,n=l.length:=⟨_,rfl⟩
  rw[<-hn]at h1 ⊢;unfold maxLen at h2;have HN:=Lib.hid hn;clear hn;go_enter Tryz.func72,Tryz.ntmps72
  go_wp2;go_loopw [5,8] (λ_ i wr=>∃k:Nat,i=(vI k)∧k<=n∧(∀j a,j<k->l[j]?=some a->LProp.is name a=false)∧Below w.heap.size w wr) (λ_ i _=>n-(intOf i).toNat)
  case atStart=>exact⟨0,rfl,by omega,λj a hj=>by omega,Below.refl _ _⟩
  case round=>
   obtain⟨k,rfl,hk,dM,hB⟩:=hrel;have aH:n=l.length:=HN.o;by_cases aA:k<n
   .have ba:k<l.length:=by omega
    have o:l[k]?=some l[k]:=List.getElem?_eq_getElem ba;generalize l[k]=b at o;obtain⟨F,⟨O,U,X⟩,Y⟩:=b;have c0:wr.cell? ⟨g,k*5,none⟩=some (.string F):=(hB.cell (p:=⟨g,k*5,none⟩) y).trans (hc k 0 _ _ o rfl);have c1:wr.cell? ⟨g,k*5+1,none⟩=some (vI O):=(hB.cell (p:=⟨g,k*5+1,none⟩) y).trans (hc k 1 _ _ o rfl);have c2:wr.cell? ⟨g,k*5+2,none⟩=some (vI U):=(hB.cell (p:=⟨g,k*5+2,none⟩) y).trans (hc k 2 _ _ o rfl)
    have c3:wr.cell? ⟨g,k*5+3,none⟩=some (.string X):=(hB.cell (p:=⟨g,k*5+3,none⟩) y).trans (hc k 3 _ _ o rfl);have c4:wr.cell? ⟨g,k*5+4,none⟩=some (.bool Y):=(hB.cell (p:=⟨g,k*5+4,none⟩) y).trans (hc k 4 _ _ o rfl);have mp:wr.cell? u=some (.string name):=(hB.cell hb).trans hx;have dB:u.block<wr.heap.size:=Nat.lt_of_lt_of_le hb hB.size;have HG:=Lib.hid o;have HO:=Lib.hid dM;clear o dM hc hx aH;by_cases hq:Zg F name=true
    .go_wp2_with (go_at_call 73;refine(Zab _ u name F X O U Y mp dB).mono ?_;rintro e w1⟨rfl,aL⟩)
     exact Zqz
    .go_wp2_with (go_at_call 73;refine(Zab _ u name F X O U Y mp dB).mono ?_;rintro e w1⟨rfl,aL⟩)
     go_roundw
     case rel=>
      refine⟨k+1,by go_num,by omega,λj a hj ha=>?_,hB.trans (aL.mono hB.size)⟩;by_cases pK:j=k
      .subst pK;have:=HG.o.symm.trans ha;simp only[Option.some.injEq]at this;subst this;simpa[LProp.is]using hq
      .exact HO.o j a O' ha
     case measure=>simp[intOf];omega
   .have bV:k=n:=by omega
    subst bV;have HO:=Lib.hid dM;exact U5
section
variable {ρ:Nat->Option Role}{w:World}{hb ho:Nat}{L:HL}{H:LHeap}
def R'(v:Value)(size:Nat):Option Nat->Option Addr
 |some k=>v.ownBlock.map λg=>⟨g,k*size,none⟩
 |none=>none
theorem WP(h:HeapAt ρ w hb ho L H)(i:Nat)(s:LScope)(hi:H.scopes[i]?=some s)(name:ByteArray) :
 Calls Tryz.prog 41 #[.pointer (some ⟨L.sb i,0,none⟩),.string name] w λe w'=>e=.returned (.pointer (R' (L.nv i) 6 (s.idx name)))∧Below w.heap.size w w':=by
 obtain⟨ac,E⟩:=h.scp i s hi;have X:L.sb i<w.heap.size:=(Array.getElem?_eq_some_iff.1 ac).1;have U:vC w (L.sb i) 2 (L.nv i):=Pd
 have I:=E.alloc (.cells #[.string name] 9);have o:=indexB (w.alloc (.cells #[.string name] 9)) ⟨w.heap.size,0,none⟩ name Pg Pg _ s.names I;clear h ac hi;rcases ji:s.idx name with _|k
 .have u:s.names.findIdx? (LBind.is name)=none:=ji;rw[u]at o;have F:=Lib.hid o;have Y:=Lib.hid E;clear ji u E I o;generalize L.nv i=v at *;rcases Z4 Y.o with⟨m,Z⟩|⟨g,c,m,h1,J,hg⟩
  all_goals
   subst m;try unfold maxLen at J
   go_enter Tryz.func41,Tryz.ntmps41
   go_wp2_with fail
   refine F.o.mono ?_;rintro e w1⟨rfl,y⟩;have O:=Lib.hid y;clear y;simp only[tL];go_wp2;go_ret;exact⟨rfl,((Below.refl _ _).alloc (Nat.le_refl _) _).trans (O.o.mono Pg)⟩
 .have u:s.names.findIdx? (LBind.is name)=some k:=ji;have ba:k<s.names.length:=(List.findIdx?_eq_some_iff_getElem.1 u).1;rw[u]at o;have F:=Lib.hid o;rcases Z4 E with⟨m,Z⟩|⟨g,c,m,h1,J,hg⟩;·omega
  rw[m]at U F;have HN:=Lib.hid m;clear ji u E I o m;unfold maxLen at J;go_enter Tryz.func41,Tryz.ntmps41
  go_wp2_with fail
  refine F.o.mono ?_;rintro e w1⟨rfl,y⟩;have KG:vC w1 (L.sb i) 2 (.slice (some ⟨g,0,none⟩) s.names.length c):=(y.cell (p:=⟨L.sb i,2,none⟩) Pe).trans ((Zb X).trans U);have O:=Lib.hid y;clear y;simp only[tL];go_wp2;go_ret;exact⟨by rw[HN.o];rfl,((Below.refl _ _).alloc (Nat.le_refl _) _).trans (O.o.mono Pg)⟩
theorem Zc1(h:HeapAt ρ w hb ho L H)(i:Nat)(s:LObj)(hi:H.objects[i]?=some s)(name:ByteArray) :
 Calls Tryz.prog 34 #[.pointer (some ⟨L.ob i,0,none⟩),.string name] w λe w'=>e=.returned (vI (tL (s.idx name)))∧Below w.heap.size w w':=by
 obtain⟨ac,m⟩:=h.obj i s hi;have J:L.ob i<w.heap.size:=(Array.getElem?_eq_some_iff.1 ac).1;have O:vC w (L.ob i) 0 (L.pv i):=Pd
 have o:=m.alloc (.cells #[.string name] 9);have p:=Zw9 (w.alloc (.cells #[.string name] 9)) ⟨w.heap.size,0,none⟩ name Pg Pg _ s.props o;have E:=Lib.hid p;have F:=Z4 m;clear h ac hi p o m;generalize L.pv i=v at *;rcases F with⟨u,U⟩|⟨g,c,u,X,Y,Z⟩
 all_goals
  subst u;go_enter Tryz.func34,Tryz.ntmps34
  go_wp2_with fail
  refine E.o.mono ?_;rintro e w1⟨rfl,y⟩;have I:=Lib.hid y;clear y;go_wp2;go_ret;exact⟨rfl,((Below.refl _ _).alloc (Nat.le_refl _) _).trans (I.o.mono Pg)⟩
end
def LVal.zero:LVal:=⟨0,0,⟨#[]⟩⟩
def LHeap.get(H:LHeap)(n:Int)(name:ByteArray):Option LVal:=(H.object? n).bind λo=>(o.idx name).bind λk=>(o.props[k]?).map (·.v)
theorem LHeap.object?_some{H:LHeap}{n:Int}{o:LObj}(h:H.object? n=some o):∃m:Nat,n=m∧H.objects[m]?=some o:=by
 unfold LHeap.object? at h;split at h;·cases h
 .exact⟨n.toNat,by omega,h⟩
theorem LHeap.scope?_some{H:LHeap}{n:Int}{o:LScope}(h:H.scope? n=some o):∃m:Nat,n=m∧H.scopes[m]?=some o:=by
 unfold LHeap.scope? at h;split at h;·cases h
 .exact⟨n.toNat,by omega,h⟩
theorem LObj.idx_some{o:LObj}{name:ByteArray}{k:Nat}(h:o.idx name=some k):∃p,o.props[k]?=some p∧Zg p.name name=true:=by
 exact Ztd
theorem LScope.idx_some{o:LScope}{name:ByteArray}{k:Nat}(h:o.idx name=some k):∃p,o.names[k]?=some p∧Zg p.name name=true:=by
 exact Ztd
section
variable {ρ:Nat->Option Role}{w:World}{hb ho:Nat}{L:HL}{H:LHeap}
theorem Zox{n:Int}{name:ByteArray}(hob:H.object? n=none):H.get n name=none:=by simp[LHeap.get,hob]
theorem Zev(h:HeapAt ρ w hb ho L H)(n:Int)(name:ByteArray) :
 Calls Tryz.prog 40 #[.pointer (some ⟨hb,ho,none⟩),vI n,.string name] w λe w'=>e=.returned (.tuple #[((H.get n name).getD LVal.zero).agg,.bool (H.get n name).isSome])∧Below w.heap.size w w':=by
 have y:∀o,HeapAt ρ (w.alloc o) hb ho L H:=λo=>h.below ((Below.refl _ _).alloc (Nat.le_refl _) _);rcases hob:H.object? n with _|o
 .have I:=Lib.hid (Z7p (y (.cells #[vI 0,vI 0,.string ⟨#[]⟩] 55)) n hob);rw[Zox hob];clear h y hob;go_enter Tryz.func40,Tryz.ntmps40
  go_wp2_with fail
  refine I.o.mono ?_;rintro e w1⟨rfl,rfl⟩;go_wp2;exact bodyPost_ret (v:=.tuple #[LVal.zero.agg,.bool false]) (by simp[results,Tryz.results40,go_sem,LVal.agg,LVal.zero]) rfl ⟨rfl,(Below.refl _ _).alloc (Nat.le_refl _) _⟩
 .obtain⟨m,rfl,E⟩:=LHeap.object?_some hob;obtain⟨J,O⟩:=h.obj m o E;have Z:L.ob m<w.heap.size:=(Array.getElem?_eq_some_iff.1 J).1;have U:vC w (L.ob m) 0 (L.pv m):=by simp[vC,World.cell?,J]
  have I:=Lib.hid (Z6w (y (.cells #[vI 0,vI 0,.string ⟨#[]⟩] 55)) m (getElem?_lt E));have HF:=Lib.hid (Zc1 (y (.cells #[vI 0,vI 0,.string ⟨#[]⟩] 55)) m o E name);rcases hk:o.idx name with _|k
  .have F:H.get m name=none:=by simp[LHeap.get,hob,hk]
   rw[F];rw[hk]at HF;clear h y hob F hk E J O U Z;go_enter Tryz.func40,Tryz.ntmps40
   go_wp2_with fail
   refine I.o.mono ?_;rintro e w1⟨rfl,rfl⟩;go_wp2_with fail
   refine Zw0 ?_;intro w1 hB q0 q1 q2 f0 f1 f2 hs;have u:=Lib.hid (UP hB);clear hB;go_wp2;refine bodyPost_ret (v:=.tuple #[LVal.zero.agg,.bool false]) ?_ rfl ?_;·simp[results,Tryz.results40,go_sem,LVal.agg,LVal.zero,q0,q1,q2]
   .exact⟨rfl,((u.o.setCell (Nat.le_refl _) _).setCell (Nat.le_refl _) _).setCell (Nat.le_refl _) _⟩
  .obtain⟨p,hp,_⟩:=LObj.idx_some hk;have F:H.get m name=some p.v:=by simp[LHeap.get,hob,hk,hp]
   rw[F];rw[hk]at HF;obtain⟨pn,⟨pk,pm,ps⟩,pf⟩:=p;have ba:=getElem?_lt hp;rcases Z4 O with⟨hv,hz⟩|⟨g,c,hv,h2,h3,Y⟩;·omega
   rw[hv]at U;have X:=λj x=>Md (f:=LProp.cells) (m:=5) (λ_=>rfl) O (g:=g) Pv (i:=k) (j:=j) (x:=x) hp;have r1:=X 1 (vI pk) rfl;have r2:=X 2 (vI pm) rfl;have r3:=X 3 (.string ps) rfl;clear h y hob F hk E J O X hp hv;unfold maxLen at h3;go_enter Tryz.func40,Tryz.ntmps40
   go_wp2_with fail
   refine I.o.mono ?_;rintro e w1⟨rfl,rfl⟩;go_wp2_with fail
   refine Zw0 ?_;intro w1 hB q0 q1 q2 f0 f1 f2 hs;have u:=UP hB;have c0:=(u.cell (p:=⟨L.ob m,0,none⟩) Z).trans U;have c1:=(u.cell (p:=⟨g,k*5+1,none⟩) Y).trans r1;have c2:=(u.cell (p:=⟨g,k*5+2,none⟩) Y).trans r2;have c3:=(u.cell (p:=⟨g,k*5+3,none⟩) Y).trans r3;have HB:=Lib.hid u;clear hB u r1 r2 r3 U;go_wp2;refine bodyPost_ret (v:=.tuple #[.agg #[vI pk,vI pm,.string ps],.bool true]) ?_ rfl ?_;·simp[results,Tryz.results40,go_sem,q0,q1,q2]
   .exact Zu6
end
def LHeap.has(H:LHeap)(n:Int)(name:ByteArray):Bool:=
 match H.scope? n with
 |none=>false
 |some s=>if s.object<0 then(s.idx name).isSome else(H.get s.object name).isSome
def LHeap.WF(H:LHeap):Prop:=∀(i:Nat) s,H.scopes[i]?=some s->-1<=s.outer∧s.outer<i
def LHeap.findF(H:LHeap)(name:ByteArray):Nat->Int->Int
 |0,_=>-1
 | f + 1, n =>
   match H.scope? n with
   |none=>-1
   |some s=>if H.has n name then n else H.findF name f s.outer
def LHeap.find(H:LHeap)(n:Int)(name:ByteArray):Int:=H.findF name (n+1).toNat n
section
variable {ρ:Nat->Option Role}{w:World}{hb ho:Nat}{L:HL}{H:LHeap}
theorem has_eq{n:Int}{s:LScope}{name:ByteArray}(h:H.scope? n=some s):H.has n name=if s.object<0 then(s.idx name).isSome else(H.get s.object name).isSome:=by
 simp[LHeap.has,h]
theorem Tg(h:HeapAt ρ w hb ho L H)(n:Int)(name:ByteArray) :
 Calls Tryz.prog 18 #[.pointer (some ⟨hb,ho,none⟩),vI n,.string name] w λe w'=>e=.returned (.bool (H.has n name))∧Below w.heap.size w w':=by
 rcases hob:H.scope? n with _|s
 .have HC:=Lib.hid (T5 h n hob);have I:H.has n name=false:=by simp[LHeap.has,hob]
  rw[I];clear h hob I;go_enter Tryz.func18,Tryz.ntmps18
  exact Vd
 .have E:=has_eq (name:=name) hob;obtain⟨m,rfl,o⟩:=LHeap.scope?_some hob;obtain⟨u,y⟩:=h.scp m s o;have J:L.sb m<w.heap.size:=(Array.getElem?_eq_some_iff.1 u).1;have O:vC w (L.sb m) 1 (vI s.object):=by simp[vC,World.cell?,u]
  have HC:=Lib.hid (SK h m (getElem?_lt o));rw[E];by_cases ho:s.object<0
  .rw[if_pos ho];have HB:=Lib.hid (WP h m s o name);clear h hob E o u;rcases hk:s.idx name with _|k
   .rw[hk]at HB;simp only[R']at HB;clear hk y;exact YD
   .rw[hk]at HB;obtain⟨p,hp,_⟩:=LScope.idx_some hk;have U:=getElem?_lt hp;rcases Z4 y with⟨F,X⟩|⟨g,c,F,Y,Z,cY⟩;·omega
    rw[F]at HB;simp only[R',Value.ownBlock,Option.map_some]at HB;clear F y hk hp;exact YD
  .rw[if_neg ho];have HB:=Lib.hid (Zev h s.object name);clear h hob E o u y;generalize(H.get s.object name).isSome=r at *;generalize(H.get s.object name).getD LVal.zero=v at *;obtain⟨vk,vn,vs⟩:=v;simp only[LVal.agg]at HB;go_enter Tryz.func18,Tryz.ntmps18
   go_wp2_with fail
   refine HC.o.mono ?_;rintro e w1⟨rfl,rfl⟩;go_wp2_with fail
   refine HB.o.mono ?_;rintro e w1⟨rfl,hB⟩;have dx:=Lib.hid hB;clear hB;go_wp2;go_ret;exact⟨rfl,dx.o.alloc dx.o.size _⟩
theorem Zee{n:Int}{name:ByteArray}{f:Nat}(h:H.scope? n=none):H.findF name f n=-1:=by
 cases f<;>simp[LHeap.findF,h]
theorem Zei{n:Int}{s:LScope}{name:ByteArray}{f:Nat}(h:H.scope? n=some s):H.findF name (f+1) n=if H.has n name then n else H.findF name f s.outer:=by
 simp[LHeap.findF,h]
def Zl7(L:HL)(H:LHeap)(n:Int)(b c:Value):Prop:=
 (∃(m:Nat) (s:LScope),n=m∧H.scopes[m]?=some s∧b=.pointer (some ⟨L.sb m,0,none⟩)∧c=.bool true)∨(H.scope? n=none∧b=.pointer none∧c=.bool false)
theorem Zcl(h:HeapAt ρ w hb ho L H)(U:H.WF)(n:Int)(name:ByteArray) :
 Calls Tryz.prog 76 #[.pointer (some ⟨hb,ho,none⟩),vI n,.string name] w λe w'=>e=.returned (vI (H.find n name))∧Below w.heap.size w w':=by
 obtain⟨R,X⟩:∃R,R=H.find n name:=⟨_,rfl⟩
 rw[<-X];have HR:=Lib.hid X;clear X
 have Z:∀ b c,Calls Tryz.prog 39 #[.pointer (some ⟨hb,ho,none⟩),vI n] w (fun e w'=>e=.returned (.tuple #[b,c])∧w=w')→Zl7 L H n b c →
  Calls Tryz.prog 76 #[.pointer (some ⟨hb,ho,none⟩),vI n,.string name] w λe w'=>e=.returned (vI R)∧Below w.heap.size w w':=by
  intro b c u I;have HC:=Lib.hid u;have HA:=Lib.hid I;have HH:=Lib.hid h;have HW:=Lib.hid U;clear u I h U;go_enter Tryz.func76,Tryz.ntmps76
  go_wp2_with fail
  refine HC.o.mono ?_;rintro e w1⟨rfl,rfl⟩;go_wp2_with fail
  go_loopw [1,7,8] (λx b c wr=>∃(m:Int) (f:Nat),x=(vI m)∧Zl7 L H m b c∧H.findF name f m=R∧m<f∧Below w.heap.size w wr) (λx _ _ _=>(intOf x+1).toNat)
  case atStart=>exact⟨n,(n+1).toNat,rfl,HA.o,HR.o.symm,by omega,Below.refl _ _⟩
  case round=>
   obtain⟨m,f,rfl,I,hf,aA,y⟩:=hrel;rcases I with⟨k,s,rfl,hs,rfl,rfl⟩|⟨lx,rfl,rfl⟩
   .have J:=HH.o.below y;have E:H.scope? (k:Int)=some s:=by simp[LHeap.scope?,hs]
    obtain⟨f,rfl⟩:∃f',f=f'+1:=⟨f-1,by omega⟩
    rw[Zei E]at hf;have U:=HW.o k s hs;have O:=Lib.hid (Tg J (k:Int) name);have ac:=(J.scp k s hs).1;have Do:L.sb k<wr.heap.size:=(Array.getElem?_eq_some_iff.1 ac).1;have hc:vC wr (L.sb k) 0 (vI s.outer):=Pd
    have F:=Lib.hid hf;have o:=Lib.hid y;have KH:=Lib.hid J;clear hf y J ac hs E;by_cases hq:H.has (k:Int) name=true
    .rw[hq]at O;go_wp2_with fail
     refine O.o.mono ?_;rintro e w1⟨rfl,g⟩;have av:=Lib.hid g;clear g;go_wp2;go_ret;exact⟨Zcp (by rw[<-F.o,if_pos hq]),o.o.trans (av.o.mono o.o.size)⟩
    .have fk:H.has (k:Int) name=false:=by simpa using hq
     rw[fk]at O;go_wp2_with fail
     refine O.o.mono ?_;rintro e w1⟨rfl,g⟩;have mL:=(g.cell (p:=⟨L.sb k,0,none⟩) Do).trans hc;have Y:=KH.o.below g;have au:=o.o.trans (g.mono o.o.size);have hf:=F.o;rw[if_neg hq]at hf;have KI:=Lib.hid hf;have aO:=Lib.hid au;clear g au hf hc F;have two:∃b c,Calls Tryz.prog 39 #[.pointer (some ⟨hb,ho,none⟩),vI s.outer] w1 (λe w'=>e=.returned (.tuple #[b,c])∧w1=w')∧Zl7 L H s.outer b c:=by
      rcases aV:H.scope? s.outer with _|t;·exact⟨_,_,T5 Y _ aV,.inr ⟨aV,rfl,rfl⟩⟩
      .obtain⟨j,hj,ht⟩:=LHeap.scope?_some aV;rw[hj];exact⟨_,_,SK Y j (getElem?_lt ht),.inl ⟨j,t,rfl,ht,rfl,rfl⟩⟩
     obtain⟨b',c',u,yC⟩:=two;have bS:=Lib.hid u;have oX:=Lib.hid yC;clear u yC Y;go_wp2_with fail
     refine bS.o.mono ?_;rintro e w2⟨rfl,rfl⟩;go_wp2;go_roundw
     case rel=>exact⟨s.outer,f,rfl,oX.o,KI.o,by omega,aO.o⟩
     case measure=>simp[intOf];omega
   .have o:=Lib.hid y;have F:=Lib.hid hf;have HN:=Lib.hid lx;clear y hf lx;go_wp2;go_ret;exact⟨Zcp (by rw[<-F.o,Zee HN.o]),o.o⟩
 rcases aV:H.scope? n with _|t;·exact Z _ _ (T5 h _ aV) (.inr ⟨aV,rfl,rfl⟩)
 .obtain⟨j,rfl,ht⟩:=LHeap.scope?_some aV;exact Z _ _ (SK h j (getElem?_lt ht)) (.inl ⟨j,t,rfl,ht,rfl,rfl⟩)
end
open Go Go.RowKit
theorem lh{p:Prop}(h:p):Hid p:=Lib.hid h
theorem zT{w u v:World}(a:Hid (Below w.heap.size w u))(b:Below u.heap.size u v):Hid (Below w.heap.size w v):=lh (a.o.trans (b.mono a.o.size))
theorem zL{α:Type _}{l m:List α}:(l++m).length=l.length+m.length:=List.length_append
theorem zM{α:Type _}{a:α}{l:List α}:(a::l).length=l.length+1:=rfl
theorem zN{α:Type _}:([]:List α).length=0:=rfl
theorem zA{α:Type _}(l:List α)(i:Nat)(v:α):l.toArray.setIfInBounds i v=(l.set i v).toArray:=List.setIfInBounds_toArray ..
theorem zB{α:Type _}(x v:α)(l:List α):(x::l).set 0 v=v::l:=rfl
theorem zC{α:Type _}(x v:α)(l:List α)(n:Nat):(x::l).set (n+1) v=x::l.set n v:=rfl
theorem Y0:type_of% @Nat.le_refl:=@Nat.le_refl
theorem Y1:type_of% @Array.getElem?_eq_some_iff:=@Array.getElem?_eq_some_iff
theorem Y2:type_of% @Below.refl:=@Below.refl
theorem Y3:type_of% @if_neg:=@if_neg
theorem Y4:type_of% @Nat.le_trans:=@Nat.le_trans
theorem Y5:type_of% @if_pos:=@if_pos
theorem Y6:type_of% @List.getElem?_eq_getElem:=@List.getElem?_eq_getElem
theorem Y7:type_of% @Nat.lt_of_lt_of_le:=@Nat.lt_of_lt_of_le
theorem Y8:type_of% @Below.heap_setCell:=@Below.heap_setCell
theorem Y9:type_of% @World.ownsRow.lt:=@World.ownsRow.lt
theorem Ya:type_of% @World.news_of_block:=@World.news_of_block
theorem Yb:type_of% @World.cell?_of_block:=@World.cell?_of_block
theorem Yc:type_of% @Option.some.inj:=@Option.some.inj
theorem Yd:type_of% @List.mem_of_getElem?:=@List.mem_of_getElem?
theorem Ye:type_of% @List.take_of_length_le:=@List.take_of_length_le
theorem Yf:type_of% @World.size_setCell:=@World.size_setCell
theorem Yg:type_of% @List.getElem?_map:=@List.getElem?_map
theorem Yh:type_of% @Nat.zero_le:=@Nat.zero_le
theorem Yi:type_of% @List.length_append:=@List.length_append
theorem Yj:type_of% @Tryz.underlying9:=@Tryz.underlying9
theorem Yk:type_of% @Tryz.underlying3:=@Tryz.underlying3
theorem Yl:type_of% @List.map_append:=@List.map_append
theorem Ym:type_of% @List.length_map:=@List.length_map
theorem Yn:type_of% @World.frozen?_of_block:=@World.frozen?_of_block
theorem Yo:type_of% @WideMaps.keyOf_string_mk:=@WideMaps.keyOf_string_mk
theorem zX{α:Sort _}(a:α):∃x,x=a:=⟨a,rfl⟩
