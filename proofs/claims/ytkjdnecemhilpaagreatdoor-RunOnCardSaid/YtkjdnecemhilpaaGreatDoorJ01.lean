import Derived.Deep.AppendLies
import Derived.Lib.Hide
import Derived.Test.YtkjdnecemhilpaaGreatDoorProg
import Derived.WalkSpells
import Derived.WalkLawsBesides
set_option maxRecDepth 100000
set_option maxHeartbeats 20000000
set_option linter.all false
namespace Go.RowKit
theorem Hid.o{p:Prop}(h:Hid p):p:=h
end Go.RowKit
namespace Go.Proofs.YtkjdnecemhilpaaGreatDoor
open Go Go.RowKit Tryz
theorem ds{a b c:Prop}(m:a)(n:b)(o:c):RowKit.Hid a/\RowKit.Hid b/\RowKit.Hid c:=⟨m,n,o⟩
theorem gp{a b c d:Prop}(m:a)(n:b)(o:c)(p:d):RowKit.Hid a/\RowKit.Hid b/\RowKit.Hid c/\RowKit.Hid d:=⟨m,n,o,p⟩
theorem gq{a b c d e:Prop}(m:a)(n:b)(o:c)(p:d)(q:e):RowKit.Hid a/\RowKit.Hid b/\RowKit.Hid c/\RowKit.Hid d/\RowKit.Hid e:=⟨m,n,o,p,q⟩
theorem gw{a b c d e f:Prop}(m:a)(n:b)(o:c)(p:d)(q:e)(r:f):RowKit.Hid a/\RowKit.Hid b/\RowKit.Hid c/\RowKit.Hid d/\RowKit.Hid e/\RowKit.Hid f:=⟨m,n,o,p,q,r⟩
theorem kF{a b c d e f g:Prop}(m:a)(n:b)(o:c)(p:d)(q:e)(r:f)(s:g):RowKit.Hid a/\RowKit.Hid b/\RowKit.Hid c/\RowKit.Hid d/\RowKit.Hid e/\RowKit.Hid f/\RowKit.Hid g:=⟨m,n,o,p,q,r,s⟩
theorem ld{a b c d e f g h:Prop}(m:a)(n:b)(o:c)(p:d)(q:e)(r:f)(s:g)(t:h):RowKit.Hid a/\RowKit.Hid b/\RowKit.Hid c/\RowKit.Hid d/\RowKit.Hid e/\RowKit.Hid f/\RowKit.Hid g/\RowKit.Hid h:=⟨m,n,o,p,q,r,s,t⟩
theorem lB{a b c d e f g h i:Prop}(m:a)(n:b)(o:c)(p:d)(q:e)(r:f)(s:g)(t:h)(u:i):RowKit.Hid a/\RowKit.Hid b/\RowKit.Hid c/\RowKit.Hid d/\RowKit.Hid e/\RowKit.Hid f/\RowKit.Hid g/\RowKit.Hid h/\RowKit.Hid i:=⟨m,n,o,p,q,r,s,t,u⟩
theorem mR{a b c d e f g h i j:Prop}(m:a)(n:b)(o:c)(p:d)(q:e)(r:f)(s:g)(t:h)(u:i)(v:j):RowKit.Hid a/\RowKit.Hid b/\RowKit.Hid c/\RowKit.Hid d/\RowKit.Hid e/\RowKit.Hid f/\RowKit.Hid g/\RowKit.Hid h/\RowKit.Hid i/\RowKit.Hid j:=⟨m,n,o,p,q,r,s,t,u,v⟩
theorem rt{a b c d e f g h i j k:Prop}(m:a)(n:b)(o:c)(p:d)(q:e)(r:f)(s:g)(t:h)(u:i)(v:j)(w:k):RowKit.Hid a/\RowKit.Hid b/\RowKit.Hid c/\RowKit.Hid d/\RowKit.Hid e/\RowKit.Hid f/\RowKit.Hid g/\RowKit.Hid h/\RowKit.Hid i/\RowKit.Hid j/\RowKit.Hid k:=⟨m,n,o,p,q,r,s,t,u,v,w⟩
theorem tq{a b c d e f g h i j k l:Prop}(m:a)(n:b)(o:c)(p:d)(q:e)(r:f)(s:g)(t:h)(u:i)(v:j)(w:k)(x:l):RowKit.Hid a/\RowKit.Hid b/\RowKit.Hid c/\RowKit.Hid d/\RowKit.Hid e/\RowKit.Hid f/\RowKit.Hid g/\RowKit.Hid h/\RowKit.Hid i/\RowKit.Hid j/\RowKit.Hid k/\RowKit.Hid l:=⟨m,n,o,p,q,r,s,t,u,v,w,x⟩
def Qd{G:Prop}(i:G:=by assumption):G:=i
def Qe{G:Prop}(i:G:=by omega):G:=i
def Qf{G:Prop}(i:G:=by first|assumption|exact Su.tl (by assumption)|exact Su.tl (Su.tl (by assumption))):G:=i
def Qg{G:Prop}(i:G:=by decide):G:=i
def Qh{G:Prop}(i:G:=by kernel_rfl):G:=i
def Qi{G:Prop}(i:G:=by simp;omega):G:=i
def Qj{G:Prop}(i:G:=by unfold maxLen;omega):G:=i
def Qk{G:Prop}(i:G:=by simp[vC,World.cell?,ac]):G:=i
def Ql{G:Prop}(i:G:=by simp only[Job.rank]at *;omega):G:=i
def Qm{G:Prop}(i:G:=by simp):G:=i
def Qn{G:Prop}(i:G:=by first|omega|(simp;omega)):G:=i
def Qo{G:Prop}(i:G:=by simp only[Job.least]at *;omega):G:=i
def Qp{G:Prop}(i:G:=by intro u hu;simp at hu;subst hu;rfl):G:=i
def Qq{G:Prop}(i:G:=by simp[ms]):G:=i
def Qr{G:Prop}(i:G:=by intro e;cases e):G:=i
def Qs{G:Prop}(i:G:=by simp only[Job.rank,Job.least]at *;omega):G:=i
def Qt{G:Prop}(i:G:=by rfl):G:=i
def Qu{G:Prop}(i:G:=by simp;have:=jD.o.size;have:=HP.o.le;omega):G:=i
def Qv{G:Prop}(i:G:=by simp[ATree.ptr,Value.oneCell']):G:=i
def Qw{G:Prop}(i:G:=by rw[<-HQ1.o];exact bY):G:=i
def Qx{G:Prop}(i:G:=by simp only[Job.base];omega):G:=i
def Qy{G:Prop}(i:G:=by rw[g1];simp):G:=i
def Qz{G:Prop}(i:G:=by rw[aL];exact(Inv.turn (k:=s.steps+1) (c:=s.calls) (v:=s.last) hI (by omega) (by omega) hI.calls hI.last (by omega)).1):G:=i
def QA{G:Prop}(i:G:=by rw[<-HN.o];exact bY):G:=i
def QB{G:Prop}(i:G:=by rw[hv];rfl):G:=i
def QD{G:Prop}(i:G:=by have:=G2.at'.blkOf;simp only[ATree.b,ATree.v,ATree.kind,ATree.text,ATree.n]at this;simp[vC,World.cell?,this]):G:=i
def QE{G:Prop}(i:G:=by simp[Tok.cells,Value.oneCell']):G:=i
def QF{G:Prop}(i:G:=by rw[Z6];exact hk):G:=i
def QG{G:Prop}(i:G:=by rw[hx];simp):G:=i
def QH{G:Prop}(i:G:=by have:=Z6g (ts:=ts) (by omega);simp only[Job.least]at *;omega):G:=i
def QI{G:Prop}(i:G:=by simp <;>omega):G:=i
def QJ{G:Prop}(i:G:=by simp[World.setCell]):G:=i
def QK{G:Prop}(i:G:=by simp only[Value.ownBlock,Option.some.injEq]at eQ;omega):G:=i
def QL{G:Prop}(i:G:=by rw[cr];simp):G:=i
def QM{G:Prop}(i:G:=by have:=Td (n:=a.nt C.N);rw[Zw,zI,Ym]at this;omega):G:=i
def QN{G:Prop}(i:G:=by simp[World.frozen?,ac]):G:=i
def QO{G:Prop}(i:G:=by rw[<-HC.o];omega):G:=i
def QP{G:Prop}(i:G:=by simp only[Job.base]at *;omega):G:=i
def QQ{G:Prop}(i:G:=by rw[cD.o];unfold MSt.bindTo;rw[Y3 (qF.o▸fZ)]):G:=i
def QR{G:Prop}(i:G:=by simpa using h):G:=i
def QS{G:Prop}(i:G:=by rw[<-HN.o];exact Y0 _):G:=i
def QT{G:Prop}(i:G:=by simp[Job.least]):G:=i
def QU{G:Prop}(i:G:=by rw[hP];exact Y4 (List.length_filter_le _ _) hn):G:=i
def QV{G:Prop}(i:G:=by rw[ho];simp):G:=i
def QW{G:Prop}(i:G:=by simp;have:=F3.o.size;have:=HP.o.le;omega):G:=i
def QX{G:Prop}(i:G:=by rw[<-HQ1.o];exact Nat.le_refl _):G:=i
def QY{G:Prop}(i:G:=by show w.heap.size+1<_;exact mT):G:=i
def QZ{G:Prop}(i:G:=by have:=Zo h;simp only[Job.least]at *;omega):G:=i
def Q0{G:Prop}(i:G:=by have:=ft.o;have:=HL.o;omega):G:=i
def Q2{G:Prop}(i:G:=by rw[Zw,zI];exact List.mem_map.2 ⟨x,hx,rfl⟩):G:=i
def Q3{G:Prop}(i:G:=by rw[List.drop_zero];exact ss.o):G:=i
def Q4{G:Prop}(i:G:=by rw[<-HQ1.o];exact Y0 _):G:=i
def Q5{G:Prop}(i:G:=by have:=j2.steps;omega):G:=i
def Q6{G:Prop}(i:G:=by rcases List.mem_cons.1 h with h|h;exact absurd h e;exact h):G:=i
def Q7{G:Prop}(i:G:=by simp[vC,World.cell?,ii]):G:=i
def Q8{G:Prop}(i:G:=by rw[cr];rfl):G:=i
def Q9{G:Prop}(i:G:=by rw[hk];simp):G:=i
def Ra{G:Prop}(i:G:=by rw[<-HQ.o];exact bY):G:=i
def Rb{G:Prop}(i:G:=by simp[World.frozen?,ii]):G:=i
def Rc{G:Prop}(i:G:=by rw[dU];exact(Y2 _ _).alloc (Y0 _) _):G:=i
def Re{G:Prop}(i:G:=by have:=HN.o;omega):G:=i
def Rf{G:Prop}(i:G:=by rw[HV.o];rfl):G:=i
def Rg{G:Prop}(i:G:=by rw[an];exact HMk.o):G:=i
def Rh{G:Prop}(i:G:=by simp[ATree.blocks,hx]):G:=i
def Ri{G:Prop}(i:G:=by simp[World.frozen?,q]):G:=i
def Rj{G:Prop}(i:G:=by intro e;injection e with e1;omega):G:=i
def Rk{G:Prop}(i:G:=by unfold maxLen at fR;omega):G:=i
def Rl{G:Prop}(i:G:=by simp only[n]at cK;omega):G:=i
def Rm{G:Prop}(i:G:=by rintro rfl;rw[h.rhp]at hr;exact n1 (Yc hr).symm):G:=i
def Rn{G:Prop}(i:G:=by rw[h.kids];simp):G:=i
def Ro{G:Prop}(i:G:=by simp[vC,World.cell?,hb0]):G:=i
def Rp{G:Prop}(i:G:=by rw[<-HQ.o];exact Y0 _):G:=i
def Rq{G:Prop}(i:G:=by rcases hk with⟨h1,-⟩|h1<;>simp[Zw,Za,h1,O5]):G:=i
def Rr{G:Prop}(i:G:=by simp[hr]):G:=i
def Rs{G:Prop}(i:G:=by rw[List.drop_zero];exact HS.o):G:=i
def Rt{G:Prop}(i:G:=by simpa using ba):G:=i
def Ru{G:Prop}(i:G:=by simpa using hk):G:=i
def Rv{G:Prop}(i:G:=by rw[Z6];omega):G:=i
def Rw{G:Prop}(i:G:=by rw[<-List.flatMap_append,List.take_append_drop]):G:=i
def Rx{G:Prop}(i:G:=by rw[<-HS.o];exact Eu.o.symm):G:=i
def Ry{G:Prop}(i:G:=by have:=HP.o.deep;omega):G:=i
def Rz{G:Prop}(i:G:=by simp[vC,World.cell?,ai]):G:=i
def RB{G:Prop}(i:G:=by have h:=HQ.o;rw[Y3 (by omega)]at h;exact h):G:=i
def RC{G:Prop}(i:G:=by simp[vC,World.cell?,q]):G:=i
def RD{G:Prop}(i:G:=by rw[Yg,hx];rfl):G:=i
def RE{G:Prop}(i:G:=by rw[Zw,zI];exact List.mem_map.2 ⟨y,hy,rfl⟩):G:=i
def RF{G:Prop}(i:G:=by rw[YC hf,List.length_take];congr 1;omega):G:=i
def RG{G:Prop}(i:G:=by simp only[List.length_set];rw[hf];omega):G:=i
def RH{G:Prop}(i:G:=by simpa using h4):G:=i
def RI{G:Prop}(i:G:=by rw[List.length_cons];omega):G:=i
def RJ{G:Prop}(i:G:=by rw[hk];rfl):G:=i
def RN{G:Prop}(i:G:=by rw[hf,Nat.succ_mul];omega):G:=i
def RO{G:Prop}(i:G:=by simp[vC,World.cell?,h.blk]):G:=i
def RQ{G:Prop}(i:G:=by rw[<-kT.o];exact K1.o):G:=i
def RT{G:Prop}(i:G:=by simp only[Job.base,zw,Z52]at *;omega):G:=i
def RU{G:Prop}(i:G:=by simp only[Job.base,zw,U2]at *;omega):G:=i
def RV{G:Prop}(i:G:=by rw[hnO,cE];exact(by rw[yz.o];rfl)):G:=i
def RW{G:Prop}(i:G:=by rw[hP];exact List.length_filter_le _ _):G:=i
def RX{G:Prop}(i:G:=by rw[Zi text (by omega) s2,Nat.add_zero]):G:=i
def RY{G:Prop}(i:G:=by simp[MSt.object,MSt.setH]):G:=i
def RZ{G:Prop}(i:G:=by simp[ATree.blocks]):G:=i
def R7{G:Prop}(i:G:=by rw[jk];exact(Y2 _ _).alloc (Y0 _) _):G:=i
def R8{G:Prop}(i:G:=by have :=cH.o;have :=qm.o;omega):G:=i
def R9{G:Prop}(i:G:=by rw[cE,io.o.clos];simp[CloR.clo]):G:=i
def R'{G:Prop}(i:G:=by simp[vC,World.cell?,pc]):G:=i
def Sa{G:Prop}(i:G:=by simp only[Job.base,U2]at *;omega):G:=i
def Sb{G:Prop}(i:G:=by rw[jA,oX.o];exact hA):G:=i
def Sc{G:Prop}(i:G:=by rw[cr];simp[hy]):G:=i
def Sd{G:Prop}(i:G:=by rw[Z6,Za];omega):G:=i
def Se{G:Prop}(i:G:=by rw[<-bX.o];exact bY):G:=i
def Sf{G:Prop}(i:G:=by have:=HP.o.few;omega):G:=i
def Sg{G:Prop}(i:G:=by rw[h0]at hr;cases hr):G:=i
def Sh{G:Prop}(i:G:=by rw[<-HN.o];exact Nat.le_refl _):G:=i
def Si{G:Prop}(i:G:=by rw[<-Nat.add_mul];congr 1;omega):G:=i
def Sj{G:Prop}(i:G:=by simp[Value.oneCell']):G:=i
def Sk{G:Prop}(i:G:=by simp[h.rhp]):G:=i
def Sl{G:Prop}(i:G:=by rw[hR,ej];rfl):G:=i
def Sm{G:Prop}(i:G:=by rw[aW];rfl):G:=i
def Sn{G:Prop}(i:G:=by have:=HQ1.o;omega):G:=i
def So{G:Prop}(i:G:=by have:=HQ.o;omega):G:=i
def Sp{G:Prop}(i:G:=by simpa using h5):G:=i
def Sq{G:Prop}(i:G:=by simpa using h2):G:=i
def Sr{G:Prop}(i:G:=by simpa using h3):G:=i
def Ss{G:Prop}(i:G:=by rw[jg];simp):G:=i
def St{G:Prop}(i:G:=by rw[qt];simp):G:=i
def Sv{G:Prop}(i:G:=by rw[da];exact hA):G:=i
def Sw{G:Prop}(i:G:=by rwa[Nat.one_mul]):G:=i
def Sx{G:Prop}(i:G:=by have:=a.lo;omega):G:=i
def Sy{G:Prop}(i:G:=by rw[<-hc];omega):G:=i
def Sz{G:Prop}(i:G:=by rw[jg];rfl):G:=i
def SA{G:Prop}(i:G:=by simp[k1]):G:=i
def SD{G:Prop}(i:G:=by simp[hl]):G:=i
def SE{G:Prop}(i:G:=by simp[hy]):G:=i
def SF{G:Prop}(i:G:=by simp[h1]):G:=i
def SG{G:Prop}(i:G:=by simp[Uj]):G:=i
abbrev kC:=Calls Tryz.prog
abbrev kB:=ByteArray
abbrev kV:=World
abbrev kW(w:World):=Below w.heap.size w
@[match_pattern,reducible] def vI(n:Int):Value:=.int .i64 n
@[match_pattern,reducible] def vP(b:Nat):Value:=.pointer (some ⟨b,0,none⟩)
abbrev vC(W:kV)(b i:Nat)(v:Value):Prop:=W.cell? ⟨b,i,none⟩=some v
def tr0{G:Prop}(i:G:=by
 have an:R=r1:=by
  rw[hR,bB];unfold KR;rw[Za,hk];rfl
 rw[<-aL]at gW;have hC1:=Calls.dres (gW zv M oL.o (aJ.bel nU.o) bz);rw[<-bB]at hC1;have bG:=lh hC1;have cS:decide (0<q)=true\/decide (0<q)=false:=by cases decide (0<q)<;>simp
 clear hz aC aZ cw aE aX eJ aJ bz dh di dj lf lr ln ha hf h hI aL eD eS dF ch bq d7 cW c3 c0 hq hR gW hC1 bB;subst an;rw[hk]at d0;clear hk;unfold ATree.ptr;rcases cS with fO|fO
 all_goals
  go_enter func62,ntmps62
  go_wp2_with fail
  rw[<-lR.o];clear f5 y5 g5 d3 d0 d1 f0 f1;refine bG.o.mono ?_;rintro e W3⟨M3,b3,k3,n3,t3,fj,rfl,bo⟩;have HB3:=lh bo;have bP:=lh (lS.o.trans bo.2.1);clear bo;simp only[ag];refine Xi ?_;intro q0 q1 q2 z0 z1 z2;obtain⟨s3,q3⟩:=R;cases q3 with
  |error x3=>
    refine Zte ?_;intro iS;go_wp2;refine bodyPost_ret (v:=.tuple #[.bool b3,.agg #[vI k3,vI n3,.string t3],fj]) ?_ rfl ?_;·exact xY
    .exact Aal
  |ok v3=>
    obtain⟨rfl,rfl⟩:v3=(b3,⟨k3,n3,t3⟩)/\fj=.nilIface:=HB3.o.2.2;go_wp2;refine bodyPost_ret (v:=.tuple #[.bool b3,.agg #[vI k3,vI n3,.string t3],.nilIface]) ?_ rfl ?_;·exact xY
    .exact AaO):G:=i
def tr1{G:Prop}(i:G:=by
 cases q3 with
 |error x3=>
   refine Zte ?_;intro iS;go_wp2;refine bodyPost_ret (v:=.tuple #[.agg #[vI k3,vI n3,.string t3],fj]) ?_ rfl ?_;·exact ru
   .exact Aal
 |ok v3=>
   obtain⟨rfl,rfl⟩:v3=⟨k3,n3,t3⟩/\fj=.nilIface:=HB3.o.2.2;go_wp2;refine bodyPost_ret (v:=.tuple #[.agg #[vI k3,vI n3,.string t3],.nilIface]) ?_ rfl ?_;·exact ru
   .exact AaO):G:=i
def tr2{G:Prop}(i:G:=by
 have hst:=Zr6 jz.o.drew sc a.text ⟨k1,n1,t1⟩;simp only[LVal.agg]at hst;have uP:=lh hst;clear hst;refine AaY ?_;intro HS20;go_wp2_with fail
 refine AcH ?_;intro bw;go_wp2_with fail
 refine uP.o.mono ?_;rintro e W2⟨rfl,M2,aO,ap⟩;have bU:=lh aO;have bc:=lh (d9.o.trans ((MFr.drew (.refl M1 W1)).trans ap));clear aO ap q0 q1 q2 z0 z1 z2 m0 m1 m2 f0 f1 d0 d1 d3 nW b0 b1 DD;refine UN ?_;intro m0 m1 m2 q0 q1 q2 z0 z1 z2;have an:R=(s2.setH (s2.H.start sc a.text ⟨k1,n1,t1⟩).1,.ok (false,⟨0,0,⟨#[]⟩⟩)):=HR.o;clear HR;subst an;go_wp2_with fail
 exact tq8):G:=i
def tr3{G:Prop}(i:G:=by
 refine ZI ?_;intro s4 iZ hob nO hnO;have hnO2:nO=s.nextO:=RV
 rw[<-hnO]at hob;refine tm6 ?_;clear aO ap fW hg ae kG e9 r9 tf tg kH kI kJ HG HW i8 kK hob hnO hnO2 qQ iZ cE bz lT;intro kZ H2 bc nX HSs4 HSs3 HNO2 hm4;apply Zry (H:=SY C w M2 w4 s4 nO);·exact tq1
 .exact tq0
 refine XV ?_;clear s9 hm4;intro W6 p6 M6 u0 u1 q0 q1 q2 z0 z1 z2 p0 p1 p2 jQ mm;have HMX:=lh jQ.o.1;have oM:=mm;rw[lU]at u0;rw[be]at u1;exact Abv):G:=i
def tr4{G:Prop}(i:G:=by
 have he:ax C M1 W1 x1 bQ:=qR.o;have an:R=(s2,.error x1):=HR.o;clear HR;subst an;obtain⟨T1,P1,rfl,hP⟩:=he.ne;have eg:=lh he;clear he;obtain⟨m0,m1,m2,-,-,-⟩:=(bR.o.fr d9.o).six;obtain⟨q0,q1,q2,z0,z1,z2⟩:=(HLR.o.fr d9.o).six;go_wp2_with fail
 refine tm8 ?_;go_wp2;refine bodyPost_ret (v:=.tuple #[.bool false,.agg #[vI 0,vI 0,.string ⟨#[]⟩],.iface T1 (.pointer P1)]) ?_ rfl ?_;·exact xY
 .exact Aaj):G:=i
def tr5{G:Prop}(i:G:=by
 refine ZI ?_;intro s4 iZ hob nO hnO;have hnO2:nO=s.nextO:=RV
 rw[<-hnO]at hob;refine tm6 ?_;clear aO ap fW hg ae kG e9 r9 tf tg kH kI kJ HG HW i8 kK hob hnO hnO2 qQ iZ cE bz lT;intro kZ H2 bc nX HSs4 HSs3 HNO2 hm4;apply Zry (H:=SY C w M2 w4 s4 nO);·exact tq1
 .exact tq0
 refine XV ?_;clear s9 hm4;intro W6 p6 M6 u0 u1 q0 q1 q2 z0 z1 z2 p0 p1 p2 jQ mm;have HMX:=lh jQ.o.1;have oM:=mm;exact Abv):G:=i
def tr6{G:Prop}(i:G:=by
 have ct:=lh am;clear aB aU bV ca am;refine Z1 ?_;go_wp2;go_roundw
 case rel=>
  refine⟨g,aj++[t],vs,.slice (some ⟨gg,0,none⟩) (kids.length+1) cap,kids++[a],by omega,eY.o,?_,ct.o.2.2,ct.o.2.1,by simp,by have:=HL.o;have:=H8.o;simp;omega,by have:=fP.o;simp only[Job.least]at this;have:=PQ.o.2;omega⟩;have h1:=ct.o.1;have h2:=GQ.o.tree;exact We
 case measure=>
  exact Ab9):G:=i
def tr7{G:Prop}(i:G:=by
 have ct:=lh am;clear aB aU bV ca am;refine Z1 ?_;go_wp2;go_roundw
 case rel=>
  refine⟨g,aj++[t],vs,.slice (some ⟨gg,0,none⟩) (kids.length+1) cap,kids++[a],by omega,ni.o,?_,ct.o.2.2,ct.o.2.1,by simp;omega,λx hx=>?_⟩
  .have h1:=ct.o.1;have h2:=G2.o.tree;exact We
  .exact Abr
 case measure=>
  rw[ct.o.2.2.left,RL.o];exact dr):G:=i
def tr8{G:Prop}(i:G:=by
 unfold ATree.ptr at cT;refine AaI ?_;intro dO HX bq;clear hx eE ae gr k1 k2 k3 aV cT;go_wp2_with fail
 refine dO.o.mono ?_;rintro e w2⟨rfl,xx⟩;have oN:=lh xx;clear xx dO;go_wp2;go_roundw
 case rel=>exact⟨k+1,by omega,by go_num,lh (by rw[Z30 HX.o,Zcq];exact oN.o)⟩
 case measure=>simp[intOf];omega):G:=i
def tr9{G:Prop}(i:G:=by
 refine ZI ?_;intro s4 iZ hob nO hnO;have hnO2:nO=s.nextO:=by rw[hnO,cE];exact yA.o
 rw[<-hnO]at hob;refine tm6 ?_;clear aO ap fW hg ae kG e9 r9 tf tg kH kI kJ HG HW i8 kK hob hnO hnO2 qQ iZ cE bz lT;intro kZ H2 bc nX HSs4 HSs3 HNO2 hm4;apply Zry (H:=SY C w M2 w4 s4 nO);·exact tq1
 .exact tq0
 exact AcA):G:=i
def Aaq{G:Prop}(i:G:=by
 refine iB ?_;intro K hK;refine Zyx ?_;clear hK K q0 q1 q2 z0 z1 z2 m0 m1 m2;intro W3 M3 b3 k3 n3 t3 fj HB3 bP;refine zD ?_;refine Xi ?_;intro q0 q1 q2 z0 z1 z2;obtain⟨r3,df⟩:∃r3,r3=D (y.nt C.N) sc fr s2:=⟨_,rfl⟩
 rw[<-df]at HB3;have an:R=r3:=by rw[HR.o,df]
 clear HR df;subst an;exact ZN):G:=i
def Aa7{G:Prop}(i:G:=by
 have an:R=(s2,.ok ⟨k1,n1,t1⟩):=by have:=bD.o;simpa using this
 clear bD;subst an;obtain⟨q0,q1,q2,z0,z1,z2⟩:=(HLR.o.fr (bA.o.trans (.of_below aP.o))).six;go_wp2;refine bodyPost_ret (v:=.tuple #[.agg #[vI k1,vI n1,.string t1],.nilIface]) ?_ rfl ?_;·exact ru
 .exact Aca):G:=i
def V7{G:Prop}(i:G:=by
 have h1:=ct.o.1;have h2:=GQ.o.tree;exact We):G:=i
def AbL{G:Prop}(i:G:=by
 obtain⟨rfl,rfl⟩:v1=⟨k1,n1,t1⟩/\bQ=.nilIface:=au.o.2.2;go_wp2;refine bodyPost_ret (v:=.tuple #[.agg #[vI k1,vI n1,.string t1],.nilIface]) ?_ rfl ?_;·exact ru
 .exact .fine' HLR.o HFz.o au.o.1 au.o.2.1):G:=i
def YU{G:Prop}(i:G:=by
 simp only at HC;refine Zjy ?_;intro HC fP eY;clear hv fQ;go_wp2_with fail
 refine Ab8 ?_;clear HC;intro w3 a HE;exact VP):G:=i
def Acw{G:Prop}(i:G:=by
 have eg:=lh (show ax C M1 W1 x1 bQ from au.o.2.2);go_wp2;refine bodyPost_ret (v:=.tuple #[.agg #[vI k1,vI n1,.string t1],bQ]) ?_ rfl ?_;·exact ru
 .exact .err' HLR.o HFz.o au.o.1 au.o.2.1 eg.o):G:=i
def Aar{G:Prop}(i:G:=by
 have N3:=lh (NO.o.far TX.o xy);have HB3:=lh (HB.o.trans bo);clear HA ht3 bo xy hsn;go_wp2;go_roundw
 case rel=>exact⟨k+1,_,rfl,by omega,by go_num,qS,N3,HB3⟩
 case measure=>simp[intOf];omega):G:=i
def Aa9{G:Prop}(i:G:=by
 go_enter func14,ntmps14
 go_wp2_with fail
 refine HC.o.mono ?_;rintro e w1⟨rfl,fX⟩;have eF:=lh fX;clear fX HC;go_wp2;refine bodyPost_ret (results_none rfl _ _ _) rfl ?_;exact⟨rfl,eF.o⟩):G:=i
def Uu{G:Prop}(i:G:=by
 simp[results,results123,go_sem,q0,q1,q2]):G:=i
def Aa3{G:Prop}(i:G:=by
 intro bw;refine Ab7 ?_;intro q0 q1 q2 z0 z1 z2;go_wp2;refine bodyPost_ret (v:=.tuple #[.agg #[vI k1,vI n1,.string t1],.iface T1 (.pointer P1)]) ?_ rfl ?_;·exact ru
 .exact AbB):G:=i
def UT{G:Prop}(i:G:=by
 go_wp2_with fail
 refine HF.o.mono ?_;exact VR):G:=i
def AcS{G:Prop}(i:G:=by
 have iS:=lh j9;clear hF3' j9 hB3;refine Z1 ?_;go_wp2;refine bodyPost_ret (v:=.tuple #[.agg #[vI 0,vI 0,.string ⟨#[]⟩],fj]) ?_ rfl ?_;·exact ru
 .exact Zvb):G:=i
def WE{G:Prop}(i:G:=by
 simp only[Value.slice.injEq]at h1;exact⟨g,h1.1⟩):G:=i
def Aaw{G:Prop}(i:G:=by
 go_wp2_with fail
 go_roundw
 case rel=>exact⟨k+1,true,by omega,by first|rfl|rw[hb],by go_num,trivial,xz⟩
 case measure=>simp[intOf];omega):G:=i
def Wz{G:Prop}(i:G:=by
 have h1:=ct.o.1;have h2:=N.o.tree;exact We):G:=i
def WL{G:Prop}(i:G:=by
 simp[results,results62,go_sem,q0,q1,q2]):G:=i
def AaG{G:Prop}(i:G:=by
 refine Zv9 ?_;intro HC HG il n bH;rw[<-bH]at hn dt ⊢;have HN:=lh bH;clear hc hg hI bH;go_enter func109,ntmps109
 exact tq2):G:=i
def AbY{G:Prop}(i:G:=by
 refine Zv9 ?_;intro HC HG il n bH;rw[<-bH]at hn dt ⊢;have HN:=lh bH;clear hc hg hI bH;go_enter func110,ntmps110
 exact tq2):G:=i
def AaX{G:Prop}(i:G:=by
 rw[<-jA]at an ap;refine Abg ?_;intro HE;have HE:=lh HE;clear la lg hX hR bg ai aw bo hA an ap HN aM jA ba dl HC;exact VP):G:=i
def Aa2{G:Prop}(i:G:=by
 go_wp2_with fail
 refine HC.o.mono ?_;rcases r with⟨c,p⟩|⟨t,ts'⟩;·exact AcG
 .rintro e wz⟨a,rfl,hG,hR,hF⟩;exact ZX):G:=i
def ZL{G:Prop}(i:G:=by
 have HC:=HA.o w2 rb B d _ _ P2.o hv;unfold bO at HC;exact UU):G:=i
def Aas{G:Prop}(i:G:=by
 go_enter func89,ntmps89
 go_wp2_with fail
 rw[<-fA.o];clear ka c1' kb js ke;refine Zum ?_;intro w9 ew ea;exact TR):G:=i
def AbZ{G:Prop}(i:G:=by
 subst hv;have:l=[]:=List.eq_nil_of_length_eq_zero hz;subst this;clear af ae hz;go_enter func92,ntmps92
 exact Aa6):G:=i
def Acv{G:Prop}(i:G:=by
 obtain⟨HG,HR,HF⟩:=ds (hG.pre F4.o) hR (F4.o.trans hF);clear hG hR hF bS;exact VO):G:=i
def Acu{G:Prop}(i:G:=by
 have HC:=Tz w5 rb _ d Xj P5.o.rd hs;unfold Xj at HC;have HC:=lh HC;clear hs;exact Aco):G:=i
def AaE{G:Prop}(i:G:=by
 rcases cF.form with⟨h1,h2⟩|⟨g,cap,h1,h2,h3⟩;·exact AcL
 .exact⟨_,_,h1,h2,h3⟩):G:=i
def YP{G:Prop}(i:G:=by
 simp[results,results145,go_sem,q0,q1,q2]):G:=i
def Aae{G:Prop}(i:G:=by
 clear hs;go_wp2_with fail
 refine HC.o.mono ?_;rintro e w3⟨⟨b,rfl,h1,h2⟩,hB⟩;exact Zwy):G:=i
def Aag{G:Prop}(i:G:=by
 clear hk;go_wp2_with fail
 refine HC.o.mono ?_;rintro e w9⟨⟨b,rfl,h1,h2⟩,hB⟩;exact Zwy):G:=i
def AbN{G:Prop}(i:G:=by
 exact(HB.o.alloc ba _).grown HG.o Qi λj hj=>(World.ownsRow.lt HR.o j hj).1):G:=i
def ZJ{G:Prop}(i:G:=by
 go_wp2_with fail
 refine HT.o.mono ?_;exact VR):G:=i
def Acm{G:Prop}(i:G:=by
 simp only[ATree.v,ATree.kids]at h1 h2;exact⟨none,0,by rw[h1,h2]⟩):G:=i
def Aam{G:Prop}(i:G:=by
 intro g1 g2 g3;exact⟨M1,g1,g2,b,⟨k,n,t⟩,ev,rfl,g3 _ _ he⟩):G:=i
def Aay{G:Prop}(i:G:=by
 refine UN ?_;intro m0 m1 m2 q0 q1 q2 z0 z1 z2;go_wp2_with fail
 exact tq8):G:=i
def Abs{G:Prop}(i:G:=by
 have bY:k=n:=Qe
 subst bY;have HO:=Lib.hid dG;exact Abz):G:=i
def AbW{G:Prop}(i:G:=by
 have HC:=HV.o w2 rb B d _ _ P2.o hv;unfold bO at HC;exact UU):G:=i
def Ack{G:Prop}(i:G:=by
 unfold lL;rw[List.length_append,List.map_append];exact HW.o):G:=i
def Aa8{G:Prop}(i:G:=by
 clear gO hk;go_wp2_with fail
 refine HC.o.mono ?_;exact VR):G:=i
def AaP{G:Prop}(i:G:=by
 split at h;·cases h
 .split at h;·cases h
  .exact ZS):G:=i
def Ab4{G:Prop}(i:G:=by
 split at h;·cases h
 .split at h;·cases h
  .exact Tc):G:=i
def AaJ{G:Prop}(i:G:=by
 have h:=ci.o;unfold XE at h;exact Zs0):G:=i
def dS{P G:Prop}(h:P)(i:Hid P->G:=by
 intro KK;simp only[List.map_cons,List.map_nil,pD,Ud,List.filterMap_cons,List.filterMap_nil,List.getElem?_toArray,List.getElem?_cons_zero,List.getElem?_cons_succ,Option.map_some];exact KK.o):G:=i h
def OW{P G:Prop}(h:P)(i:Hid P->G:=by
 intro KK;obtain⟨s1,aL⟩:∃s1:MSt,s1={s with steps:=s.steps+1}:=⟨_,rfl⟩
 have bT:=ha.lt;have hst:=hI.steps;have jB:IntKind.i64.wrap (s.steps+1)=s.steps+1:=IntWalk.i64_in _ Qe;obtain⟨aZ,dh,di,dj⟩:=Zqy h fr;unfold frO vO at aZ dh di dj;obtain⟨z0,aC⟩:∃z0,z0=((w.alloc (.cells #[.bool fr.strict,vI fr.vars] 78)).alloc (.cells #[vI 0,vI 0,.string ⟨#[]⟩] 71)).alloc (.cells #[vI 0,vI 0,.string ⟨#[]⟩] 71):=⟨_,rfl⟩
 revert s1 aL bT hst jB aZ dh di dj z0 aC;exact KK.o):G:=i h
def tm2{P G:Prop}(h:P)(i:Hid P->G:=by
 intro KK;intro gg cap w5 aK av cf im;have ncv:∀k,cv.ownBlock=some k->M0.has k:=λk hk=>.inr ⟨3,by decide,by rw[<-lV.o];exact hk⟩;have jC:cv.ownBlock≠some w.heap.size:=λe=>(yB.o.fr gX.o).free (ncv _ e);have pj:cv.ownBlock≠some a.b:=λe=>kf.o.2.blk (ncv _ e);have hne4:cv.ownBlock≠some kg:=λe=>gX.o.free kg (Nat.lt_of_lt_of_le aY HBZ.o.size) eZ (ncv _ e)
 have cM:∀b o,b<w2.heap.size->cv.ownBlock≠some b->w5.cell? ⟨b,o,none⟩=w2.cell? ⟨b,o,none⟩:=λb o ai aw=>(av.cell_far ⟨b,o,none⟩ Qi (λe=>aw e.symm)).trans (Zb ai);have kG:w5.frozen? ⟨C.mb,9,none⟩=false:=(av.frozen_far ⟨C.mb,9,none⟩ Qi (λe=>dV e.symm)).trans ((TT lT).trans bz);have e9:=(cM _ 9 lT dV).trans r9;refine hK _ _ ⟨e9,(cM _ 0 rJ jC).trans kH,(cM _ 3 oO pj).trans kI,(cM _ 1 rK hne4).trans kJ⟩ ?_;simp only[Act.put,zA,zB,zC];have HG:=lh av;have HW:=lh aK
 have i8:=lh cf;have kK:=lh im;clear av aK cf im cM ncv jC pj hne4;refine Z1 ?_;revert gg cap w5 kG e9 HG HW i8 kK;exact KK.o):G:=i h
def dq{P G:Prop}(h:P)(i:Hid P->G:=by
 intro KK;first|refine Zqd _ ?_|refine Zp0 ?_
 simp only[Act.put,zA,zB,zC];exact KK.o):G:=i h
def S7{P G:Prop}(h:P)(i:Hid P->G:=by
 intro KK;have dv:decide (20000<s.steps+1)=false:=decide_eq_false Qe;obtain⟨HZ,HLR,bR,dC,HFz,HM,fB,dW,HO,HE⟩:=mR (show z=_ from hz.trans (by rw[aC])) lr ln lf eJ aE aJ bz h.old.size eJ.size;revert dv HZ HLR bR dC HFz HM fB dW HO HE;exact KK.o):G:=i h
def MJ{P G:Prop}(h:P)(i:Hid P->G:=by
 intro KK;have eJ:=(MFr.of_below (M:=M) aZ).trans aX;obtain⟨aJ,bz⟩:=eJ.tree ha hf;have lf:=dh.fr aX;have lr:=di.fr aX;have ln:=dj.fr aX;have g5:=aE.cell 5 (vI (s.steps+1)) (by rw[aL];simp[ms]);have c0:=aJ.c0;revert eJ aJ bz lf lr ln g5 c0;exact KK.o):G:=i h
def tm6{P G:Prop}(h:P)(i:Hid P->G:=by
 intro KK;obtain⟨kZ,H2,bc,nX,HSs4,HSs3,HNO2⟩:=kF hob aO (gX.o.trans ap) qQ iZ cE hnO2;have hm4:=aO.mbLt;refine v7 (.take 0 (.take 1 (.take 2 (.take 3 (.take 4 (.take 5 (.take 6 (.take 7 (.take 8 (.take 9 (.two 10 (.take 11 (.go 12 (.go 13 .nil))) 12 (.go 10 (.take 11 (.go 13 .nil)))))))))))))) 13 (λW=>vC W C.mb 9 (.slice (some ⟨gg,0,none⟩) (n0+1) cap)) s9 ?_
 iterate 10 (refine Z7t ?_ Qt Qh Qt (λw' lW=>?_) ?_;rotate_left;(go_simp;first|done|with_reducible rfl);simp only[Act.put,List.setIfInBounds_toArray])
 refine Zu ?_;revert kZ H2 bc nX HSs4 HSs3 HNO2 hm4;exact KK.o):G:=i h
def tm7{P G:Prop}(h:P)(i:Hid P->G:=by
 intro KK;have aO:MAt C M2 (w5.setCell ⟨C.mb,9,none⟩ (.slice (some ⟨gg,0,none⟩) (n0+1) cap)) s3:=aO;have ap:MFr M0 M2 w2 (w5.setCell ⟨C.mb,9,none⟩ (.slice (some ⟨gg,0,none⟩) (n0+1) cap)):=ap;have s9:(w5.setCell ⟨C.mb,9,none⟩ (.slice (some ⟨gg,0,none⟩) (n0+1) cap)).cell? ⟨C.mb,9,none⟩=some (.slice (some ⟨gg,0,none⟩) (n0+1) cap):=World.cell?_setCell_same _ _ _ e9;obtain⟨w4,fW⟩:∃w4,w4=w5.setCell ⟨C.mb,9,none⟩ (.slice (some ⟨gg,0,none⟩) (n0+1) cap):=⟨_,rfl⟩
 revert aO ap s9 w4 fW;exact KK.o):G:=i h
def tm8{P G:Prop}(h:P)(i:Hid P->G:=by
 intro KK;refine v7 (.take 0 (.take 1 (.take 2 (.go 3 (.go 4 .nil))))) 3 (λW=>vC W (w.heap.size+1+1) 0 (vI 0)/\vC W (w.heap.size+1+1) 1 (vI 0)/\vC W (w.heap.size+1+1) 2 (.string ⟨#[]⟩)) ⟨m0,m1,m2⟩ ?_;refine ra ?_;refine IG (λK hK=>?_);refine hK _ _ ?_;clear hK K;refine IG (λK hK=>?_);refine hK _ _ (SH ?_);clear hK K;exact KK.o):G:=i h
def tm9{P G:Prop}(h:P)(i:Hid P->G:=by
 intro KK;have gu:n0=so.clos.length:=by rw[cw.clos,List.length_map,hn0]
 have hn:n0<1000000000:=by rw[gu];exact nj.o.lens.2.2.2.2.2.1
 have S0:=HS.o w2 M0 fC;have dV:cv.ownBlock≠some C.mb:=λe=>cw.rowNe (i:=3) Qg (by rw[<-fk];exact e);have bZ:=fC.tree fB.o dW.o;have aM:=fC.tree Ia.o Ib.o;have bz:=cw.fz 9;obtain⟨oP,lV,oQ,jR,qT,io,gX,kf,cD,li⟩:=mR eT fk cC hn0 gu cw fC bZ aM (Z4e w2.drew B body aM.1.drew);revert gu hn S0 dV bZ aM bz oP lV oQ jR qT io gX kf cD li;exact KK.o):G:=i h
def vf{P G:Prop}(h:P)(i:Hid P->G:=by
 intro KK;have lX:w4.frozen? ⟨nb,3,none⟩=false:=(aB.frozen_far ⟨nb,3,none⟩ Qi (λe=>NE.o e.symm)).trans ((TT dm).trans mz);refine hK _ _ m4 ?_;simp only[Act.put,zA,zB,zC];revert lX;exact KK.o):G:=i h
def FW{P G:Prop}(h:P)(i:Hid P->G:=by
 intro KK;unfold Vt;have iT:∀(fn:Fn) (first cap:Array Value) (w:kV),(Instr.makeFunc fn first cap).run Tryz.prog w=.ok (.func fn first cap) w:=λ_ _ _ _=>rfl;have gy:=lh (λW (t:TreeAt W B a)=>hK a W st ins h.m (λk hk=>h.wa.kid hk) h.mx t);obtain⟨code,aD⟩:∃c,c=qL a st ins:=⟨_,rfl⟩
 revert iT gy code aD;exact KK.o):G:=i h
def ta{P G:Prop}(h:P)(i:Hid P->G:=by
 intro KK;refine IG (λK hK=>?_);refine hK _ _ ?_;clear hK K;refine IG (λK hK=>?_);refine hK _ _ (SH ?_);clear hK K;exact KK.o):G:=i h
def D8{P G:Prop}(h:P)(i:Hid P->G:=by
 intro KK;have iT:∀(fn:Fn) (first cap:Array Value) (w:kV),(Instr.makeFunc fn first cap).run Tryz.prog w=.ok (.func fn first cap) w:=λ_ _ _ _=>rfl;revert iT;exact KK.o):G:=i h
def c9{P G:Prop}(h:P)(i:Hid P->G:=by
 intro KK;refine wp_seq_k (λK hK=>?_);have HK:=lh hK;clear hK;conv=>arg 2;whnf
 revert K HK;exact KK.o):G:=i h
def XR{P G:Prop}(h:P)(i:Hid P->G:=by
 intro KK;have hg:(M0.row 3).ownBlock=some gg\/w2.heap.size<=gg:=by
  rw[<-lV.o];exact WC
 obtain⟨s3,cE⟩:∃s3:MSt,s3={so with clos:=so.clos++[⟨a.nt C.N,nx,Zj body⟩]}:=⟨_,rfl⟩
 have ae:w5.ownsRow 0 (oj 3) (ov 3) (.slice (some ⟨gg,0,none⟩) (n0+1) cap) (ky s3 (M0.cl++[⟨a,nx,Zj body⟩]) 3) (ow s3 (M0.cl++[⟨a,nx,Zj body⟩]) 3):=by
  exact Ab2
 obtain⟨M2,aO,ap⟩:=io.o.push (s':=s3) (cl':=M0.cl++[⟨a,nx,Zj body⟩]) Qg (((Below.refl w2.heap.size w2).alloc (Nat.le_refl _) (.cells #[vP a.b,vI nx,.bool (Zj body)] 149)).drew) (lV.o▸HG.o) hg kK.o ae
  (fun j hj aH => by rw [cE]; match j, hj with
   |0,_=>exact⟨rfl,rfl⟩
   |1,_=>exact⟨rfl,rfl⟩
   |2,_=>exact⟨rfl,rfl⟩
   |3,_=>exact absurd rfl aH) (by rw[cE]) (by rw[cE];rfl) R9 (λx hx=>by
   rcases List.mem_append.1 hx with hx|hx;·exact io.o.trees x hx
   .rw[List.mem_singleton.1 hx];exact⟨kf.o.1.base (Nat.zero_le _),kf.o.2⟩)
 revert hg s3 cE ae M2 aO ap;exact KK.o):G:=i h
def TO{P G:Prop}(h:P)(i:Hid P->G:=by
 intro KK;have aq:∀w1,HeapAt ρ w1 hb ho L H->w1.cell? ⟨hb,ho+1,none⟩=some (.slice (some ⟨gs,0,none⟩) H.scopes.length cs)/\w1.cell? ⟨gs,m,none⟩=some (.pointer (some ⟨L.sb m,0,none⟩))/\vC w1 (L.sb m) 1 (vI s.object):=λw1 hh=>
  ⟨by rw[<-dD];exact hh.cellS,Zq hh.rowS (g:=gs) (by rw[dD];rfl) (Zcy L.sb _ m dw),by have:=(hh.scp m s hm).1;simp[vC,World.cell?,this]⟩
 revert aq;exact KK.o):G:=i h
def TJ{P G:Prop}(h:P)(i:Hid P->G:=by
 intro KK;refine pU ?_;refine Ze (λK hK=>?_);go_simp
 have rJ:w.heap.size<w2.heap.size:=Nat.lt_of_lt_of_le (by rw[HZ.o];simp;omega) gX.o.size;have oO:a.b<w2.heap.size:=kf.o.1.lt;have rK:kg<w2.heap.size:=Nat.lt_of_lt_of_le aY (Nat.le_trans HBZ.o.size gX.o.size);refine hK _ _ ⟨(Zb lT).trans r9,(Zb rJ).trans kH,(Zb oO).trans kI,(Zb rK).trans kJ⟩ ?_;clear hK K;refine Ze (λK hK=>?_);revert rJ oO rK K hK;exact KK.o):G:=i h
def XG{P G:Prop}(h:P)(i:Hid P->G:=by
 intro KK;have hg:(M0.row 3).ownBlock=some gg\/w2.heap.size<=gg:=by
  rw[<-lV.o];exact WC
 obtain⟨s3,cE⟩:∃s3:MSt,s3={so with clos:=so.clos++[⟨a.nt C.N,nx,true⟩]}:=⟨_,rfl⟩
 have ae:w5.ownsRow 0 (oj 3) (ov 3) (.slice (some ⟨gg,0,none⟩) (n0+1) cap) (ky s3 (M0.cl++[⟨a,nx,true⟩]) 3) (ow s3 (M0.cl++[⟨a,nx,true⟩]) 3):=by
  exact Ab2
 obtain⟨M2,aO,ap⟩:=io.o.push (s':=s3) (cl':=M0.cl++[⟨a,nx,true⟩]) Qg (((Below.refl w2.heap.size w2).alloc (Nat.le_refl _) (.cells #[vP a.b,vI nx,.bool (true)] 149)).drew) (lV.o▸HG.o) hg kK.o ae
  (fun j hj aH => by rw [cE]; match j, hj with
   |0,_=>exact⟨rfl,rfl⟩
   |1,_=>exact⟨rfl,rfl⟩
   |2,_=>exact⟨rfl,rfl⟩
   |3,_=>exact absurd rfl aH) (by rw[cE]) (by rw[cE];rfl) R9 (λx hx=>by
   rcases List.mem_append.1 hx with hx|hx;·exact io.o.trees x hx
   .rw[List.mem_singleton.1 hx];exact⟨kf.o.1.base (Nat.zero_le _),kf.o.2⟩)
 revert hg s3 cE ae M2 aO ap;exact KK.o):G:=i h
def pT{P G:Prop}(h:P)(i:Hid P->G:=by
 intro KK;refine wp_seq_k (λK hK=>?_);have HK:=lh hK;clear hK;revert K HK;exact KK.o):G:=i h
def Iq{P G:Prop}(h:P)(i:Hid P->G:=by
 intro KK;have mz:dx.frozen? ⟨nb,3,none⟩=false:=QN
 have dm:nb<dx.heap.size:=(Array.getElem?_eq_some_iff.1 ac).1;have dK:=fL.nodup;simp only[ATree.blocks,List.nodup_cons,List.mem_append,Option.mem_toList,not_or]at dK;have aH:=dK.1.1;revert mz dm dK aH;exact KK.o):G:=i h
def MQ{P G:Prop}(h:P)(i:Hid P->G:=by
 intro KK;have jS:z.heap.size=w.heap.size+1+1+1:=by rw[hz,aC];simp[World.setCell]
 have dF:=Lo.new (wE:=z) aE (Nat.le_refl _) (Nat.le_trans h.old.size eJ.size) #[vI 0,vI 0,.string ⟨#[]⟩] 71;have eD:=Z2 z (.cells #[vI 0,vI 0,.string ⟨#[]⟩] 71);revert jS dF eD;exact KK.o):G:=i h
def OQ{P G:Prop}(h:P)(i:Hid P->G:=by
 intro KK;obtain⟨aR,lf,lr,ln⟩:=Zqy h fr;unfold frO vO at aR lf lr ln;obtain⟨z,hz⟩:∃z,z=((w.alloc (.cells #[.bool fr.strict,vI fr.vars] 78)).alloc (.cells #[vI 0,vI 0,.string ⟨#[]⟩] 71)).alloc (.cells #[vI 0,vI 0,.string ⟨#[]⟩] 71):=⟨_,rfl⟩
 revert aR lf lr ln z hz;exact KK.o):G:=i h
def AaD{P G:Prop}(h:P)(i:Hid P->G:=by
 intro KK;have h6:=@run_callFunc_extern Tryz.prog 43 _ (λargs=>ReflectliteValue.unpack (args.getD 0 (.tuple #[]))) func43 Qh Qh Qh Qh;have h7:=@run_callFunc_extern Tryz.prog 44 _ (ReflectliteValue.methodAny (ReflectliteValue.valueError "reflectlite.Value.Type" 0) (λt _ _ _=>ReflectliteType.toType t)) func44 Qh Qh Qh Qh
 have h8:=@run_callFunc_extern Tryz.prog 45 _ (ReflectliteValue.method (ReflectliteValue.valueError "reflectlite.Value.IsNil" 0) ReflectliteValue.isNil) func45 Qh Qh Qh Qh
 have qU:=@run_callFunc_extern Tryz.prog 181 _ (ReflectliteType.abiMethod λt=>do pure (.int .u8 (<-Rtype.kind t))) func181 Qh Qh Qh Qh;have lU:=@run_callFunc_extern Tryz.prog 196 _ (ReflectliteType.method ReflectliteType.elem) func196 Qh Qh Qh Qh;have xA:=@run_callFunc_extern Tryz.prog 197 _ (ReflectliteType.relation "Implements" ReflectliteType.implements_) func197 Qh Qh Qh Qh
 have lj:=@run_callFunc_extern Tryz.prog 82 _ ReflectliteType.typeOf func82 Qh Qh Qh Qh;have DE:=@run_callFunc_extern Tryz.prog 194 _ (ReflectliteType.relation "AssignableTo" ReflectliteType.assignableTo) func194 Qh Qh Qh Qh
 have DG:=@run_callFunc_extern Tryz.prog 83 _ (ReflectliteValue.method (ReflectliteValue.valueError "reflectlite.Value.Elem" 0) ReflectliteValue.elem) func83 Qh Qh Qh Qh
 have xB:=@run_callFunc_extern Tryz.prog 84 _ ReflectliteValue.set func84 Qh Qh Qh Qh;revert h6 h7 h8 qU lU xA lj DE DG xB;exact KK.o):G:=i h
def VX{P G:Prop}(h:P)(i:Hid P->G:=by
 intro KK;refine oK (λK hK=>?_);refine hK _ _ (HS.o _ _ (.drew (.of_below (Z2 _ _)))) ?_;clear hK K;try simp only[Act.put,zA,zB,zC]
 refine oK (λK hK=>?_);refine(HC.o _ (Z2 _ _).drew).mono ?_;rintro e w1⟨M1,b,k,n,t,ev,rfl,hr⟩;refine hK _ _ (HS.o _ _ ((MFr.of_below (Z2 _ _).drew).trans hr.2.1)) ?_;obtain⟨q0,q1,q2,y0,y1,y2⟩:=(mE.lo hr HM.o HE HO).six;have hv:=mE.boxB hr HM.o HE HO;have cD:=lh (HS.o _ _ ((MFr.of_below (Z2 _ _).drew).trans hr.2.1));have fD:=lh hv;clear hr hK K hv;simp only[ag];try simp only[Act.put,zA,zB,zC]
 refine ra ?_;revert w1 M1 b k n t ev q0 q1 q2 y0 y1 y2 cD fD;exact KK.o):G:=i h
def V9{P G:Prop}(h:P)(i:Hid P->G:=by
 intro KK;refine oK (λK hK=>?_);refine hK _ _ (HS.o _ _ (.drew (.of_below (Z2 _ _)))) ?_;clear hK K;try simp only[Act.put,zA,zB,zC]
 refine oK (λK hK=>?_);refine(HC.o _ (Z2 _ _).drew).mono ?_;rintro e w1⟨M1,k,n,t,ev,rfl,hr⟩;refine hK _ _ (HS.o _ _ ((MFr.of_below (Z2 _ _).drew).trans hr.2.1)) ?_;obtain⟨q0,q1,q2,y0,y1,y2⟩:=(rF.lo hr HM.o HE HO).six;have hv:=rF.boxB hr HM.o HE HO;have cD:=lh (HS.o _ _ ((MFr.of_below (Z2 _ _).drew).trans hr.2.1));have fD:=lh hv;clear hr hK K hv;simp only[ag];try simp only[Act.put,zA,zB,zC]
 refine ra ?_;revert w1 M1 k n t ev q0 q1 q2 y0 y1 y2 cD fD;exact KK.o):G:=i h
def rs{P G:Prop}(h:P)(i:Hid P->G:=by
 intro KK;have cw:=h.below aZ;have f5:=cw.cell 5 (vI s.steps) Qq;have y5:=cw.fz 5;obtain⟨aE,aX⟩:=Zrl cw;revert cw f5 y5 aE aX;exact KK.o):G:=i h
def MP{P G:Prop}(h:P)(i:Hid P->G:=by
 intro KK;obtain⟨aR,lf,lr⟩:=Znr h fr;unfold frO vO at aR lf lr;obtain⟨z,hz⟩:∃z,z=(w.alloc (.cells #[.bool fr.strict,vI fr.vars] 78)).alloc (.cells #[vI 0,vI 0,.string ⟨#[]⟩] 71):=⟨_,rfl⟩
 revert aR lf lr z hz;exact KK.o):G:=i h
def Ux{P G:Prop}(h:P)(i:Hid P->G:=by
 intro KK;have fM:Inv s1 (d+1):=Qz
 have dL:Ext s s1:=by rw[aL];exact(Inv.turn (d:=0) (d':=0) (k:=s.steps+1) (c:=s.calls) (v:=s.last) hI Qe Qe hI.calls hI.last Qe).2
 have ex:s1.steps=s.steps+1:=by rw[aL]
 revert fM dL ex;exact KK.o):G:=i h
def ub{P G:Prop}(h:P)(i:Hid P->G:=by
 intro KK;refine Ze (λK hK=>?_);go_simp
 refine hK _ _ ((Zb dm).trans m3) ?_;clear hK K;refine Ze (λK hK=>?_);revert K hK;exact KK.o):G:=i h
def VY{P G:Prop}(h:P)(i:Hid P->G:=by
 intro KK;refine IG (λK hK=>?_);refine hK _ _ (SH ?_);clear hK K;exact KK.o):G:=i h
def ZI{P G:Prop}(h:P)(i:Hid P->G:=by
 intro KK;obtain⟨s4,iZ⟩:∃s4,s4=s3.object (3+(n0:Int)):=⟨_,rfl⟩
 have hob:=λW (hB:kW w4 W)=>Z88 (aO.below hB).heap (3+(n0:Int)) (by have:=qQ.lens.2.2.2.1;omega);obtain⟨nO,hnO⟩:∃nO:Int,nO=s3.H.objects.length:=⟨_,rfl⟩
 revert s4 iZ hob nO hnO;exact KK.o):G:=i h
def XI{P G:Prop}(h:P)(i:Hid P->G:=by
 intro KK;refine o4 [(true,0),(true,1),(true,2),(true,3),(true,4),(true,5),(true,6),(true,7),(true,8),(true,9),(true,10),(true,11),(true,12),(true,13),(true,14),(true,15),(false,16),(true,17),(true,18),(false,19),(false,20)] [21,22,23] (λW=>vC W C.mb 9 cv/\vC W w.heap.size 0 (.bool false)/\vC W a.b 3 (.slice (some ⟨kg,0,none⟩) 2 kc)/\vC W kg 1 (vP body.b)) ⟨r9,kH,kI,kJ⟩ (λbw=>?_);refine pU ?_;refine Ze (λK hK=>?_);go_simp
 refine li.o.mono ?_;rintro e wq⟨rfl,qV⟩;revert bw K hK wq qV;exact KK.o):G:=i h
def rH{P G:Prop}(h:P)(i:Hid P->G:=by
 intro KK;obtain⟨z,hz⟩:∃z,z=z0.setCell ⟨C.mb,5,none⟩ (vI (s.steps+1)):=⟨_,rfl⟩
 revert z hz;exact KK.o):G:=i h
def iB{P G:Prop}(h:P)(i:Hid P->G:=by
 intro KK;refine pU ?_;refine Ze (λK hK=>?_);go_simp
 revert K hK;exact KK.o):G:=i h
def T3{P G:Prop}(h:P)(i:Hid P->G:=by
 intro KK;have q0:=MT.scan.c0;have q1:=MT.scan.c1;have t0:=MT.cell 0 rfl;have t1:=MT.cell 1 rfl;have t2:=MT.cell 2 rfl;have t3:=MT.cell 3 rfl;have z0:=MT.fz 0;have z1:=MT.fz 1;have z2:=MT.fz 2;have z3:=MT.fz 3;have zs:=MT.scan.fz 1;have eh:=MT.lt;have cG:=MT.tlt;have bZ:=MT.scan.lt;have MT:=lh MT;revert q0 q1 t0 t1 t2 t3 z0 z1 z2 z3 zs eh cG bZ MT;exact KK.o):G:=i h
def WJ{P G:Prop}(h:P)(i:Hid P->G:=by
 intro KK;have ae:=λw1 (hh:HeapAt ρ w1 hb ho L H) j x=>SV (f:=LBind.cells) (m:=6) (λ_=>rfl) (hh.scp m s hm).2 (g:=g) QB (i:=k) (j:=j) (x:=x) hp;have bz:=λw1 (hh:HeapAt ρ w1 hb ho L H) j=>U' (hh.scp m s hm).2 (g:=g) QB j;obtain⟨HF,HR,HZ,bE⟩:=gp aq ae bz (λw1 (hh:HeapAt ρ w1 hb ho L H)=>Z6v hh m s hm name);revert ae bz HF HR HZ bE;exact KK.o):G:=i h
def T2{P G:Prop}(h:P)(i:Hid P->G:=by
 intro KK;have lT:=cw.mbLt;have r9:=cw.rcell 3 Qg;have eT:=cw.rows 3 Qg;obtain⟨cv,fk⟩:∃cv,cv=M0.row 3:=⟨_,rfl⟩
 obtain⟨xs,cC⟩:∃xs,xs=ow so M0.cl 3:=⟨_,rfl⟩
 obtain⟨n0,hn0⟩:∃n0,n0=M0.cl.length:=⟨_,rfl⟩
 revert lT r9 eT cv fk xs cC n0 hn0;exact KK.o):G:=i h
def SU{P G:Prop}(h:P)(i:Hid P->G:=by
 intro KK;have hR:zJ (zz V D (a.nt C.N) sc fr) s=zz V D (a.nt C.N) sc fr s1:=by
  unfold zJ;rw[if_neg Qe,aL]
 obtain⟨R,aS⟩:∃R,R=zJ (zz V D (a.nt C.N) sc fr) s:=⟨_,rfl⟩
 revert hR R aS;exact KK.o):G:=i h
def YI{P G:Prop}(h:P)(i:Hid P->G:=by
 intro KK;refine step_append_lies _ Qt (.tmp 32) (.tmp 47) 69 Qt 0 149 i0 _ 3 24 underlying69 hi aC bj bJ rfl Qg cv n0 xs Qt ((oP.o.alloc _).drew) ⟨w2.heap.size,0,none⟩ 1 1 [vP a.b,vI nx,.bool (Zj body)] Qt rfl (World.news_of_block (cs:=#[vP a.b,vI nx,.bool (Zj body)]) (t:=149) (fr:=(0,0)) (heap_alloc_new w2 _)) Sj Qg Qj Qe Qe (w2.heap.size+1) Qm ?_;exact KK.o):G:=i h
def Wt{P G:Prop}(h:P)(i:Hid P->G:=by
 intro KK;have dK:=fL.nodup;simp only[ATree.blocks,List.nodup_cons,List.mem_append,Option.mem_toList,not_or]at dK;revert dK;exact KK.o):G:=i h
def X4{P G:Prop}(h:P)(i:Hid P->G:=by
 intro KK;refine step_append_lies _ Qt (.tmp 32) (.tmp 47) 69 Qt 0 149 i0 _ 3 24 underlying69 hi aC bj bJ rfl Qg cv n0 xs Qt ((oP.o.alloc _).drew) ⟨w2.heap.size,0,none⟩ 1 1 [vP a.b,vI nx,.bool (true)] Qt rfl (World.news_of_block (cs:=#[vP a.b,vI nx,.bool (true)]) (t:=149) (fr:=(0,0)) (heap_alloc_new w2 _)) Sj Qg Qj Qe Qe (w2.heap.size+1) Qm ?_;exact KK.o):G:=i h
def TL{P G:Prop}(h:P)(i:Hid P->G:=by
 intro KK;have d3:=(eD.cell (p:=⟨a.b,3,none⟩) aJ.lt).trans c3;have d0:=(eD.cell (p:=⟨a.b,0,none⟩) aJ.lt).trans aJ.c0;have d1:=(eD.cell (p:=⟨a.b,1,none⟩) aJ.lt).trans aJ.c1;obtain⟨f0,f1⟩:=(lf.fr (.of_below eD)).two;revert d3 d0 d1 f0 f1;exact KK.o):G:=i h
def ZY{P G:Prop}(h:P)(i:Hid P->G:=by
 intro KK;obtain⟨b0,b1,b2,-,-,-⟩:=oR.o.six;have fm:=pq.o.fr bP.o;obtain⟨q0,q1,q2,z0,pu,z2⟩:=fm.six;have jT:=lh ((fm.fr (.drew (.refl _ _))).fill (x':=(vI k3)) (y':=(vI n3)) (z':=.string t3) dH.o.drew ((HFk.o.trans bP.o).trans (.drew (.refl _ _))) fm.late);clear fm;refine v7 (.take 0 (.take 1 (.take 2 (.take 3 (.go 4 (.go 5 .nil)))))) 4 (λW=>vC W p2 0 (vI k3)/\vC W p2 1 (vI n3)/\vC W p2 2 (.string t3)) ⟨b0,b1,b2⟩ ?_;refine ra ?_
 revert b0 b1 b2 q0 q1 q2 z0 pu z2 jT;exact KK.o):G:=i h
def EI{P G:Prop}(h:P)(i:Hid P->G:=by
 intro KK;obtain⟨w2,cj⟩:∃w2,w2=((w.alloc (.cells #[.bool st,.bool ins] 122)).alloc (.cells #[vP a.b] 22)):=⟨_,rfl⟩
 revert w2 cj;exact KK.o):G:=i h
def Aah{P G:Prop}(h:P)(i:Hid P->G:=by
 intro KK;have py:=Z2 W6 (.cells #[vI 6,.string ⟨#[]⟩,vI 0,.slice pb qb cb] 28);obtain⟨W7,oS⟩:∃W7,W7=W6.alloc (.cells #[vI 6,.string ⟨#[]⟩,vI 0,.slice pb qb cb] 28):=⟨_,rfl⟩
 have xC:TreeAt W7 z.heap.size (.mk W6.heap.size (.slice pb qb cb) 6 ⟨#[]⟩ 0 a.kids):=by
  have hr:=(mn.o.bel py).rowOf;rw[ch]at hr;rw[oS];exact .mk (heap_alloc_new W6 _) (by have:=mn.o.lt;have:=mn.o.le;omega) hr (λk hk=>(mn.o.bel py).kid hk)
 have lp:(ATree.mk W6.heap.size (.slice pb qb cb) 6 ⟨#[]⟩ 0 a.kids).many<274877906944:=by
  have h1:(ATree.mk W6.heap.size (.slice pb qb cb) 6 ⟨#[]⟩ 0 a.kids).many=a.many:=by
   obtain⟨b',v',k',t',n',ks'⟩:=a;rfl
  rw[h1];have:=ip.o.2.2.1;omega
 have hnm:=Z9o true W7 z.heap.size _ xC lp;have aH:JK true (.mk W6.heap.size (.slice pb qb cb) 6 ⟨#[]⟩ 0 a.kids)=JK true a:=by
  rw[<-Z9e (N:=C.N),<-Z9e (N:=C.N)];obtain⟨b',v',k',t',n',ks'⟩:=a;rfl
 revert py W7 oS xC lp hnm aH;exact KK.o):G:=i h
def Wv{P G:Prop}(h:P)(i:Hid P->G:=by
 intro KK;have cA:=h.hbLt;have dw:=getElem?_lt hm;have aY:=getElem?_lt hp;have h1:=h.below ((Below.refl _ _).alloc (Nat.le_refl _) (.cells #[vI vk,vI vn,.string vs] 71));have hob:H.scope? (m:Int)=some s:=by simp[LHeap.scope?,hm]
 have cN:H.has (m:Int) name=true:=by rw[has_eq hob,if_pos aW,hk];rfl
 have HC:=lh (Vu h1 (m:Int) name);revert cA dw aY h1 hob cN HC;exact KK.o):G:=i h
def X9{P G:Prop}(h:P)(i:Hid P->G:=by
 intro KK;have ae:=λw1 (hh:HeapAt ρ w1 hb ho L H) j x=>SV (f:=LBind.cells) (m:=6) (λ_=>rfl) (hh.scp m s hm).2 (g:=g) QB (i:=k) (j:=j) (x:=x) hp;revert ae;exact KK.o):G:=i h
def ui{P G:Prop}(h:P)(i:Hid P->G:=by
 intro KK;have ac:=fL.at'.blkOf;simp only[ATree.b,ATree.v,ATree.kind,ATree.text,ATree.n]at ac;revert ac;exact KK.o):G:=i h
def Abx{P G:Prop}(h:P)(i:Hid P->G:=by
 intro KK;have c0:wr.cell? ⟨g,k*6,none⟩=some (.string bn):=(hB.cell (p:=⟨g,k*6,none⟩) hg).trans (hc k 0 _ _ dX rfl);have c1:wr.cell? ⟨g,k*6+1,none⟩=some (vI bk):=(hB.cell (p:=⟨g,k*6+1,none⟩) hg).trans (hc k 1 _ _ dX rfl);have c2:wr.cell? ⟨g,k*6+2,none⟩=some (vI bm):=(hB.cell (p:=⟨g,k*6+2,none⟩) hg).trans (hc k 2 _ _ dX rfl);have c3:wr.cell? ⟨g,k*6+3,none⟩=some (.string bs):=(hB.cell (p:=⟨g,k*6+3,none⟩) hg).trans (hc k 3 _ _ dX rfl)
 have c4:wr.cell? ⟨g,k*6+4,none⟩=some (vI mp):=(hB.cell (p:=⟨g,k*6+4,none⟩) hg).trans (hc k 4 _ _ dX rfl);have c5:wr.cell? ⟨g,k*6+5,none⟩=some (.bool kh):=(hB.cell (p:=⟨g,k*6+5,none⟩) hg).trans (hc k 5 _ _ dX rfl);have mq:wr.cell? bx=some (.string name):=(hB.cell hb).trans hx;have du:bx.block<wr.heap.size:=Nat.lt_of_lt_of_le hb hB.size;revert c0 c1 c2 c3 c4 c5 mq du;exact KK.o):G:=i h
def UP{P G:Prop}(h:P)(i:Hid P->G:=by
 intro KK;have h1:=h.below ((Below.refl _ _).alloc (Nat.le_refl _) (.cells #[vI vk,vI vn,.string vs] 71));have cu:kW w (w.alloc (.cells #[vI vk,vI vn,.string vs] 71)):=(Below.refl _ _).alloc (Nat.le_refl _) _;revert h1 cu;exact KK.o):G:=i h
def Acr{P G:Prop}(h:P)(i:Hid P->G:=by
 intro KK;obtain⟨q0,q1,q2,yC,pu,rL⟩:=(oT.o.fr F0).six;obtain⟨g1,g2,g3,g4⟩:=(oT.o.fr F0).fill (x':=(vI k1)) (y':=(vI n1)) (z':=.string t1) ai.1 ((MFr.of_below nU.o).trans F0) oT.o.late;obtain⟨jz,d9,pA⟩:=ds g1 g2 g3;have qR:=lh (show match r1.2 with
  | .ok v=>v=⟨k1,n1,t1⟩/\bQ=.nilIface
  | .error x=>ax C M1 (((W0.setCell ⟨w.heap.size+1+1+1,0,none⟩ (vI k1)).setCell ⟨w.heap.size+1+1+1,1,none⟩ (vI n1)).setCell ⟨w.heap.size+1+1+1,2,none⟩ (.string t1)) x bQ by
  have h3:=ai.2.2;rcases hr:r1.2 with x|v;·rw[hr]at h3;exact g4 _ _ h3
  .rw[hr]at h3;exact h3)
 clear g1 g2 g3 g4;simp only[ag];try simp only[Act.put,zA,zB,zC]
 refine ra ?_;refine IG (λK hK=>?_);refine hK _ _ ?_;clear hK K;refine IG (λK hK=>?_);refine hK _ _ (SH ?_);clear hK K q0 q1 q2 yC pu rL;revert jz d9 pA qR;exact KK.o):G:=i h
def T4{P G:Prop}(h:P)(i:Hid P->G:=by
 intro KK;have m4:vC w4 nb 3 (.slice p kids.length cp):=(aB.cell_far ⟨nb,3,none⟩ Qi (λe=>NE.o e.symm)).trans ((Zb dm).trans m3);revert m4;exact KK.o):G:=i h
def Aak{P G:Prop}(h:P)(i:Hid P->G:=by
 intro KK;have aq:∀W M',MFr M M' z W->vC W w.heap.size 0 (.bool fr.strict)/\vC W w.heap.size 1 (vI fr.vars)/\vC W a.b 0 (vI a.kind)/\vC W a.b 3 (.slice (some ⟨kg,0,none⟩) 2 kc)/\vC W kg 0 (vP x.b)/\vC W kg 1 (vP y.b):=λW M' f=>⟨(lf.fr f).cell rfl,(lf.fr f).cell rfl,(f.tree aJ bz).1.c0,(f.cell aJ.lt bz.blk).trans c3,(f.cell aY eZ).trans k0,(f.cell aY eZ).trans k1⟩
 obtain⟨r1,bB⟩:∃r1,r1=V (x.nt C.N) sc fr s1:=⟨_,rfl⟩
 have bG:=lh (co.from aE fM (hA.ext dL) ai ja wx mx (aJ.kid dY) (bz.kid dY));have am:=(hV (x.nt C.N) sc fr s1 _ wx mx fM (hA.ext dL) ai ja).1;revert aq r1 bB bG am;exact KK.o):G:=i h
def Aci{P G:Prop}(h:P)(i:Hid P->G:=by
 intro KK;have aM:L.sb m<w1.heap.size:=(Array.getElem?_eq_some_iff.1 ac).1;have d2:w1.cell? ⟨L.sb m,2,none⟩=some nv:=Qk
 have kG:w1.frozen? ⟨L.sb m,2,none⟩=false:=QN
 have pB:nv.ownBlock≠some (L.sb m):=λe=>by
  rw[jU]at e;have h1:=eU.rnv m _ (getElem?_lt HM.o) e;rw[eU.rsb m (getElem?_lt HM.o)]at h1;cases h1
 obtain⟨eK,qW,HO,HN,th,au⟩:=gw eU ac af jU pB dn;clear pB;have qX:Hid (nv.ownBlock≠some w.heap.size):=λe=>by
  have h1:=eK.o.rnv m w.heap.size (getElem?_lt HM.o) (by rw[<-HN.o];exact e);have h2:=HH.o.rnv m w.heap.size (getElem?_lt HM.o) (by rw[<-HN.o];exact e);have h3:=h2.symm.trans h1;exact absurd (ey w.heap.size (by rw[h2];simp)) Qe
 revert aM d2 kG eK qW HO HN th au qX;exact KK.o):G:=i h
def Uv{P G:Prop}(h:P)(i:Hid P->G:=by
 intro KK;simp only[ag];try simp only[Act.put,zA,zB,zC]
 refine ra ?_;exact KK.o):G:=i h
def ZK{P G:Prop}(h:P)(i:Hid P->G:=by
 intro KK;have np:(a.kids.filter xp).length<=a.kids.length:=List.length_filter_le _ _;have dt:(a.kids.filter vV).length<=a.kids.length:=List.length_filter_le _ _;have ti:∀x,x∈a.kids.filter xp->x∈a.kids:=λx hx=>(List.mem_filter.1 hx).1;have fm:∀x,x∈a.kids.filter vV->x∈a.kids:=λx hx=>(List.mem_filter.1 hx).1;have qY:=lh ti;have kL:=lh fm;revert np dt ti fm qY kL;exact KK.o):G:=i h
def Aa5{P G:Prop}(h:P)(i:Hid P->G:=by
 intro KK;intro gg cap w2 aK av cf im;have cM:∀b o,b<w1.heap.size->nv.ownBlock≠some b->w2.cell? ⟨b,o,none⟩=w1.cell? ⟨b,o,none⟩:=λb o ai aw=>(av.cell_far ⟨b,o,none⟩ Qi (λe=>aw e.symm)).trans (Zb ai);have rM:w2.frozen? ⟨L.sb m,2,none⟩=false:=(av.frozen_far ⟨L.sb m,2,none⟩ Qi (λe=>th.o e.symm)).trans ((TT aM).trans kG);have e2:=(cM _ 2 aM th.o).trans d2;refine hK _ _ ⟨e2,(cM _ 0 hs qX.o).trans q0,(cM _ 1 hs qX.o).trans q1,(cM _ 2 hs qX.o).trans q2⟩ ?_
 simp only[Act.put,zA,zB,zC];obtain⟨HG,HW,HT,uQ⟩:=gp av aK cf im;clear av aK cf im cM;refine Z1 ?_;revert gg cap w2 rM e2 HG HW HT uQ;exact KK.o):G:=i h
def UQ{P G:Prop}(h:P)(i:Hid P->G:=by
 intro KK;try simp only[Act.put,zA,zB,zC]
 refine ra ?_;exact KK.o):G:=i h
def Uy{P G:Prop}(h:P)(i:Hid P->G:=by
 intro KK;have mr:=(ar.cell (p:=⟨w.heap.size,0,none⟩) hs).trans q0;have iq:=(ar.cell (p:=⟨w.heap.size,1,none⟩) hs).trans q1;have lY:=(ar.cell (p:=⟨w.heap.size,2,none⟩) hs).trans q2;revert mr iq lY;exact KK.o):G:=i h
def OE{P G:Prop}(h:P)(i:Hid P->G:=by
 intro KK;obtain⟨q,cU⟩:∃q,q=P.length:=⟨_,rfl⟩
 have nq:q<=9223372036854775807:=Rk
 revert q cU nq;exact KK.o):G:=i h
def XV{P G:Prop}(h:P)(i:Hid P->G:=by
 intro KK;intro W6 p6 M6 jV;have F6:=bc.o.trans jV.2.1;obtain⟨u0,u1,-,-,-⟩:=HS.o W6 M6 F6;obtain⟨q0,q1,q2,z0,z1,z2⟩:=(HLR.o.fr F6).six;obtain⟨p0,p1,p2,-,-,-⟩:=jV.2.2.six;have jQ:=lh jV;have mm:=lh F6;clear jV F6;revert W6 p6 M6 u0 u1 q0 q1 q2 z0 z1 z2 p0 p1 p2 jQ mm;exact KK.o):G:=i h
def YO{P G:Prop}(h:P)(i:Hid P->G:=by
 intro KK;refine o4 [(true,0),(true,1),(true,2),(true,3),(true,4),(true,5)] [6,7] (λW=>vC W w.heap.size 0 (vI vk)/\vC W w.heap.size 1 (vI vn)/\vC W w.heap.size 2 (.string vt)) (HS.o _ _ (.drew (.of_below au.o))) (λbw=>?_);refine pU ?_;refine Z1 ?_;revert bw;exact KK.o):G:=i h
def WK{P G:Prop}(h:P)(i:Hid P->G:=by
 intro KK;have q0:=M4.scan.c0;have q1:=M4.scan.c1;have t0:=M4.cell 0 rfl;have t1:=M4.cell 1 rfl;have t2:=M4.cell 2 rfl;have t3:=M4.cell 3 rfl;have z0:=M4.fz 0;have z1:=M4.fz 1;have z2:=M4.fz 2;have z3:=M4.fz 3;have zs:=M4.scan.fz 1;have eh:=M4.lt;have cG:=M4.tlt;have bZ:=M4.scan.lt;revert q0 q1 t0 t1 t2 t3 z0 z1 z2 z3 zs eh cG bZ;exact KK.o):G:=i h
def X5{P G:Prop}(h:P)(i:Hid P->G:=by
 intro KK;have hb:∀o,Below (w.setCell ⟨rb,0,none⟩ (.slice (some ⟨tb,off+4,none⟩) (n-1) (cap-1))).heap.size (w.setCell ⟨rb,0,none⟩ (.slice (some ⟨tb,off+4,none⟩) (n-1) (cap-1))) ((w.setCell ⟨rb,0,none⟩ (.slice (some ⟨tb,off+4,none⟩) (n-1) (cap-1))).alloc o):=λo=>(Below.refl _ _).alloc (Nat.le_refl _) o;revert hb;exact KK.o):G:=i h
def Ev{P G:Prop}(h:P)(i:Hid P->G:=by
 intro KK;obtain⟨q0,q1,q3,s0,s1,cO,eE⟩:=ao w2 (Below.refl _ _);obtain⟨cP,fA,fc,gz⟩:=gp ao cj cO eE;revert q0 q1 q3 s0 s1 cO eE cP fA fc gz;exact KK.o):G:=i h
def TS{P G:Prop}(h:P)(i:Hid P->G:=by
 intro KK;obtain⟨lR,oT,nU,oL,lS⟩:=gq (show zv=_ from eS.trans (by rw[hz,aC])) dF eD (aE.below eD) (MFr.of_below (M:=M) eD);revert lR oT nU oL lS;exact KK.o):G:=i h
def AbC{P G:Prop}(h:P)(i:Hid P->G:=by
 intro KK;refine v7 (.take 0 (.take 1 (.take 2 (.take 3 (.take 4 (.take 5 (.take 6 (.take 7 (.take 8 (.two 9 (.take 10 (.take 11 (.take 12 (.take 13 (.go 14 (.go 15 (.go 16 (.go 17 (.nil))))))))) 14 (.go 9 (.take 10 (.take 11 (.take 12 (.take 13 (.go 15 (.go 16 (.go 17 (.nil))))))))))))))))))) 16 (λW=>vC W w.heap.size 0 (.bool fr.strict)/\vC W w.heap.size 1 (vI fr.vars)/\vC W x.b 3 (.slice (some ⟨xg,0,none⟩) 1 xc)/\vC W xg 0 (vP y.b)) (cH.o _ _ (MFr.drew (.refl _ _))) ?_
 refine ra ?_;refine Zu ?_;exact KK.o):G:=i h
def U5{P G:Prop}(h:P)(i:Hid P->G:=by
 intro KK;refine HC.o.mono ?_;rintro e w1⟨rfl,hB⟩;obtain⟨q0,q1,q2,f0,f1,f2,hs,dn⟩:=Z' hB;have eU:=HH.o.below hB;obtain⟨d0,d1,d2⟩:=HF.o w1 eU;have eK:=lh eU;have HB:=lh dn;clear hB dn eU;revert w1 q0 q1 q2 f0 f1 f2 hs d0 d1 d2 eK HB;exact KK.o):G:=i h
def AaM{P G:Prop}(h:P)(i:Hid P->G:=by
 intro KK;refine o4 [(true,0),(true,1),(true,2),(true,3),(true,4),(true,5),(true,6),(true,7),(true,8),(true,9),(true,10),(true,11),(true,12),(true,13)] [14,15,16] (λW=>vC W w.heap.size 0 (.bool fr.strict)/\vC W w.heap.size 1 (vI fr.vars)/\vC W a.b 3 (.slice (some ⟨kg,0,none⟩) 1 kc)/\vC W kg 0 (vP o.b)/\vC W o.b 0 (vI o.kind)/\vC W o.b 1 (.string o.text)) (HS.o _ _ (.drew (.refl _ _))) (λbw=>?_)
 refine pU ?_;refine Z1 ?_;revert bw;exact KK.o):G:=i h
def Lt{P G:Prop}(h:P)(i:Hid P->G:=by
 intro KK;obtain⟨zv,eS⟩:∃zv,zv=z.alloc (.cells #[vI 0,vI 0,.string ⟨#[]⟩] 71):=⟨_,rfl⟩
 revert zv eS;exact KK.o):G:=i h
def Acc{P G:Prop}(h:P)(i:Hid P->G:=by
 intro KK;refine step_append_lies _ Qt (.tmp 37) (.tmp 42) 26 Qt B 22 i0 _ 1 8 underlying26 hi aC bj bJ rfl Qg v kids.length (kids.map ATree.ptr) Qt (N3.o.at'.rowOf.alloc _) ⟨w3.heap.size,0,none⟩ 1 1 [a.ptr] Qt rfl (World.news_of_block (cs:=#[a.ptr]) (t:=22) (fr:=(0,0)) (heap_alloc_new w3 _)) Qv Qg Qj Qe QW (w3.heap.size+1) Qm ?_;intro gg cap w4 aU aB bV ca
 have m4:vC w4 nb 3 v:=(aB.cell_far ⟨nb,3,none⟩ Qi (λe=>NE.o e.symm)).trans ((Zb dm).trans m3);revert gg cap w4 aU aB bV ca m4;exact KK.o):G:=i h
def X7{P G:Prop}(h:P)(i:Hid P->G:=by
 intro KK;obtain⟨i1,x1,-,eo,i2⟩:=bL.o;have F1:=ai.1.2.1;have dZ:=ai.1.1;have ty:=F1.tree pC.o oU.o;have hst:=Int.le_trans HB.o x1.steps;obtain⟨r2,hr2⟩:∃r2,r2=V (y.nt C.N) sc fr s2:=⟨_,rfl⟩
 have bS:=lh (oV.o.from dZ i1 (gY.o.ext x1) hst i2 wy my ty.1 ty.2);have bF:=lh (HV.o (y.nt C.N) sc fr s2 _ wy my i1 (gY.o.ext x1) hst i2).1;revert i1 x1 eo i2 F1 dZ ty hst r2 hr2 bS bF;exact KK.o):G:=i h
def U4{P G:Prop}(h:P)(i:Hid P->G:=by
 intro KK;refine Ze (λK hK=>?_);go_simp
 have ai:kW w7 (w7.alloc (.cells #[vP x.b] 22)):=(Below.refl _ _).alloc (Nat.le_refl _) _;revert K hK ai;exact KK.o):G:=i h
def X8{P G:Prop}(h:P)(i:Hid P->G:=by
 intro KK;refine o4 [(true,0),(true,1),(true,2),(true,3),(true,4),(true,5),(true,6),(true,7),(true,8)] [9,10] (λW=>vC W p1 1 (vI n1)/\vC W a.b 1 (.string a.text)) (iF.o _ _ (.drew (.refl _ _))) (λbw=>?_);refine pU ?_;refine Z1 ?_;revert bw;exact KK.o):G:=i h
def VV{P G:Prop}(h:P)(i:Hid P->G:=by
 intro KK;have am:=Got.push aA HP.o.le N3.o (wA:=wf.drew) NA.o A3.o jD.o R3.o ((Below.refl _ _).alloc (Nat.le_refl _) _) aB aU (bV.imp id λh=>by omega) ca;have ct:=lh am;clear am;refine Z1 ?_;revert ct;exact KK.o):G:=i h
def SS{P G:Prop}(h:P)(i:Hid P->G:=by
 intro KK;have cx:=Zq ae (g:=g0) (by rw[gr];rfl) (i:=k) (x:=x.ptr) (by rw[List.getElem?_map,hx];rfl);revert cx;exact KK.o):G:=i h
def Aa4{P G:Prop}(h:P)(i:Hid P->G:=by
 intro KK;have bF:=lh am;have HR:=lh hR
 have cH:=lh (show∀W M',MFr Mk M' z1 W->vC W w.heap.size 0 (.bool fr.strict)/\vC W w.heap.size 1 (vI fr.vars)/\vC W x.b 3 (.slice (some ⟨xg,0,none⟩) 1 xc)/\vC W xg 0 (vP y.b)from
  λW M' f=>have g:=(MFr.of_below (M:=Mk) aQ).trans f;⟨(dC.o.fr (HFk.o.trans g)).cell rfl,(dC.o.fr (HFk.o.trans g)).cell rfl,(g.cell eL.o.1.lt eL.o.2.blk).trans kj,(g.cell ju fS).trans uR⟩)
 have au:=lh aQ;revert bF HR cH au;exact KK.o):G:=i h
def XJ{P G:Prop}(h:P)(i:Hid P->G:=by
 intro KK;have HC:=lh (WY w3 rb B _ d _ _ P3.o.rd (by have:=P3.o.deep;omega) aA hv λhd h1 w4 hR hs=>HS.o w4 rb B (d+1) _ _ ⟨hR,hd,aA,by have:=P3.o.le;omega,P3.o.few⟩ h1);have km:=lh (Nat.le_of_lt (Leaves.within (Ts f .stmt (d+1) _) ty us hv));have uS:=lh oW;revert HC km uS;exact KK.o):G:=i h
def vB{P G:Prop}(h:P)(i:Hid P->G:=by
 intro KK;refine hK _ _ m3 ?_;obtain⟨i0,hi,aC,bj,bJ⟩:=info_parts To;revert i0 hi aC bj bJ;exact KK.o):G:=i h
def Acx{P G:Prop}(h:P)(i:Hid P->G:=by
 intro KK;refine step_append_lies _ Qt (.tmp 34) (.tmp 41) 26 Qt B 22 i0 _ 1 8 underlying26 hi aC bj bJ rfl Qg (.slice p kids.length cp) (kids).length ((kids).map ATree.ptr) Qt (N3.o.at'.rowOf.alloc _) ⟨dx.heap.size,0,none⟩ 1 1 [a.ptr] Qt rfl (World.news_of_block (cs:=#[a.ptr]) (t:=22) (fr:=(0,0)) (heap_alloc_new dx _)) Qv Qg Qj Qe Qu (dx.heap.size+1) Qm ?_;exact KK.o):G:=i h
def Ach{P G:Prop}(h:P)(i:Hid P->G:=by
 intro KK;refine step_append_lies _ Qt (.tmp 35) (.tmp 40) 26 Qt B 22 i0 _ 1 8 underlying26 hi aC bj bJ rfl Qg (.slice p kids.length cp) kids.length (kids.map ATree.ptr) Qt (N3.o.at'.rowOf.alloc _) ⟨dx.heap.size,0,none⟩ 1 1 [a.ptr] Qt rfl (World.news_of_block (cs:=#[a.ptr]) (t:=22) (fr:=(0,0)) (heap_alloc_new dx _)) Qv Qg Qj Qe Qu (dx.heap.size+1) Qm ?_;exact KK.o):G:=i h
def AbI{P G:Prop}(h:P)(i:Hid P->G:=by
 intro KK;refine step_append_lies _ Qt (.tmp 47) (.tmp 50) 26 Qt B 22 i0 _ 1 8 underlying26 hi aC bj bJ rfl Qg (.slice p kids.length cp) (kids).length ((kids).map ATree.ptr) Qt (N3.o.at'.rowOf.alloc _) ⟨w3.heap.size,0,none⟩ 1 1 [a.ptr] Qt rfl (World.news_of_block (cs:=#[a.ptr]) (t:=22) (fr:=(0,0)) (heap_alloc_new w3 _)) Qv Qg Qj Qe QW (w3.heap.size+1) Qm ?_;exact KK.o):G:=i h
def ZD{P G:Prop}(h:P)(i:Hid P->G:=by
 intro KK;refine o4 [(true,0),(false,1)] [2,3] (λW=>vC W (w.heap.size+1+1) 0 (vI 0)/\vC W (w.heap.size+1+1) 1 (vI 0)/\vC W (w.heap.size+1+1) 2 (.string ⟨#[]⟩)) ⟨m0,m1,m2⟩ (λbw=>?_);revert bw;exact KK.o):G:=i h
def Aap{P G:Prop}(h:P)(i:Hid P->G:=by
 intro KK;have aw:kW w7 ((w7.alloc (.cells #[vP x.b] 22)).alloc (.cells #[vI 14,.string ⟨#[]⟩,vI 0,.slice (some ⟨w7.heap.size,0,none⟩) 1 1] 28)):=ai.alloc Qm _;refine(wj (w7.alloc (.cells #[vP x.b] 22)) rb 14 ⟨#[]⟩ (some ⟨w7.heap.size,0,none⟩) 1 1).mono ?_;rintro e dx⟨rfl,da⟩;have hA:Got wf.drew B dx (.mk (w7.heap.size+1) (.slice (some ⟨w7.heap.size,0,none⟩) 1 1) 14 ⟨#[]⟩ 0 [x]) (.mk 14 ⟨#[]⟩ 0 [t]):=Sv
 revert aw dx da hA;exact KK.o):G:=i h
def Yx{P G:Prop}(h:P)(i:Hid P->G:=by
 intro KK;refine v7 (.take 0 (.take 1 (.take 2 (.take 3 (.go 4 (.go 5 .nil)))))) 4 (λW=>vC W p2 0 (vI k2)/\vC W p2 1 (vI n2)/\vC W p2 2 (.string t2)) ⟨b0,b1,b2⟩ ?_;refine ra ?_;exact KK.o):G:=i h
def YZ{P G:Prop}(h:P)(i:Hid P->G:=by
 intro KK;refine HC.o.mono ?_;rintro e w4⟨y,rfl,hY,hR,bg⟩;have la:=X3.o.rfr aA bg;have lg:=F3.o.trans bg;have nY:Got w B w4 x t:=la;have ai:kW w4 (w4.alloc (.cells #[vP xb,vP y.b] 22)):=(Below.refl _ _).alloc (Nat.le_refl _) _;revert w4 y hY hR bg la lg nY ai;exact KK.o):G:=i h
def Aab{P G:Prop}(h:P)(i:Hid P->G:=by
 intro KK
 have pE:=lh (show∀(i:Nat) (u:LVal),vs[i]?=some u->∃g,pv=some ⟨g,0,none⟩/\∀M' W',MFr M1 M' W W'->W'.cell? ⟨g,i*3,none⟩=some (vI u.kind)/\W'.cell? ⟨g,i*3+1,none⟩=some (vI u.n)/\W'.cell? ⟨g,i*3+2,none⟩=some (.string u.s)from
  λi u hu=>by
   obtain⟨g,h1,h2,h3,a0,a1,a2⟩:=iL i u hu;exact⟨g,h1,λM' W' f=>⟨((hF.trans f).cell h2 h3).trans a0,((hF.trans f).cell h2 h3).trans a1,((hF.trans f).cell h2 h3).trans a2⟩⟩)
 revert pE;exact KK.o):G:=i h
def GR{P G:Prop}(h:P)(i:Hid P->G:=by
 intro KK;obtain⟨dC,HBZ,HM,HO,HE⟩:=gq lf aR aE h.old.size aR.size;revert dC HBZ HM HO HE;exact KK.o):G:=i h
def V8{P G:Prop}(h:P)(i:Hid P->G:=by
 intro KK;obtain⟨r1,bB⟩:∃r1,r1=V (o.nt C.N) sc fr s:=⟨_,rfl⟩
 have bG:=lh (co.from aE hI hA hb hs wo mo (aJ.kid ir) (hf.kid ir));have am:=(hV (o.nt C.N) sc fr s _ wo mo hI hA hb hs).1;revert r1 bB bG am;exact KK.o):G:=i h
def Aan{P G:Prop}(h:P)(i:Hid P->G:=by
 intro KK;have aw:kW w7 ((w7.alloc (.cells #[vP x.b] 22)).alloc (.cells #[vI 39,.string s,vI 0,.slice (some ⟨w7.heap.size,0,none⟩) 1 1] 28)):=ai.alloc Qm _;refine(wj (w7.alloc (.cells #[vP x.b] 22)) rb 39 s (some ⟨w7.heap.size,0,none⟩) 1 1).mono ?_;rintro e dx⟨rfl,da⟩;have hA:Got w6.drew B dx (.mk (w7.heap.size+1) (.slice (some ⟨w7.heap.size,0,none⟩) 1 1) 39 s 0 [x]) (.mk 39 s 0 [t]):=Sv
 revert aw dx da hA;exact KK.o):G:=i h
def Wu{P G:Prop}(h:P)(i:Hid P->G:=by
 intro KK;have jE:(w.alloc (.cells #[vI vk,vI vn,.string vs] 71)).cell? ⟨L.sb m,1,none⟩=some (vI s.object):=by have:=(h1.scp m s hm).1;simp[vC,World.cell?,this]
 revert jE;exact KK.o):G:=i h
def UM{P G:Prop}(h:P)(i:Hid P->G:=by
 intro KK;have mz:w3.frozen? ⟨nb,3,none⟩=false:=QN
 have dm:nb<w3.heap.size:=(Array.getElem?_eq_some_iff.1 ac).1;revert mz dm;exact KK.o):G:=i h
def YB{P G:Prop}(h:P)(i:Hid P->G:=by
 intro KK;refine HN.o.mono ?_;rintro e wn⟨rfl,jA⟩;have bo:kW w4 wn:=by rw[jA];exact ai.alloc Qm _
 have ba:(w4.alloc (.cells #[vP xb,vP y.b] 22)).heap.size=sb+1:=by rw[cD.o];simp
 revert wn jA bo ba;exact KK.o):G:=i h
def Acp{P G:Prop}(h:P)(i:Hid P->G:=by
 intro KK;have aq:∀W M',MFr M M' z W->vC W w.heap.size 0 (.bool fr.strict)/\vC W w.heap.size 1 (vI fr.vars)/\vC W a.b 3 (.slice (some ⟨kg,0,none⟩) 1 kc)/\vC W kg 0 (vP o.b):=λW M' f=>
  have g:MFr M M' w W:=(MFr.of_below aR).trans f;⟨(lf.fr f).cell rfl,(lf.fr f).cell rfl,(g.cell bT hf.blk).trans c3,(g.cell aY eZ).trans k0⟩
 revert aq;exact KK.o):G:=i h
def U9{P G:Prop}(h:P)(i:Hid P->G:=by
 intro KK;try simp only[Act.put,zA,zB,zC]
 refine oK (λK hK=>?_);revert K hK;exact KK.o):G:=i h
def AcH{P G:Prop}(h:P)(i:Hid P->G:=by
 intro KK;refine o4 [(true,0),(true,1),(true,2),(true,3),(true,4),(true,5),(true,6),(true,7),(true,8)] [9] (λW=>vC W (w.heap.size+1+1+1) 0 (vI k1)/\vC W (w.heap.size+1+1+1) 1 (vI n1)/\vC W (w.heap.size+1+1+1) 2 (.string t1)/\vC W a.b 1 (.string a.text)) (HS20.o _ _ (.drew (.refl _ _))) (λbw=>?_);refine pU ?_;refine Z1 ?_;revert bw;exact KK.o):G:=i h
def SR{P G:Prop}(h:P)(i:Hid P->G:=by
 intro KK;obtain⟨q,hq⟩:∃q,q=a.kids.length:=⟨_,rfl⟩
 obtain⟨pp,cp,ch,bq,d7,cW⟩:=lL.slice aJ.rowOf;revert q hq pp cp ch bq d7 cW;exact KK.o):G:=i h
def zD{P G:Prop}(h:P)(i:Hid P->G:=by
 intro KK;simp only[ag];refine pU ?_;refine Z1 ?_;exact KK.o):G:=i h
def UN{P G:Prop}(h:P)(i:Hid P->G:=by
 intro KK;obtain⟨m0,m1,m2,-,-,-⟩:=(bR.o.fr bc.o).six;obtain⟨q0,q1,q2,z0,z1,z2⟩:=(HLR.o.fr bc.o).six;revert m0 m1 m2 q0 q1 q2 z0 z1 z2;exact KK.o):G:=i h
def XQ{P G:Prop}(h:P)(i:Hid P->G:=by
 intro KK;have ac:=N.o.at'.blkOf;simp only[ATree.b,ATree.v,ATree.kind,ATree.text,ATree.n]at ac;revert ac;exact KK.o):G:=i h
def Zrx{P G:Prop}(h:P)(i:Hid P->G:=by
 intro KK;refine(bE.o w1 eK.o).mono ?_;rintro e w2⟨rfl,ar⟩;have fp:=eK.o.below ar;have r0:=HR.o w2 fp 5 _ rfl;have r1:=HR.o w2 fp 1 (vI pk) rfl;have r2:=HR.o w2 fp 2 (vI pm) rfl;have r3:=HR.o w2 fp 3 (.string ps) rfl;revert w2 ar fp r0 r1 r2 r3;exact KK.o):G:=i h
def Zsg{P G:Prop}(h:P)(i:Hid P->G:=by
 intro KK;have F3:=FF.o.trans (RFr.below (rb:=rb) hB3);have G3:=G.o.rfr aA (RFr.below (rb:=rb) hB3);have R3:=R.o.below hB3;have P3:Pre w3 rb B d us:=⟨R3,HP.o.deep,aA,Nat.le_trans HP.o.le F3.size,Nat.le_trans hu HP.o.few⟩
 revert F3 G3 R3 P3;exact KK.o):G:=i h
def Zxt{P G:Prop}(h:P)(i:Hid P->G:=by
 intro KK;have i2:sk.steps<=20000:=i2;have gA:b<=sk.steps:=by have:=HB.o;have h2:s.steps<=sk.steps:=x1.steps;omega
 obtain⟨r3,df⟩:∃r3,r3=D (y.nt C.N) sc fr sk:=⟨_,rfl⟩
 have bS:=lh (iU.o.from bX.o i1 (gY.o.ext x1) gA i2 wy my ((eL.o.1.kid ez).bel aQ) (eL.o.2.kid ez));have am:=(HD.o (y.nt C.N) sc fr sk _ wy my (i1.less (d':=d+2*(q-(k+1))) Qe) (gY.o.ext x1) gA i2).1;revert i2 gA r3 df bS am;exact KK.o):G:=i h
def AaY{P G:Prop}(h:P)(i:Hid P->G:=by
 intro KK;have HS20:=lh (show∀W M',MFr M1 M' W1 W->vC W (w.heap.size+1+1+1) 0 (vI k1)/\vC W (w.heap.size+1+1+1) 1 (vI n1)/\vC W (w.heap.size+1+1+1) 2 (.string t1)/\vC W a.b 1 (.string a.text)from λW M' f=>have g:=rN.o W M' f;⟨g.1,g.2.1,g.2.2,(Ci.o W M' f).2.2.2.1⟩);revert HS20;exact KK.o):G:=i h
def Zvm{P G:Prop}(h:P)(i:Hid P->G:=by
 intro KK;refine HC.o.mono ?_;rintro e iV⟨rfl,eM,bg⟩;have PQ:=lh (show Pre iV rb B d us.tail/\us.tail.length<=ts.length from⟨P3.o.tail eM bg,by have:=HU.o;rw[List.length_tail];omega⟩);have GQ:=lh (G3.o.rfr aA bg);have FQ:=lh (F3.o.trans bg);have PL:=lh (show us.tail.length<=us.length by rw[List.length_tail];omega);have ac:=GQ.o.at'.blkOf;simp only[ATree.b,ATree.v,ATree.kind,ATree.text,ATree.n]at ac;revert iV eM bg PQ GQ FQ PL ac;exact KK.o):G:=i h
def Zuz{P G:Prop}(h:P)(i:Hid P->G:=by
 intro KK;refine rO.o.mono ?_;rintro e w3⟨rfl,bo⟩;have fq:kW w2 w3:=(Below.refl w2.heap.size w2).drew.trans bo;obtain⟨r0,r1,r3,u0,u1,gI,mt⟩:=cP.o w3 fq;obtain⟨ep,gZ,mu⟩:=ds fq gI mt;clear bo fq gI mt;revert w3 r0 r1 r3 u0 u1 ep gZ mu;exact KK.o):G:=i h
def Zm3{P G:Prop}(h:P)(i:Hid P->G:=by
 intro KK;have jv:vP (w7.heap.size+1)=(vP a.b):=by rw[ha];rfl
 revert jv;exact KK.o):G:=i h
def Zr9{P G:Prop}(h:P)(i:Hid P->G:=by
 intro KK;have am:=Got.push aA HP.o.le N3.o (wA:=w6.drew) NA.o A3.o jD.o R3.o ((Below.refl _ _).alloc (Nat.le_refl _) _) aB aU (bV.imp id λh=>by omega) ca;have ct:=lh am;clear am;refine Z1 ?_;revert ct;exact KK.o):G:=i h
def Zwn{P G:Prop}(h:P)(i:Hid P->G:=by
 intro KK;refine o4 [(true,0),(true,1),(true,2),(true,3),(true,5),(true,6),(true,7),(true,8),(true,9),(false,4)] [10,11] (λW=>vC W p1 0 (vI k1)/\vC W p1 1 (vI n1)/\vC W p1 2 (.string t1)/\vC W a.b 0 (vI 25)) (ed.o _ _ (.drew (.refl _ _))) (λbw=>?_);revert bw;exact KK.o):G:=i h
def Zv7{P G:Prop}(h:P)(i:Hid P->G:=by
 intro KK;refine o4 [(true,0),(true,1),(true,2),(true,3),(true,5),(true,6),(true,7),(true,8),(true,9),(false,4)] [10,11] (λW=>vC W p1 0 (vI k1)/\vC W p1 1 (vI n1)/\vC W p1 2 (.string t1)/\vC W a.b 0 (vI 26)) (ed.o _ _ (.drew (.refl _ _))) (λbw=>?_);revert bw;exact KK.o):G:=i h
def Zwg{P G:Prop}(h:P)(i:Hid P->G:=by
 intro KK;refine o4 [(true,0),(true,1),(true,2),(true,3),(true,4),(true,5),(true,6),(false,7),(true,8),(true,9),(true,10)] [11,12,13] (λW=>vC W w.heap.size 0 (.bool fr.strict)/\vC W w.heap.size 1 (vI fr.vars)/\vC W a.b 3 (.slice pp q cp)) (uT.o _ _ (.drew (.refl _ _))) (λbw=>?_);revert bw;exact KK.o):G:=i h
def XF{P G:Prop}(h:P)(i:Hid P->G:=by
 intro KK;obtain⟨R,aS⟩:∃R,R=D7 V D fu (a.nt C.N) sc fr s:=⟨_,rfl⟩
 revert R aS;exact KK.o):G:=i h
def Zu2{P G:Prop}(h:P)(i:Hid P->G:=by
 intro KK;refine Ze (λK hK=>?_);go_simp
 refine hK _ _ ⟨(Zb aM).trans d2,(Zb hs).trans q0,(Zb hs).trans q1,(Zb hs).trans q2⟩ ?_;clear hK K;refine Ze (λK hK=>?_);revert K hK;exact KK.o):G:=i h
def Zmy{P G:Prop}(h:P)(i:Hid P->G:=by
 intro KK;have fT:(w7.alloc (.cells #[vP x.b] 22)).heap.size=w7.heap.size+1:=Qm
 revert fT;exact KK.o):G:=i h
def Zvo{P G:Prop}(h:P)(i:Hid P->G:=by
 intro KK;have eY:=lh fQ;refine(HV.o g Qe w6.drew rb B d _ _ P7 hv).mono ?_;rintro e w7⟨x,rfl,hX,lZ,dM⟩;have eN:RFr w6 w7 rb:=(RFr.refl w6 rb).drew.trans dM;have kM:=G6.o.rfr aA eN;have ac:=kM.at'.blkOf;simp only[ATree.b,ATree.v,ATree.kind,ATree.text,ATree.n]at ac;have m3:w7.cell? ⟨nb,3,none⟩=some (.slice p kids.length cp):=Qk
 refine hK _ _ m3 ?_;revert eY w7 x hX lZ dM eN kM ac m3;exact KK.o):G:=i h
def Zob{P G:Prop}(h:P)(i:Hid P->G:=by
 intro KK;have bT:=ha.lt;have hob:=(ha.kid ir).lt;have mv:=hf.kid ir;have qZ:=(ha.kid ir).c0;have q8:=(ha.kid ir).c1;have c0:=(aR.cell bT).trans ha.c0;revert bT hob mv qZ q8 c0;exact KK.o):G:=i h
def Xp{P G:Prop}(h:P)(i:Hid P->G:=by
 intro KK;have he:ax C M1 W1 x1 bQ:=ai.1.2.2;have au:=lh ai;have hR:=HR.o;revert he au hR;exact KK.o):G:=i h
def Zri{P G:Prop}(h:P)(i:Hid P->G:=by
 intro KK;refine HC.o.mono ?_;rintro e w3⟨x,rfl,hX,bI,bh⟩;obtain⟨P3,F3,X3⟩:=ds (P2.o.next bI bh fP.o) (F2.o.trans bh) (hX.pre F2.o);obtain⟨xb,g9⟩:∃b,b=x.b:=⟨_,rfl⟩
 have oX:=lh g9;revert w3 x hX bI bh P3 F3 X3 xb g9 oX;exact KK.o):G:=i h
def Zyc{P G:Prop}(h:P)(i:Hid P->G:=by
 intro KK;have HZ:=lh (show z=_ from hz.trans (by rw[aC]));have cX:vC z 0 0 (ql C.eb):=(aE.old.cell hC.stopB).trans hC.stop;have dv:decide (20000<s.steps+1)=true:=decide_eq_true Qe;obtain⟨HLR,HFz,bR⟩:=ds lr eJ ln;have Cj:=Nat.lt_of_lt_of_le hC.stopB h.old.size;have HM:=lh aE;obtain⟨m0,m1,m2,-,-,-⟩:=ln.six;obtain⟨q0,q1,q2,z0,z1,z2⟩:=(HLR.o.fr (.refl _ _)).six;revert HZ cX dv HLR HFz bR Cj HM m0 m1 m2 q0 q1 q2 z0 z1 z2;exact KK.o):G:=i h
def Zt8{P G:Prop}(h:P)(i:Hid P->G:=by
 intro KK;have hR:=aS.trans (Zn3 (fr:=fr) (sc:=sc) (V:=V) (D:=D) (f:=fu) (n:=a.nt C.N) hs (by rw[Za,hk];simp) (by rw[Za,hk];exact λh2=>absurd h2 Qg));revert hR;exact KK.o):G:=i h
def Zp2{P G:Prop}(h:P)(i:Hid P->G:=by
 intro KK;obtain⟨M0,w2,cw,fC,cj⟩:∃M0 w2,MAt C M0 w2 so/\MFr M M0 z w2/\w2=z:=⟨M,z,by rw[yz.o];exact HM.o,.refl _ _,rfl⟩
 revert M0 w2 cw fC cj;exact KK.o):G:=i h
def Zru{P G:Prop}(h:P)(i:Hid P->G:=by
 intro KK;refine HA.o.mono ?_;rintro e w1⟨rfl,hB⟩;obtain⟨q0,hs,dn⟩:=Zmb hB;have eU:=HH.o.below hB;obtain⟨d1,d2,z2,aM,rc⟩:=HF.o w1 eU;have eK:=lh eU;have au:=lh dn;clear hB dn eU rc;revert w1 q0 hs d1 d2 z2 aM eK au;exact KK.o):G:=i h
def Zyx{P G:Prop}(h:P)(i:Hid P->G:=by
 intro KK;refine(bS.o _ (Zd _)).mono ?_;rintro e W3⟨M3,b3,k3,n3,t3,fj,rfl,bo⟩;have F3:=(MFr.drew (.refl M1 W2)).trans bo.2.1;refine hK _ _ (oY.o _ _ F3) ?_;have HB3:=lh bo;have bP:=lh (bc.o.trans F3);clear bo F3;revert W3 M3 b3 k3 n3 t3 fj HB3 bP;exact KK.o):G:=i h
def Zzk{P G:Prop}(h:P)(i:Hid P->G:=by
 intro KK;have c3:w1.cell? ⟨a.b,3,none⟩=some (.slice p a.kids.length cp):=Qk
 have aG:a.kids.length<=9223372036854775807:=by
  rcases Z4 ae with⟨h1,h2⟩|⟨g0,gB,h1,k1,k2,k3⟩;·omega
  .unfold maxLen at k2;omega
 have eF:=lh fX;have HV:=lh hv;obtain⟨n,hn⟩:∃n,n=a.kids.length:=⟨_,rfl⟩
 revert c3 aG eF HV n hn;exact KK.o):G:=i h
def Zxe{P G:Prop}(h:P)(i:Hid P->G:=by
 intro KK;obtain⟨i0,hi,aC,bj,bJ⟩:=info_parts To;have ac:=hT.blkOf;have ae:=hT.rowOf;obtain⟨p,cp,hv,bq⟩:∃p cp,a.v=.slice p a.kids.length cp/\a.kids.length<=cp:=by
  exact Acn
 have c3:w.cell? ⟨a.b,3,none⟩=some (.slice p a.kids.length cp):=by rw[<-hv];simp[vC,World.cell?,ac]
 have aG:a.kids.length<=9223372036854775807:=Qe
 have HT:=lh hT;have HV:=lh hv;revert i0 hi aC bj bJ ac ae p cp hv bq c3 aG HT HV;exact KK.o):G:=i h
def Ztu{P G:Prop}(h:P)(i:Hid P->G:=by
 intro KK;have aV:y∈P:=List.mem_of_getElem? hy;have bM:=nr.o y aV;have cx:=(HFk.o.nodes N5.o kN.o).cell rfl hy;have HFz:=lh ((MFr.of_below (M:=M1) gZ.o).trans HFk.o);revert aV bM cx HFz;exact KK.o):G:=i h
def Tu{P G:Prop}(h:P)(i:Hid P->G:=by
 intro KK;obtain⟨N3,A3,R3⟩:=ds fL hA bI;revert N3 A3 R3;exact KK.o):G:=i h
def Zvs{P G:Prop}(h:P)(i:Hid P->G:=by
 intro KK;refine Z9 [(true,0),(true,1),(true,2),(true,3),(true,4),(true,5),(true,6),(true,7),(true,8),(true,9),(false,10),(true,11)] [12] (λW=>vC W C.mb 10 (vI 0)) Qh Qh (λc a d v w h=>fE.o _ c a d v w h) kO (λbw=>?_);revert bw;exact KK.o):G:=i h
def Ab8{P G:Prop}(h:P)(i:Hid P->G:=by
 intro KK;refine HC.o.mono ?_;rintro e w3⟨a,rfl,hG,hR,hF⟩;have HE:=lh (Zdh w w3 rb B d vs a t r (P2.o.next hR hF fP.o) (hG.pre F2.o) (F2.o.trans hF) eY.o);clear hG hR hF;revert w3 a HE;exact KK.o):G:=i h
def Zvj{P G:Prop}(h:P)(i:Hid P->G:=by
 intro KK;have c3:=bU.o.cell 3 (vI 0) Qq;have c4:=bU.o.cell 4 (.string ⟨#[]⟩) Qq;have c5:=bU.o.cell 5 (vI s9.steps) Qq;have c2:=bU.o.rcell 0 Qg;have c6:=bU.o.rcell 1 Qg;have y3:=bU.o.fz 3;obtain⟨C2,C4,C5,C6,C3⟩:=gq c2 c4 c5 c6 c3;revert c3 c4 c5 c2 c6 y3 C2 C4 C5 C6 C3;exact KK.o):G:=i h
def Zy3{P G:Prop}(h:P)(i:Hid P->G:=by
 intro KK;have c1:w1.cell? ⟨pb,0,none⟩=some (.pointer none):=by simp[vC,World.cell?,b1]
 have c2:w1.cell? ⟨eb,0,none⟩=some .nilIface:=by simp[vC,World.cell?,b2]
 have z1:w1.frozen? ⟨pb,0,none⟩=false:=by simp[World.frozen?,b1]
 have z2:w1.frozen? ⟨eb,0,none⟩=false:=by simp[World.frozen?,b2]
 revert c1 c2 z1 z2;exact KK.o):G:=i h
def WZ{P G:Prop}(h:P)(i:Hid P->G:=by
 intro KK;have HY:=lh (re.o y (List.mem_of_getElem? Hy.o));have tj:=lh (bc.o.tree HY.o.1 HY.o.2);have bS:=lh (iU.o.from bU.o eF.o (gY.o.ext lq.o) (Int.le_trans HB.o lq.o.steps) mw.o (xD.o y (List.mem_of_getElem? Hy.o)).1 (xD.o y (List.mem_of_getElem? Hy.o)).2 tj.o.1 tj.o.2);revert HY tj bS;exact KK.o):G:=i h
def Zwu{P G:Prop}(h:P)(i:Hid P->G:=by
 intro KK;refine o4 [(true,0),(true,1),(true,2),(true,3),(true,4),(true,5),(true,6),(true,7),(true,8),(true,9),(true,10)] [11,12,13,14,15] (λW=>vC W a.b 1 (.string a.text)) (HS.o _ _ (.drew (.of_below au.o))) (λbw=>?_);refine pU ?_;refine Z1 ?_;revert bw;exact KK.o):G:=i h
def Zx2{P G:Prop}(h:P)(i:Hid P->G:=by
 intro KK;refine calls_of_wp (c:=ll []) func145 Zrb ?_;simp only[ntmps145,List.size_toArray,List.length_cons,List.length_nil,Nat.reduceAdd,Nat.reduceSub,Array.replicate_succ,Array.replicate_zero,List.push_toArray,List.append_toArray,List.nil_append,List.cons_append];exact KK.o):G:=i h
def Zv0{P G:Prop}(h:P)(i:Hid P->G:=by
 intro KK;have ac:=kM.at'.blkOf;simp only[ATree.b,ATree.v,ATree.kind,ATree.text,ATree.n]at ac;revert ac;exact KK.o):G:=i h
def Zkh{P G:Prop}(h:P)(i:Hid P->G:=by
 intro KK;have dy:=Xe text aA HT.o;have cB:=dy.1;have aT:=dy.2.1;clear dy;revert cB aT;exact KK.o):G:=i h
def Tq{P G:Prop}(h:P)(i:Hid P->G:=by
 intro KK;refine HT.o.mono ?_;rintro e w2⟨rfl,an,ap⟩;revert w2 an ap;exact KK.o):G:=i h
def Zvv{P G:Prop}(h:P)(i:Hid P->G:=by
 intro KK;have aH:vs.ownBlock≠some hb:=λe=>HR.o hb e rfl;obtain⟨k1,k2,k3,k4,k5,k6,k7,k8,k9,jF⟩:=Z4d (.slice (some ⟨g,0,none⟩) (n+1) cap) hA HG.o cA aH iG;have hv:=HV.o;have yD:∀g',vs.ownBlock=some g'->g'<w.heap.size:=HL.o;have gJ:g≠hb:=by
  rcases HT.o with h|h;·exact HR.o g h
  .omega
 have h:=HH.o;revert aH k1 k2 k3 k4 k5 k6 k7 k8 k9 jF hv yD gJ h;exact KK.o):G:=i h
def Zsn{P G:Prop}(h:P)(i:Hid P->G:=by
 intro KK;refine leaves_cons (f:=12) (args:=#[vP pb,vP eb]) Qm (by simp[go_sem]) ?_;exact KK.o):G:=i h
def Zxr{P G:Prop}(h:P)(i:Hid P->G:=by
 intro KK;refine HF.o.mono ?_;rintro e w1⟨rfl,hB⟩;simp only[BV];have q0:=TA hB 0 (vI 0) rfl;have q1:=TA hB 1 (vI 0) rfl;have q2:=TA hB 2 (.string ⟨#[]⟩) rfl;have f0:=Z1k hB 0;have f1:=Z1k hB 1;have f2:=Z1k hB 2;have hs:=Z5s hB;revert w1 hB q0 q1 q2 f0 f1 f2 hs;exact KK.o):G:=i h
def Pq{P G:Prop}(h:P)(i:Hid P->G:=by
 intro KK;have aE:=h.below aR;have aJ:=ha.bel aR;revert aE aJ;exact KK.o):G:=i h
def Zya{P G:Prop}(h:P)(i:Hid P->G:=by
 intro KK;refine v7 (.take 0 (.take 1 (.take 2 (.take 3 (.go 4 (.go 5 .nil)))))) 4 (λW=>vC W p1 0 (vI k1)/\vC W p1 1 (vI n1)/\vC W p1 2 (.string t1)) ⟨b0,b1,b2⟩ ?_;refine ra ?_;exact KK.o):G:=i h
def Zov{P G:Prop}(h:P)(i:Hid P->G:=by
 intro KK;have HQ:=lh hq;have yE:q+1<=9223372036854775807:=Qe
 obtain⟨tx,be⟩:∃t,t=a.text:=⟨_,rfl⟩
 revert HQ yE tx be;exact KK.o):G:=i h
def Zvn{P G:Prop}(h:P)(i:Hid P->G:=by
 intro KK;refine v7 (.take 0 (.take 1 (.take 2 (.take 3 (.go 4 (.go 5 .nil)))))) 4 (λW=>vC W p1 0 (vI kk)/\vC W p1 1 (vI nk)/\vC W p1 2 (.string tk)) ⟨b0,b1,b2⟩ ?_;refine ra ?_;exact KK.o):G:=i h
def Zmd{P G:Prop}(h:P)(i:Hid P->G:=by
 intro KK;rintro e w1⟨rfl,aQ⟩;obtain⟨q0,q1,q2,z0,z1,z2⟩:=(HLR.o.bel aQ).six;have au:=lh aQ;clear aQ;revert w1 q0 q1 q2 z0 z1 z2 au;exact KK.o):G:=i h
def Xr{P G:Prop}(h:P)(i:Hid P->G:=by
 intro KK;have g:MFr M M' w W:=(MFr.of_below aR).trans f;revert g;exact KK.o):G:=i h
def Zo7{P G:Prop}(h:P)(i:Hid P->G:=by
 intro KK;refine(gy.o w3 mu.o).mono ?_;rintro e w9⟨rfl,ew⟩;have ea:=lh ((gZ.o).trans (ew.mono (gZ.o).size));revert w9 ew ea;exact KK.o):G:=i h
def Zum{P G:Prop}(h:P)(i:Hid P->G:=by
 intro KK;refine(gy.o w2 gz.o).mono ?_;rintro e w9⟨rfl,ew⟩;have ea:=lh ((fc.o).trans (ew.mono (fc.o).size));revert w9 ew ea;exact KK.o):G:=i h
def Zvc{P G:Prop}(h:P)(i:Hid P->G:=by
 intro KK;obtain⟨r1,bB⟩:∃r1,r1=V (x.nt C.N) sc fr s1:=⟨_,rfl⟩
 have bG:=lh (λW (hB:kW zv W)=>co.from aE fM (hA.ext dL) ai ja wx mx (aJ.kid dY) (bz.kid dY) W (eD.trans (hB.mono eD.size)));have am:=(hV (x.nt C.N) sc fr s1 _ wx mx fM (hA.ext dL) ai ja).1;revert r1 bB bG am;exact KK.o):G:=i h
def Zsu{P G:Prop}(h:P)(i:Hid P->G:=by
 intro KK;rintro e wf⟨rfl,kP⟩;obtain⟨N,PQ,FQ⟩:=ds (N.o.rfr aA (RFr.below (rb:=rb) kP)) (PQ.o.below kP) (FQ.o.trans (RFr.below (rb:=rb) kP));revert wf kP N PQ FQ;exact KK.o):G:=i h
def Zk5{P G:Prop}(h:P)(i:Hid P->G:=by
 intro KK;obtain⟨R,hR⟩:∃R,R=EG V D (a.nt C.N) sc fr s:=⟨_,rfl⟩
 revert R hR;exact KK.o):G:=i h
def Zvf{P G:Prop}(h:P)(i:Hid P->G:=by
 intro KK;have DI:=(ar.frozen (p:=⟨w.heap.size,0,none⟩) hs).trans f0;have DJ:=(ar.frozen (p:=⟨w.heap.size,1,none⟩) hs).trans f1;have DK:=(ar.frozen (p:=⟨w.heap.size,2,none⟩) hs).trans f2;have dT:=Nat.lt_of_lt_of_le hs ar.size;have aP:=lh (HB.o.trans (ar.mono (Nat.le_of_lt hs)));revert DI DJ DK dT aP;exact KK.o):G:=i h
def Zz5{P G:Prop}(h:P)(i:Hid P->G:=by
 intro KK;refine Ze (λK hK=>?_);go_simp
 refine hK _ _ ((Zb cG).trans t3) ?_;clear hK K;exact KK.o):G:=i h
def Zwe{P G:Prop}(h:P)(i:Hid P->G:=by
 intro KK;have hF:=λ(w':kV) (h:TreeAt w' B0 a)=>ZZ w' B0 a h Qe;have hL:=λ(w':kV) (h:TreeAt w' B0 a)=>YR w' B0 a h Qe;obtain⟨P,hP⟩:∃P,P=a.kids.filter xp:=⟨_,rfl⟩
 obtain⟨Q,hQ⟩:∃Q,Q=a.kids.filter vV:=⟨_,rfl⟩
 revert hF hL P hP Q hQ;exact KK.o):G:=i h
def Zwp{P G:Prop}(h:P)(i:Hid P->G:=by
 intro KK;refine HC.o.mono ?_;rintro e w1⟨rfl,fX⟩;have nu:=HT.o _ _ fX;have ac:=nu.blkOf;have ae:=nu.rowOf;obtain⟨p,cp,hv⟩:∃p cp,a.v=.slice p a.kids.length cp:=by
  rcases Z4 ae with⟨h1,h2⟩|⟨g0,gB,h1,_⟩;·exact⟨none,0,by rw[h1,h2]⟩
  .exact⟨_,_,h1⟩
 revert w1 fX nu ac ae p cp hv;exact KK.o):G:=i h
def Zyh{P G:Prop}(h:P)(i:Hid P->G:=by
 intro KK;have aA:=HP.o.lt;obtain⟨F2,G2,R2⟩:=ds (FF.o.trans (RFr.below (rb:=rb) ar)) (G.o.rfr aA (RFr.below (rb:=rb) ar)) (R.o.below ar);have ac:=G2.o.at'.blkOf;have ae:=G2.o.at'.rowOf;simp only[ATree.b,ATree.v,ATree.kind,ATree.text,ATree.n,ATree.kids]at ac ae;revert aA F2 G2 R2 ac ae;exact KK.o):G:=i h
def Zrh{P G:Prop}(h:P)(i:Hid P->G:=by
 intro KK;refine HT.o.mono ?_;rintro e wf⟨rfl,hRf,hFf⟩;obtain⟨N,PQ,FQ⟩:=ds (N.o.rfr aA hFf) (PQ.o.tail hRf hFf) (FQ.o.trans hFf);clear hRf hFf;revert wf N PQ FQ;exact KK.o):G:=i h
def Zqi{P G:Prop}(h:P)(i:Hid P->G:=by
 intro KK;refine Ze (λK hK=>?_);go_simp
 have P7:Pre wf.drew rb B d _:=PQ.o.below (Below.refl _ _).drew;revert K hK P7;exact KK.o):G:=i h
def Zqr{P G:Prop}(h:P)(i:Hid P->G:=by
 intro KK;have t0:=h.hd (j:=0) rfl;have t1:=h.hd (j:=1) rfl;have t2:=h.hd (j:=2) rfl;have t3:=h.hd (j:=3) rfl;revert t0 t1 t2 t3;exact KK.o):G:=i h
def Xi{P G:Prop}(h:P)(i:Hid P->G:=by
 intro KK;obtain⟨q0,q1,q2,z0,z1,z2⟩:=(HLR.o.fr bP.o).six;revert q0 q1 q2 z0 z1 z2;exact KK.o):G:=i h
def Zon{P G:Prop}(h:P)(i:Hid P->G:=by
 intro KK;have m3:dx.cell? ⟨nb,3,none⟩=some (.slice p kids.length cp):=Qk
 revert m3;exact KK.o):G:=i h
def WM{P G:Prop}(h:P)(i:Hid P->G:=by
 intro KK;have aI:=lh aD;have ao:=Zoq w B a st ins h.t;revert aI ao;exact KK.o):G:=i h
def Zp3{P G:Prop}(h:P)(i:Hid P->G:=by
 intro KK;have hm:=h.most;have dt:=h.le;unfold maxLen at hm;obtain⟨n,hn⟩:∃n,n=ts.length:=⟨_,rfl⟩
 revert hm dt n hn;exact KK.o):G:=i h
def Zus{P G:Prop}(h:P)(i:Hid P->G:=by
 intro KK;have ht:=Zdp W1 ⟨k1,n1,t1⟩;simp only[LVal.agg]at ht;obtain⟨bt,cQ⟩:∃bt,bt=(⟨k1,n1,t1⟩:LVal).true:=⟨_,rfl⟩
 revert ht bt cQ;exact KK.o):G:=i h
def Zjy{P G:Prop}(h:P)(i:Hid P->G:=by
 intro KK;obtain⟨HC,fP,eY⟩:=ds HC (T6 hv) fQ;revert HC fP eY;exact KK.o):G:=i h
def Zzm{P G:Prop}(h:P)(i:Hid P->G:=by
 intro KK;refine o4 [(true,0),(true,1),(true,2),(true,3),(true,4),(true,5),(true,6),(true,7)] [8,9] (λW=>vC W a.b 1 (.string a.text)) (HS.o _ _ (.drew (.refl _ _))) (λbw=>?_);refine pU ?_;refine Z1 ?_;revert bw;exact KK.o):G:=i h
def Znj{P G:Prop}(h:P)(i:Hid P->G:=by
 intro KK;refine HF.o.mono ?_;rintro e w1⟨rfl,hB⟩;simp only[BV];revert w1 hB;exact KK.o):G:=i h
def Zxj{P G:Prop}(h:P)(i:Hid P->G:=by
 intro KK;have F2:=λo=>(((RFr.refl w rb).set 0 (.slice (some ⟨tb,off+4,none⟩) (n-1) (cap-1))).trans (RFr.below (rb:=rb) (hb o)));have aw:∀(W:kV) o,kW W (W.alloc o):=λW o=>(Below.refl _ _).alloc (Nat.le_refl _) o;revert F2 aw;exact KK.o):G:=i h
def Zx0{P G:Prop}(h:P)(i:Hid P->G:=by
 intro KK;simp only[ag];try simp only[Act.put,zA,zB,zC]
 iterate 4
  first
   |(refine Z4z ?_ Qt Qt (λw'=>?_) ?_;rotate_left;(go_simp;first|done|with_reducible rfl);simp only[Act.put,zA,zB,zC])
 refine oK (λK hK=>?_);revert K hK;exact KK.o):G:=i h
def Zp7{P G:Prop}(h:P)(i:Hid P->G:=by
 intro KK;have nr:=lh (show∀x∈P,x∈a.kids from λx hx=>(List.mem_filter.1 (hP▸hx)).1);revert nr;exact KK.o):G:=i h
def Zy2{P G:Prop}(h:P)(i:Hid P->G:=by
 intro KK;have ac:=G3.at'.blkOf;simp only[ATree.b,ATree.v,ATree.kind,ATree.text,ATree.n]at ac;have n3:w3.cell? ⟨nb,3,none⟩=some (.slice p kids.length cp):=Qk
 obtain⟨F3,G3,P3,HU,HL⟩:=gq F3 G3 P3 hu hl;revert ac n3 F3 G3 P3 HU HL;exact KK.o):G:=i h
def Zwx{P G:Prop}(h:P)(i:Hid P->G:=by
 intro KK;have b1:=(hB.block w.heap.size (by rw[K3.o];omega)).trans K1.o;have b2:=(hB.block (w.heap.size+1) (by rw[K3.o];omega)).trans K2.o;obtain⟨pb,jG⟩:∃b,b=w.heap.size:=⟨_,rfl⟩
 obtain⟨eb,pF⟩:∃b,b=w.heap.size+1:=⟨_,rfl⟩
 revert b1 b2 pb jG eb pF;exact KK.o):G:=i h
def Zym{P G:Prop}(h:P)(i:Hid P->G:=by
 intro KK;refine(HT.o _).mono ?_;rintro e W2⟨rfl,ar⟩;have kn:=(Zd W1).trans (ar.mono (Nat.le_refl _));refine hK _ _ (ed.o _ _ (.of_below kn)) ?_;have aP:=lh kn;obtain⟨b0,b1,b2,-⟩:=ed.o W2 M1 (.of_below kn);clear ar kn;refine Z1 ?_;revert W2 aP b0 b1 b2;exact KK.o):G:=i h
def Zv6{P G:Prop}(h:P)(i:Hid P->G:=by
 intro KK;have rf:=GQ.o.rfr aA lu;have ac:=rf.at'.blkOf;simp only[ATree.b,ATree.v,ATree.kind,ATree.text,ATree.n]at ac;have m3:wa.cell? ⟨nb,3,none⟩=some (.slice p kids.length cp):=Qk
 refine hK _ _ m3 ?_;revert rf ac m3;exact KK.o):G:=i h
def Zpc{P G:Prop}(h:P)(i:Hid P->G:=by
 intro KK;obtain⟨g,cp,bq,d7,kQ⟩:=h.first hk;have nw:=lh kQ;obtain⟨q,hq⟩:∃q,q=r.length:=⟨_,rfl⟩
 revert g cp bq d7 kQ nw q hq;exact KK.o):G:=i h
def Zv9{P G:Prop}(h:P)(i:Hid P->G:=by
 intro KK;obtain⟨HC,HG,il⟩:=ds hc hg hI;obtain⟨n,bH⟩:∃n,n=l.length:=⟨_,rfl⟩
 revert HC HG il n bH;exact KK.o):G:=i h
def Zms{P G:Prop}(h:P)(i:Hid P->G:=by
 intro KK;have ir:o∈a.kids:=QV
 have k0:=bN 0 o rfl;have c1:=ha.c1;revert ir k0 c1;exact KK.o):G:=i h
def Zz3{P G:Prop}(h:P)(i:Hid P->G:=by
 intro KK;have bo:=(((bR.o.fr (.drew (.refl M z))).apart (b':=w.heap.size+1) Qe 0 (vI 0)).apart (b':=w.heap.size+1) Qe 1 (vI 0)).apart (b':=w.heap.size+1) Qe 2 (.string ⟨#[]⟩);revert bo;exact KK.o):G:=i h
def Zt2{P G:Prop}(h:P)(i:Hid P->G:=by
 intro KK;obtain⟨g1,g2,g3⟩:=(hL.fr hF).ret (x':=(vI k)) (y':=(vI n)) (z':=.string t) hM ((MFr.of_below hz).trans hF);revert g1 g2 g3;exact KK.o):G:=i h
def Zzw{P G:Prop}(h:P)(i:Hid P->G:=by
 intro KK;refine HN.o.mono ?_;rintro e wn⟨rfl,jA⟩;have bo:kW w4 wn:=by rw[jA];exact ai.alloc Qm _
 have ba:(w4.alloc (.cells #[vP x.b] 22)).heap.size=sb+1:=by rw[cD.o];simp
 revert wn jA bo ba;exact KK.o):G:=i h
def Zw9{P G:Prop}(h:P)(i:Hid P->G:=by
 intro KK;have q0:=M5.scan.c0;have q1:=M5.scan.c1;have t0:=M5.cell 0 rfl;have t1:=M5.cell 1 rfl;have t2:=M5.cell 2 rfl;have t3:=M5.cell 3 rfl;have z0:=M5.fz 0;have z1:=M5.fz 1;have z2:=M5.fz 2;have z3:=M5.fz 3;have zs:=M5.scan.fz 1;have eh:=M5.lt;have cG:=M5.tlt;have bZ:=M5.scan.lt;revert q0 q1 t0 t1 t2 t3 z0 z1 z2 z3 zs eh cG bZ;exact KK.o):G:=i h
def Zxo{P G:Prop}(h:P)(i:Hid P->G:=by
 intro KK;have q0:=hM.scan.c0;have q1:=hM.scan.c1;have t0:=hM.cell 0 rfl;have t1:=hM.cell 1 rfl;have t2:=hM.cell 2 rfl;have t3:=hM.cell 3 rfl;have z0:=hM.fz 0;have z1:=hM.fz 1;have z2:=hM.fz 2;have z3:=hM.fz 3;have zs:=hM.scan.fz 1;have eh:=hM.lt;have cG:=hM.tlt;have bZ:=hM.scan.lt;revert q0 q1 t0 t1 t2 t3 z0 z1 z2 z3 zs eh cG bZ;exact KK.o):G:=i h
def Zv4{P G:Prop}(h:P)(i:Hid P->G:=by
 intro KK;refine bG.o.mono ?_;rintro e W1⟨M1,k1,n1,t1,bQ,rfl,ai⟩;simp only[ag];obtain⟨q0,q1,q2,z0,z1,z2⟩:=(HLR.o.fr ai.2.1).six;have au:=lh ai;clear ai;revert W1 M1 k1 n1 t1 bQ q0 q1 q2 z0 z1 z2 au;exact KK.o):G:=i h
def Ww{P G:Prop}(h:P)(i:Hid P->G:=by
 intro KK;obtain⟨kb,js,ke,ka,c1',ei,_⟩:=ao _ (Below.refl _ _);revert kb js ke ka c1' ei;exact KK.o):G:=i h
def Zw3{P G:Prop}(h:P)(i:Hid P->G:=by
 intro KK;have hl:=Z5e (text:=text) (i:=j+1) Qe;have b0:=Zi text (j:=j) (k:=j+2) (i:=0) Qe Qe;have b1:=Zi text (j:=j) (k:=j+2) (i:=1) Qe Qe;revert hl b0 b1;exact KK.o):G:=i h
def Zuy{P G:Prop}(h:P)(i:Hid P->G:=by
 intro KK;have dY:x∈a.kids:=QL
 have ez:y∈a.kids:=QL
 have k0:=bN 0 x rfl;have k1:=bN 1 y rfl;revert dY ez k0 k1;exact KK.o):G:=i h
def Zsq{P G:Prop}(h:P)(i:Hid P->G:=by
 intro KK;have fL:=kM.rfr aA (RFr.below (rb:=rb) aw);have bI:=lZ.below aw;have cI:RFr w6 dx rb:=eN.trans (RFr.below aw);revert fL bI cI;exact KK.o):G:=i h
def Xh{P G:Prop}(h:P)(i:Hid P->G:=by
 intro KK;obtain⟨hl,he⟩:=List.getElem?_eq_some_iff.1 hy;revert hl he;exact KK.o):G:=i h
def Zyy{P G:Prop}(h:P)(i:Hid P->G:=by
 intro KK;obtain⟨jD,NE,NA,fP⟩:=gp (F6.o.trans cI) aH (show∀y∈(ATree.mk nb (.slice p kids.length cp) 38 ⟨#[]⟩ 0 kids).blocks,y<w6.drew.heap.size from λy hy=>(G6.o.new y hy).2) dr;revert jD NE NA fP;exact KK.o):G:=i h
def Zui{P G:Prop}(h:P)(i:Hid P->G:=by
 intro KK;obtain⟨v,bu,be⟩:=HS.o.cell;have sv:wr.cell? ⟨w.heap.size+1,0,none⟩=some v:=by simp[vC,World.cell?,bu]
 revert v bu be sv;exact KK.o):G:=i h
def Zvp{P G:Prop}(h:P)(i:Hid P->G:=by
 intro KK;refine HC.o.mono ?_;rintro e w4⟨x,rfl,hX,hR,bg⟩;have la:=hX.pre F2.o;have lg:=F2.o.trans bg;have ai:kW w4 (w4.alloc (.cells #[vP x.b] 22)):=(Below.refl _ _).alloc (Nat.le_refl _) _;revert w4 x hX hR bg la lg ai;exact KK.o):G:=i h
def Zjv{P G:Prop}(h:P)(i:Hid P->G:=by
 intro KK;simp only[Nat.reduceEqDiff,if_true,if_false];exact KK.o):G:=i h
def Acb{P G:Prop}(h:P)(i:Hid P->G:=by
 intro KK;refine(rP.o _ (Zd _)).mono ?_;rintro e W3⟨M3,k3,n3,t3,fj,rfl,bo⟩;have F3:=(MFr.drew (.refl M1 W2)).trans bo.2.1;refine hK _ _ (iF.o _ _ F3) ?_;have HB3:=lh bo;have bP:=lh (bA.o.trans ((MFr.of_below aP.o).trans F3));clear bo F3;revert W3 M3 k3 n3 t3 fj HB3 bP;exact KK.o):G:=i h
def Zl4{P G:Prop}(h:P)(i:Hid P->G:=by
 intro KK;have an:=hR.below aw;have ap:=lg.trans (RFr.below (rb:=rb) aw);revert an ap;exact KK.o):G:=i h
def Zue{P G:Prop}(h:P)(i:Hid P->G:=by
 intro KK;refine HP.o.mono ?_;rintro e W3⟨fj,rfl,j9,hB3⟩;have hF3':MFr M1 M1 W1 W3:=(MFr.drew (.refl M1 W1)).trans (.of_below hB3);revert W3 fj j9 hB3 hF3';exact KK.o):G:=i h
def Zrd{P G:Prop}(h:P)(i:Hid P->G:=by
 intro KK;have sz:(a++s++b).size=a.size+1+b.size:=by rw[ByteArray.size_append,ByteArray.size_append,hs]
 revert sz;exact KK.o):G:=i h
def Xk{P G:Prop}(h:P)(i:Hid P->G:=by
 intro KK;obtain⟨bL,HR,HS⟩:=ds am hR aq;revert bL HR HS;exact KK.o):G:=i h
def Zoh{P G:Prop}(h:P)(i:Hid P->G:=by
 intro KK;obtain⟨q0,q1,q2,z0,z1,z2⟩:=(HLR.o.fr (bc.o.trans (.of_below hB3))).six;have HB3:=lh hB3;revert q0 q1 q2 z0 z1 z2 HB3;exact KK.o):G:=i h
def Zwi{P G:Prop}(h:P)(i:Hid P->G:=by
 intro KK;have m4:vC w4 nb 3 (.slice (some ⟨sb,0,none⟩) 1 1):=(aB.cell_far ⟨nb,3,none⟩ Qi (λe=>NE.o e.symm)).trans ((Zb dm).trans m3);revert m4;exact KK.o):G:=i h
def Zzq{P G:Prop}(h:P)(i:Hid P->G:=by
 intro KK;refine HC.o.mono ?_;rintro e w6⟨rfl,jH,fF⟩;have P6:=P5.o.tail jH fF;have F6:=F5.o.trans fF;have G6:=G5.o.rfr aA fF;have ac:=G6.at'.blkOf;simp only[ATree.b,ATree.v,ATree.kind,ATree.text,ATree.n]at ac;revert w6 jH fF P6 F6 G6 ac;exact KK.o):G:=i h
def Zxc{P G:Prop}(h:P)(i:Hid P->G:=by
 intro KK;have gP:∀g,(Value.slice p2 P.length jW).ownBlock=some g->g<w2.heap.size/\¬M1.has g:=λg hg=>⟨(World.ownsRow.lt cF g hg).2,HM.o.fresh (World.ownsRow.lt cF g hg).1⟩;revert gP;exact KK.o):G:=i h
def Zte{P G:Prop}(h:P)(i:Hid P->G:=by
 intro KK;have iS:=lh (show ax C M3 W3 x3 fj from HB3.o.2.2);revert iS;exact KK.o):G:=i h
def Zsd{P G:Prop}(h:P)(i:Hid P->G:=by
 intro KK;have nZ:=lh (show∀y∈P,Lp (y.nt C.N)from λy hy=>iM _ (List.mem_map.2 ⟨y,hy,rfl⟩));revert nZ;exact KK.o):G:=i h
def Zrz{P G:Prop}(h:P)(i:Hid P->G:=by
 intro KK;obtain⟨g1,g2,g3⟩:=(hL.fr hF).ret (x':=(vI k)) (y':=(vI n)) (z':=.string t) hM (hz.trans hF);revert g1 g2 g3;exact KK.o):G:=i h
def Zlr{P G:Prop}(h:P)(i:Hid P->G:=by
 intro KK;have e0:(a.nt C.N).kid 0=o.nt C.N:=xX (by rw[ho];rfl);revert e0;exact KK.o):G:=i h
def Zzs{P G:Prop}(h:P)(i:Hid P->G:=by
 intro KK;have iF:=lh (λW M' (f:MFr M1 M' W2 W)=>cH.o W M' ((MFr.of_below aP.o).trans f));have rP:=lh (λW (hB:kW W2 W)=>bS.o W (aP.o.trans (hB.mono aP.o.size)));revert iF rP;exact KK.o):G:=i h
def Zok{P G:Prop}(h:P)(i:Hid P->G:=by
 intro KK;intro t' ts' h';simp only[fH,Option.some.injEq,Except.ok.injEq,Prod.mk.injEq]at h';revert t' ts' h';exact KK.o):G:=i h
def Zz4{P G:Prop}(h:P)(i:Hid P->G:=by
 intro KK;rintro e w3⟨rfl,bI,bh⟩;have F3:=F2.o.trans bh;have G3:=G2.o.rfr aA bh;have ai:kW w3 (w3.alloc (.cells #[vP ab] 22)):=(Below.refl _ _).alloc (Nat.le_refl _) _;revert w3 bI bh F3 G3 ai;exact KK.o):G:=i h
def Zy7{P G:Prop}(h:P)(i:Hid P->G:=by
 intro KK;have am:=Got.push aA HP.o.le N3.o (wA:=wa) NA.o A3.o jD.o R3.o ((Below.refl _ _).alloc (Nat.le_refl _) _) aB aU (bV.imp id λh=>by omega) ca;have ct:=lh am;clear am;refine Z1 ?_;revert ct;exact KK.o):G:=i h
def Xn{P G:Prop}(h:P)(i:Hid P->G:=by
 intro KK;have fE:=lh (show∀(K:Act->kV->Prop) c a d v w,(Exit.then K Q) (.panic c) (Act.put a d v) w->(Exit.then K Q) (.panic c) a w from λK c a d v w h=>hQ c a d v w h);revert fE;exact KK.o):G:=i h
def Zj0{P G:Prop}(h:P)(i:Hid P->G:=by
 intro KK;have F3:=lh (F2.o.trans (RFr.below (rb:=rb) hB3));revert F3;exact KK.o):G:=i h
def Ztw{P G:Prop}(h:P)(i:Hid P->G:=by
 intro KK;have hq:=Td (n:=n);have l1:=Z8a (n:=n);have l2:=Z73 (n:=n);have l3:=Z6u (n:=n);revert hq l1 l2 l3;exact KK.o):G:=i h
def Zxm{P G:Prop}(h:P)(i:Hid P->G:=by
 intro KK;have gC:∀g,(Value.slice p5 P.length rg).ownBlock=some g->¬M1.has g:=λg hg=>HM.o.fresh (World.ownsRow.lt hZ g hg).1;obtain⟨m,fd⟩:∃m,m=P.length:=⟨_,rfl⟩
 revert gC m fd;exact KK.o):G:=i h
def Zzg{P G:Prop}(h:P)(i:Hid P->G:=by
 intro KK;refine⟨?_,rfl,by omega⟩;simp only[List.range_succ,List.range_zero,List.nil_append,List.map_append,List.map_cons,List.map_nil,Nat.add_zero,b0,b1];exact KK.o):G:=i h
def Zyl{P G:Prop}(h:P)(i:Hid P->G:=by
 intro KK;refine Z1 ?_;have M8:Mid w1 _ sb tb text (j+z) v l #[vI 5,.string X,vI 0,vI j]:=(M6.o.set (b:=j+z) (x:=(j:Int)+z) Qe).drew;revert M8;exact KK.o):G:=i h
def Zvz{P G:Prop}(h:P)(i:Hid P->G:=by
 intro KK;have hR:=aS.trans (Zn3 (fr:=fr) (sc:=sc) (V:=V) (D:=D) (f:=fu) (n:=a.nt C.N) hs (by rw[Zw,oZ];exact .inl rfl) (by rw[Zw,oZ];exact λ_=>rfl));revert hR;exact KK.o):G:=i h
def Zrk{P G:Prop}(h:P)(i:Hid P->G:=by
 intro KK;have n3:iV.cell? ⟨nb,3,none⟩=some (.slice p kids.length cp):=Qk
 revert n3;exact KK.o):G:=i h
def Zyz{P G:Prop}(h:P)(i:Hid P->G:=by
 intro KK;have p0:=Zq ae (g:=g0) rfl (i:=0) (x:=a0.ptr) rfl;have rQ:=jX.o a0 Qm;have hb0:=rQ.blkOf;have pG:=rQ.rowOf;have lx:=HX.o a0.tree (by rw[<-kR.o];simp[f6]);revert p0 rQ hb0 pG lx;exact KK.o):G:=i h
def Ztq{P G:Prop}(h:P)(i:Hid P->G:=by
 intro KK;obtain⟨N5,kN,iu,HQ1⟩:=gp hZ gC gD fd;have lp:m<=9223372036854775807:=Qe
 revert N5 kN iu HQ1 lp;exact KK.o):G:=i h
def Zux{P G:Prop}(h:P)(i:Hid P->G:=by
 intro KK;refine Zcn ⟨r9,kH,kI,kJ⟩ ?_ Qt;simp only[Act.put,zA,zB,zC];exact KK.o):G:=i h
def Zyt{P G:Prop}(h:P)(i:Hid P->G:=by
 intro KK;have c3:w.cell? ⟨a.b,3,none⟩=some (.slice p a.kids.length cp):=by rw[<-hv];exact hT.c3
 have aG:a.kids.length<=9223372036854775807:=by unfold maxLen at d7;omega
 revert c3 aG;exact KK.o):G:=i h
def XD{P G:Prop}(h:P)(i:Hid P->G:=by
 intro KK;have m4:vC w4 nb 3 (.slice none 0 0):=(aB.cell_far ⟨nb,3,none⟩ Qi (λe=>NE.o e.symm)).trans ((Zb dm).trans m3);revert m4;exact KK.o):G:=i h
def Ztj{P G:Prop}(h:P)(i:Hid P->G:=by
 intro KK;refine DL.o.mono ?_;rintro e W2⟨rfl,M2,aO,ap⟩;have hF:=bA.o.trans ((MFr.drew (.refl M1 W1)).trans ap);revert W2 M2 aO ap hF;exact KK.o):G:=i h
def Zzz{P G:Prop}(h:P)(i:Hid P->G:=by
 intro KK;have jX:=lh (show∀(i:Nat) (y:ATree),l[i]?=some y->z.cell? ⟨kg,i+1,none⟩=some (vP y.b)from λi y hy=>bN (i+1) y hy);revert jX;exact KK.o):G:=i h
def Zx9{P G:Prop}(h:P)(i:Hid P->G:=by
 intro KK;refine(Ic.o xn _ (Below.refl _ _)).mono ?_;rintro e w9⟨ev,rfl,he,ny⟩;obtain⟨q0,q1,q2,z0,z1,z2⟩:=(HLR.o.fr (MFr.trans (.refl _ _) (.of_below ny))).six;have ea:=lh ny;have HE:=lh he;clear ny he;revert w9 ev q0 q1 q2 z0 z1 z2 ea HE;exact KK.o):G:=i h
def Abg{P G:Prop}(h:P)(i:Hid P->G:=by
 intro KK;have HE:=Zdh w wn rb B d _ _ _ r ((P2.o.next (ts':=vs) hR bg fP.o).next an (RFr.below (rb:=rb) bo) (Nat.le_refl _)) hA ap eY.o;simp only[ATree.b]at HE;revert HE;exact KK.o):G:=i h
def Zxn{P G:Prop}(h:P)(i:Hid P->G:=by
 intro KK;have bC:∀y∈a.kids,(y.nt C.N).wf .s/\(y.nt C.N).tree.many<=1500:=λy hy=>ao (y.nt C.N) RE;revert bC;exact KK.o):G:=i h
def Zol{P G:Prop}(h:P)(i:Hid P->G:=by
 intro KK;have cA:=h.hbLt;have ey:∀b,ρ b≠none->b<w.heap.size:=h.live;revert cA ey;exact KK.o):G:=i h
def Zst{P G:Prop}(h:P)(i:Hid P->G:=by
 intro KK;have nr:=lh (show∀x∈P,x∈bd.kids from λx hx=>(List.mem_filter.1 (hP▸hx)).1);revert nr;exact KK.o):G:=i h
def Zpf{P G:Prop}(h:P)(i:Hid P->G:=by
 intro KK;refine HH.o.mono ?_;rintro e w1⟨rfl,aQ⟩;have xE:=(aQ.cell fl).trans fs;revert w1 aQ xE;exact KK.o):G:=i h
def Zqo{P G:Prop}(h:P)(i:Hid P->G:=by
 intro KK;refine HC.o.mono ?_;rintro e w3⟨rfl,bI,bh⟩;have R3:=lh bI;have F3:=lh bh;revert w3 bI bh R3 F3;exact KK.o):G:=i h
def Ab7{P G:Prop}(h:P)(i:Hid P->G:=by
 intro KK;refine pU ?_;refine Zcn (ed.o _ _ (.drew (.refl _ _))) ?_ Qt;simp only[Act.put,zA,zB,zC];refine Z1 ?_;obtain⟨q0,q1,q2,z0,z1,z2⟩:=(HLR.o.fr bA.o).six;revert q0 q1 q2 z0 z1 z2;exact KK.o):G:=i h
def WQ{P G:Prop}(h:P)(i:Hid P->G:=by
 intro KK;have aH:v.ownBlock≠some nb:=dK.1.1;have aY:kids.length=aj.length:=by
  have:=fL.tree;exact Abw
 have gK:kids.length<=4000:=Sf
 revert aH aY gK;exact KK.o):G:=i h
def Zva{P G:Prop}(h:P)(i:Hid P->G:=by
 intro KK;have dr:=T6 hv;have eY:=lh fQ;refine(HB.o wf.drew rb B d _ _ P7 hv).mono ?_;rintro e w7⟨x,rfl,hX,lZ,dM⟩;have eN:RFr wf w7 rb:=(RFr.refl wf rb).drew.trans dM;have kM:=N.o.rfr aA eN;revert dr eY w7 x hX lZ dM eN kM;exact KK.o):G:=i h
def Zty{P G:Prop}(h:P)(i:Hid P->G:=by
 intro KK;simp only[List.set_cons_zero,List.flatMap_cons,Nat.zero_mul,Nat.zero_add];exact KK.o):G:=i h
def Zvq{P G:Prop}(h:P)(i:Hid P->G:=by
 intro KK;refine Ze (λK hK=>?_);go_simp
 have hA:=Got.one (w0:=wf.drew) (w:=w7) (rb:=rb) (k:=14) (t:=⟨#[]⟩) (Nat.le_trans HP.o.le FQ.o.size) dM hX;revert K hK hA;exact KK.o):G:=i h
def Zvk{P G:Prop}(h:P)(i:Hid P->G:=by
 intro KK;refine HB.o.mono ?_;rintro e w5⟨rfl,eO⟩;have F5:=FF.o.trans (RFr.below (rb:=rb) eO);have G5:=GG.o.rfr aA (RFr.below (rb:=rb) eO);have R5:=DM.o.below eO;revert w5 eO F5 G5 R5;exact KK.o):G:=i h
def Xt{P G:Prop}(h:P)(i:Hid P->G:=by
 intro KK;refine Ze (λK hK=>?_);go_simp
 have hA:=Got.one (w0:=w6.drew) (w:=w7) (rb:=rb) (k:=39) (t:=s) (Nat.le_trans HP.o.le F6.o.size) dM hX;revert K hK hA;exact KK.o):G:=i h
def AaI{P G:Prop}(h:P)(i:Hid P->G:=by
 intro KK;have dO:=lh cT;have HX:=lh hx;have bq:n<=cp:=by
  have:=HV.o.symm.trans gr;simp only[Value.slice.injEq]at this;rw[HN.o,this.2.2];exact k1
 revert dO HX bq;exact KK.o):G:=i h
def Zt1{P G:Prop}(h:P)(i:Hid P->G:=by
 intro KK;refine Z8p Qt ?_;go_simp
 refine⟨_,_,_,_,_,rfl,?_⟩;exact KK.o):G:=i h
def Zrj{P G:Prop}(h:P)(i:Hid P->G:=by
 intro KK;have aY:kids.length=aj.length:=by
  have:=hG.tree;exact Abw
 have ft:=lh aY;revert aY ft;exact KK.o):G:=i h
def Zzb{P G:Prop}(h:P)(i:Hid P->G:=by
 intro KK;refine HC.o.mono ?_;rintro e w5⟨rfl,mB,eP⟩;obtain⟨P5,F5,G5⟩:=ds (PQ.o.1.tail mB eP) (FQ.o.trans eP) (GQ.o.rfr aA eP);clear mB eP;revert w5 P5 F5 G5;exact KK.o):G:=i h
def tq0{G:Prop}(i:G:=by
 intro cg;refine oK (λK hK=>?_);refine hK _ _ ((Zb hm4).trans s9) ?_;clear hK K;try simp only[Act.put,List.setIfInBounds_toArray]
 refine oK (λK hK=>?_);rw[IntWalk.i64_in (3+((n0:Int)+1)) Qe,IntWalk.i64_in (3+((n0:Int)+1)-1) Qe,show 3+((n0:Int)+1)-1=3+(n0:Int) by omega];refine(kZ.o _ (Z2 _ _).drew).mono ?_;rintro e w6⟨rfl,ρ',L',g1,q1⟩;have t9:vC w6 C.mb 9 (.slice (some ⟨gg,0,none⟩) (n0+1) cap):=(q1.cell 9 Qg Qg).trans ((Zb hm4).trans s9);have hma:=(H2.o.below (Z2 w4 (vO 0 0 ⟨#[]⟩))).drew;obtain⟨a1,a2⟩:=hma.heapStep g1 q1;have hL:Lo C _ w w6 w4.heap.size #[vI 0,vI 0,.string ⟨#[]⟩] 71:=
  ((Lo.new (wE:=w) H2.o (Nat.le_trans HBZ.o.size bc.o.size) HO.o _ _).fr (.drew (.refl _ _))).fr a2
 have iH:=(MFr.of_below (M:=M2) (Z2 w4 (vO 0 0 ⟨#[]⟩)).drew).trans a2;obtain⟨q0,iq,q2,z0,z1,z2⟩:=hL.six;obtain⟨v1,v2,v3,v4⟩:=hL.fill (x':=(vI 5)) (y':=(vI nO)) (z':=.string ⟨#[]⟩) a1 iH (Nat.le_refl _);have hv:SY C w M2 w4 s4 nO (((w6.setCell ⟨w4.heap.size,0,none⟩ (vI 5)).setCell ⟨w4.heap.size,1,none⟩ (vI nO)).setCell ⟨w4.heap.size,2,none⟩ (.string ⟨#[]⟩)) w4.heap.size _:=⟨by rw[HSs4.o];exact v1,v2,v3⟩
 have HV:=lh hv;refine hK _ _ t9 ?_;clear hK K hma a1 a2 g1 q1 hL iH v1 v2 v3 v4 hv;iterate 1 (refine Z4z ?_ Qt Qt (λw'=>?_) ?_;rotate_left;(go_simp;first|done|with_reducible rfl);try simp only[Act.put,List.setIfInBounds_toArray])
 refine IG (λK hK=>?_);refine hK _ _ (SH ?_);clear hK K t9 q0 iq q2 z0 z1 z2;have hv:=HV.o;clear HV;generalize((w6.setCell ⟨w4.heap.size,0,none⟩ (vI 5)).setCell ⟨w4.heap.size,1,none⟩ (vI nO)).setCell ⟨w4.heap.size,2,none⟩ (.string ⟨#[]⟩)=W2 at hv ⊢;generalize w4.heap.size=p2 at hv ⊢;obtain⟨M3,hv⟩:∃M3,SY C w M2 w4 s4 nO W2 p2 M3:=⟨_,hv⟩
 exact cg.o W2 p2 M3 hv):G:=i
def tq1{G:Prop}(i:G:=by
 intro cg;refine oK (λK hK=>?_);rw[IntWalk.i64_in (3+((n0:Int)+1)) Qe,IntWalk.i64_in (3+((n0:Int)+1)-1) Qe,show 3+((n0:Int)+1)-1=3+(n0:Int) by omega];refine(kZ.o _ (Zd _)).mono ?_;rintro e w6⟨rfl,ρ',L',g1,q1⟩;have t9:vC w6 C.mb 9 (.slice (some ⟨gg,0,none⟩) (n0+1) cap):=(q1.cell 9 Qg Qg).trans s9;obtain⟨a1,a2⟩:=H2.o.drew.heapStep g1 q1;have o5:=lh a1;have o6:=lh ((MFr.drew (.refl M2 w4)).trans a2);refine hK _ _ t9 ?_;clear hK K a1 a2 g1 q1
 iterate 1 (refine Z4z ?_ Qt Qt (λw'=>?_) ?_;rotate_left;(go_simp;first|done|with_reducible rfl);simp only[Act.put,List.setIfInBounds_toArray])
 refine oK (λK hK=>?_);refine hK _ _ ((Zb o5.o.mbLt).trans t9) ?_;clear hK K;refine IG (λK hK=>?_);refine hK _ _ (SH ?_);clear hK K t9;have hv:SY C w M2 w4 s4 nO (w6.alloc (.cells #[vI 5,vI nO,.string ⟨#[]⟩] 71)) w6.heap.size _:=
  ⟨by have:=o5.o.below (Z2 w6 (.cells #[vI 5,vI nO,.string ⟨#[]⟩] 71));rw[HSs4.o];exact this,o6.o.trans (.of_below (Z2 _ _)),Lo.new o5.o (Nat.le_trans HBZ.o.size (Nat.le_trans bc.o.size o6.o.size)) HO.o _ _⟩
 generalize w6.alloc (.cells #[vI 5,vI nO,.string ⟨#[]⟩] 71)=W2 at hv ⊢;generalize w6.heap.size=p2 at hv ⊢;obtain⟨M3,hv⟩:∃M3,SY C w M2 w4 s4 nO W2 p2 M3:=⟨_,hv⟩
 exact cg.o W2 p2 M3 hv):G:=i
def tq2{G:Prop}(i:G:=by
 go_wp2_with fail
 go_loopw [8] (λi wr=>∃(k:Nat),k<=n/\i=(vI k)/\Hid (∀x∈l.take k,g x=false)/\Hid (Inv wr)) (λi _=>n-(intOf i).toNat)
 case atStart=>exact⟨0,Nat.zero_le _,rfl,lh Qm,il⟩
 case round=>
  obtain⟨k,hk,rfl,HF,HI⟩:=hrel;clear il;by_cases bY:k<n
  .obtain⟨x,hx⟩:∃x,l[k]? =some x:=⟨_,List.getElem?_eq_getElem QA⟩
   obtain⟨b,off,hp,bu⟩:=HC.o k x hx;subst hp;have cx:=bu wr HI.o;have dO:=HG.o x (List.mem_of_getElem? hx) wr HI.o;obtain⟨vx,pH⟩:∃v,v=enc x:=⟨_,rfl⟩
   rw[<-pH]at cx dO;obtain⟨gx,xF⟩:∃v,v=g x:=⟨_,rfl⟩
   rw[<-xF]at dO;obtain⟨rR,HX,HGX⟩:=ds dO hx xF;have Id:((⟨b,off,none⟩:Addr).add k)=⟨b,off+k,none⟩:=by unfold Addr.add;split<;>simp_all
   have hkI:(k:Int)<=9223372036854775807:=Qe
   clear bu dO pH hx xF;go_wp2_with fail
   refine rR.o.mono ?_;rintro e w1⟨rfl,fX⟩;have eF:=lh fX;clear fX rR;cases gx
   .go_wp2;go_roundw
    case rel=>
     refine⟨k+1,by omega,by go_num,lh ?_,eF⟩;intro y hy;obtain⟨aY,rh⟩:=List.getElem?_eq_some_iff.1 HX.o;rw[List.take_succ_eq_append_getElem aY,List.mem_append]at hy;rcases hy with hy|hy;·exact HF.o y hy
     .simp only[List.mem_singleton]at hy;rw[hy,rh];exact HGX.o.symm
    case measure=>simp[intOf];omega
   .go_wp2;go_ret;refine⟨⟨_,rfl,?_⟩,eF.o⟩;rw[List.any_eq_true.2 ⟨x,List.mem_of_getElem? HX.o,HGX.o.symm⟩];simp
  .have aT:k=n:=by omega
   subst aT;go_wp2;go_ret;refine⟨⟨_,rfl,?_⟩,HI.o⟩;have ao:l.any g=false:=by
    rw[List.any_eq_false];intro y hy;have:=HF.o y (by rw[List.take_of_length_le Sh];exact hy);simp[this]
   rw[ao];rfl):G:=i
def tq3{G:Prop}(i:G:=by
 obtain⟨k,v,rfl,hk,rfl,TX,NO,HB⟩:=hrel;clear uU N2 aP;by_cases bY:k<m
 .obtain⟨x,hx⟩:∃x,P[k]? =some x:=⟨_,List.getElem?_eq_getElem Se⟩
  obtain⟨g0,hp⟩:∃g,p2=some ⟨g,0,none⟩:=by
   rcases NO.o.form with⟨h1,h2⟩|⟨g,cap,h1,_⟩;·rw[h2]at hx;simp at hx
   .exact WE
  subst hp;have cx:=NO.o.cell rfl hx;have eA:=(HT.o.bel HB.o).kid (qY.o x (List.mem_of_getElem? hx));have c1:=eA.c1;have ia:(xZ l0 (P.take k)).length<1099511627776:=by
   have:=Z9x l0 (P.take k);have h3:(P.take k).length<=k:=Qi
   have h4:=bX.o;omega
  have HA:=lh (Zgr wr w.heap.size v _ x.text TX.o HB.o.size ia);have HX:=lh hx;clear eA hx ia;go_wp2_with fail
  refine HA.o.mono ?_;rintro e w3⟨v3,rfl,ht3,bo,xy⟩;have hsn:xZ l0 (P.take (k+1))=lw (xZ l0 (P.take k)) x.text:=by rw[Z30 HX.o,Zc7]
  have qS:Hid (Zx w3 w.heap.size v3 (xZ l0 (P.take (k+1)))):=lh (by rw[hsn];exact ht3);exact Aar
 .have aT:k=m:=by omega
  subst aT;have bW:Zx wr w.heap.size v (xZ l0 P):=by
   have:=TX.o;rwa[List.take_of_length_le (by rw[<-bX.o];exact Nat.le_refl _)]at this
  have qS:=lh bW;have DN:=Z9x l0 P;obtain⟨l1,mC⟩:∃l,l=xZ l0 P:=⟨_,rfl⟩
  rw[<-mC]at qS DN;have jY:=lh mC;clear bW TX NO mC;go_wp2_with fail
  refine(HL.o wr (HT.o.bel HB.o)).mono ?_;rintro e w4⟨v4,rfl,uV,fq⟩;obtain⟨p4,cp4,rfl,hge4,hmx4⟩:∃p cp,v4=.slice p Q.length cp/\Q.length<=cp/\cp<=maxLen:=by
   rcases uV.form with⟨h1,h2⟩|⟨g,cap,h1,h2,h3⟩;·exact⟨none,0,by rw[h1,h2];rfl,by rw[h2];exact Nat.le_refl _,by unfold maxLen;omega⟩
   .exact⟨_,_,h1,h2,h3⟩
  have rS:=lh (qS.o.bel fq);have ep:=zT HB fq;have N4:=lh uV;obtain⟨q,cU⟩:∃q,q=Q.length:=⟨_,rfl⟩
  have nq:q<=9223372036854775807:=by unfold maxLen at hmx4;omega
  rw[<-cU]at hge4 N4 dt ⊢;have HQ1:=lh cU;clear uV fq cU qS HB;obtain⟨bb,rl⟩:∃b,b=wr.heap.size:=⟨_,rfl⟩
  rw[<-rl]at N4;clear rl;go_wp2_with fail
  go_loopw [5,30] (λv i wr=>∃(k:Nat) (v':Value),v'=v/\k<=q/\i=(vI k)/\Hid (Zx wr w.heap.size v' (xZ l1 (Q.take k)))/\Hid (lL wr bb (.slice p4 q cp4) Q)/\Hid (kW w wr)) (λ_ i _=>q-(intOf i).toNat)
  case atStart=>exact⟨0,_,rfl,Nat.zero_le _,rfl,rS,N4,ep⟩
  case round=>
   obtain⟨k,v,rfl,hk,rfl,TX,NO,HB⟩:=hrel;clear rS N4 ep;by_cases bY:k<q
   .obtain⟨x,hx⟩:∃x,Q[k]? =some x:=⟨_,List.getElem?_eq_getElem Qw⟩
    obtain⟨g0,hp⟩:∃g,p4=some ⟨g,0,none⟩:=by
     rcases NO.o.form with⟨h1,h2⟩|⟨g,cap,h1,_⟩;·rw[h2]at hx;simp at hx
     .exact WE
    subst hp;have cx:=NO.o.cell rfl hx;have eA:=(HT.o.bel HB.o).kid (kL.o x (List.mem_of_getElem? hx));have c1:=eA.c1;have ia:(xZ l1 (Q.take k)).length<1099511627776:=by
     have:=Z9x l1 (Q.take k);have h3:(Q.take k).length<=k:=Qi
     have h4:=bX.o;omega
    have HA:=lh (Zgr wr w.heap.size v _ x.text TX.o HB.o.size ia);have HX:=lh hx;clear eA hx ia;go_wp2_with fail
    refine HA.o.mono ?_;rintro e w3⟨v3,rfl,ht3,bo,xy⟩;have hsn:xZ l1 (Q.take (k+1))=lw (xZ l1 (Q.take k)) x.text:=by rw[Z30 HX.o,Zc7]
    have qS:Hid (Zx w3 w.heap.size v3 (xZ l1 (Q.take (k+1)))):=lh (by rw[hsn];exact ht3);exact Aar
   .have aT:k=q:=by omega
    subst aT;have bW:Zx wr w.heap.size v (xZ l1 Q):=by
     have:=TX.o;rwa[List.take_of_length_le QX]at this
    have Ck:=lh bW;clear bW TX;go_wp2;go_ret;rw[<-jY.o];exact⟨_,rfl,Ck.o,HB.o⟩):G:=i
def tq4{G:Prop}(i:G:=by
 refine Zol ?_;intro cA ey;refine UP ?_;intro h1 cu;refine Wu ?_;intro jE;have HC:=lh (UY h1 m (getElem?_lt hm));have HA:=lh (Vu h1 (m:Int) name);rw[eB]at HA;obtain⟨i0,hi,aC,bj,bJ⟩:=info_parts Mo;obtain⟨HH,HB,HM⟩:=ds h1 cu hm;clear h h1 cu hm eB;go_enter func60,ntmps60
 go_wp2_with fail
 refine HC.o.mono ?_;rintro e w1⟨rfl,rfl⟩;go_wp2_with fail
 refine HA.o.mono ?_;rintro e w1⟨rfl,hB⟩;obtain⟨q0,q1,q2,f0,f1,f2,hs,dn⟩:=Z' hB;have eU:=HH.o.below hB;obtain⟨ac,af⟩:=eU.scp m s HM.o;obtain⟨nv,jU⟩:∃v,v=L.nv m:=⟨_,rfl⟩
 rw[<-jU]at ac af;refine Aci ?_;clear hB dn eU ac af jU;intro aM d2 kG eK qW HO HN th au qX;go_wp2_with fail
 refine Z7 [0,2,4,6,8,10,12,14,16,18,20,22,24,26,28,31,33] [17,18,19] (λW=>vC W (L.sb m) 2 nv/\vC W w.heap.size 0 (vI vk)/\vC W w.heap.size 1 (vI vn)/\vC W w.heap.size 2 (.string vs)) ⟨d2,q0,q1,q2⟩ λ_=>?_;refine dS ?_
 iterate 15
  refine dq ?_
 refine Zu2 ?_;intro K hK;refine step_append_lies _ Qt (.tmp 40) (.tmp 51) 139 Qt 0 185 i0 _ 6 64 underlying139 hi aC bj bJ rfl Qg nv s.names.length (s.names.flatMap LBind.cells) Qt ((HO.o.alloc _).drew) ⟨w1.heap.size,0,none⟩ 1 1 (LBind.cells ⟨name,⟨vk,vn,vs⟩,kind,false⟩) Qt rfl (World.news_of_block (cs:=(LBind.cells ⟨name,⟨vk,vn,vs⟩,kind,false⟩).toArray) (t:=185) (fr:=(0,0)) (heap_alloc_new w1 _)) (by simp[LBind.cells,Value.oneCell']) Qg Qj Qe Qe (w1.heap.size+1) Qm ?_
 refine Aa5 ?_;clear hK K;intro gg cap w2 rM e2 HG HW HT uQ;go_wp2;go_ret;refine⟨rfl,?_⟩;have am:=Zhp (b:=⟨name,⟨vk,vn,vs⟩,kind,false⟩) eK.o HM.o HN.o qW.o HG.o HW.o HT.o;obtain⟨ρ',L',hA,hF⟩:=am;exact⟨ρ',L',hA,(Fr.of_below cA au.o).trans hF⟩):G:=i
def tq5{G:Prop}(i:G:=by
 go_wp2_with fail
 refine HK.o _ _ ?_;clear HK K f0 f1 y0;have pI:=lh (cH.o.box 0 (st':=true) (vr':=rm) rfl);have mn:=lh (Zdl gz.o tt.o 0 (.bool true));clear cH gz;generalize w2.setCell ⟨w.heap.size,0,none⟩ (.bool true)=W6 at pI mn ⊢;obtain⟨pb,cb,ch,bq,d7,cW⟩:=lL.slice mn.o.rowOf;obtain⟨qb,mD⟩:∃qb,qb=a.kids.length:=⟨_,rfl⟩
 rw[<-mD]at ch bq;have c3:=mn.o.c3;rw[ch]at c3;refine Aah ?_;intro py W7 oS xC lp hnm aH;rw[aH]at hnm;simp only[ATree.ptr,ATree.b]at hnm;have rT:=lh hnm;have lz:=lh (show EvS C M w true rm M W7 s by rw[oS];exact pI.o.bel py);have DO:=lh (show TreeAt W7 z.heap.size a by rw[oS];exact mn.o.bel py);have yF:=lh oS;clear ch bq d7 cW mD py oS xC hnm aH lp;refine c9 ?_;intro K HK;go_wp2_with fail
 rw[<-yF.o];refine rT.o.mono ?_;rintro e w8⟨v8,rfl,uW,pJ⟩;obtain⟨p8,n8,c8,rfl⟩:=uW.slice;obtain⟨xG,Cl,Ie⟩:=ds (lz.o.bel pJ) (DO.o.bel pJ) uW;clear pJ uW rT c3;go_wp2_with fail
 refine HK.o _ _ ?_;clear HK K;refine pT ?_;intro K HK;obtain⟨f0,f1⟩:=xG.o.lf.two;have eG:=Wp xG.o.mat HI.o sc (-1) (-3);obtain⟨nx,eC⟩:∃nx,nx=s.next:=⟨_,rfl⟩
 obtain⟨so,aW⟩:∃so,so=s.opens sc (-1) (-3):=⟨_,rfl⟩
 rw[<-eC,<-aW]at eG;have jI:=lh eG;have eH:=HI.o.opens (d:=d+13600) (outer:=sc) (object:=-1) (owner:=-3) (by have:=HA.o.lo;omega) HA.o.hi Qg Qe;have nA:=HA.o.opens eH.2;rw[<-aW]at eH;rw[<-aW,<-eC]at nA;have nj:=lh eH.1;have dW:=lh (show FAt so nx ⟨true,nx⟩from⟨nA.root,nA.lo,nA.hi,.refl,nA.lo⟩);have HBo:=lh (show b<=so.steps/\so.steps<=20000 by rw[aW];exact HB.o);have an:R=Vg D n nx ⟨true,nx⟩ so:=by rw[fY.o,eC,aW];simp[rU.o]
 have bD:=lh an;clear eG eC aW eH nA an;conv=>arg 2;whnf
 go_wp2_with fail
 refine jI.o.mono ?_;rintro e w9⟨rfl,M9,xH,mF⟩;have hS9:=xG.o.step xH mF;have ht9:=mF.tree Cl.o kN.o;obtain⟨uT,HT9,rn⟩:=ds (hS9.box 1 (x:=(vI nx)) (st':=true) (vr':=nx) rfl) (Zdl ht9.1 tt.o 1 (vI nx)) ht9.2;obtain⟨g0,g1⟩:=hS9.lf.two;have y1:=hS9.lf.fz 1;clear f0 f1 xH mF hS9 ht9;go_wp2_with fail
 refine HK.o _ _ ?_;clear HK K g0 g1 y1;generalize w9.setCell ⟨w.heap.size,1,none⟩ (vI nx)=W9 at uT HT9 ⊢;refine Zn1 (d:=d) HC.o iU.o HD.o uT.o HT9.o rn.o ip.o.1 ip.o.2.1 nj.o dW.o HBo.o.1 HBo.o.2 ⟨rfl,⟨rfl,rfl,rfl,rfl,rfl,trivial⟩,rfl⟩ (λy a' w' h1 h2 h3=>bodyPost_ret h1 h2 ?_) (λ_ _ d _ _ h=>by cases d<;>exact h);rw[bD.o,<-yG.o];exact h3):G:=i
def tq6{G:Prop}(i:G:=by
 intro m;induction m with
 |zero=>intro a h;exfalso;cases a;simp[ATree.many]at h
 |succ m ih=>
   intro a hm hT s hg w hI;obtain⟨IH,HT,HG,HM⟩:=gp ih hT hg hm;have HC:=hg a s (.self a s) w hI;rw[Z9g];unfold ATree.ptr at HC ⊢;have ko:∀(i:Nat) (k x:ATree) (s':σ),(g s a).1=true->a.kids[i]?=some k->Reach g k (oB g (a.kids.take i) (g s a).2) x s'->Reach g a s x s':=λi k x s' h1 h2 h3=>.kid h1 h2 h3;obtain⟨ok,s1,pK⟩:∃ok s1,g s a=(ok,s1):=⟨_,_,rfl⟩
   rw[pK]at HC ko ⊢;have pL:=lh ko;clear ko;have HC:=lh HC;clear ih hT hg hm hI pK;cases ok;·exact Aa9
   .simp only[if_true];go_enter func14,ntmps14
    go_wp2_with fail
    refine Zwp ?_;intro w1 fX nu ac ae p cp hv;rw[hv]at ac;refine Zzk ?_;intro c3 aG eF HV n hn;rw[<-hn]at c3 aG;have HN:=lh hn;clear fX nu ac ae hv hn HC;go_wp2_with fail
    go_loopw [19] (λi wr=>∃k:Nat,k<=n/\i=(vI k)/\Hid (Inv (oB g (a.kids.take k) s1) wr)) (λi _=>n-(intOf i).toNat)
    case atStart=>exact⟨0,Nat.zero_le _,rfl,lh (by simpa[oB]using eF.o)⟩
    case round=>
     obtain⟨k,hk,rfl,HI⟩:=hrel;by_cases bY:k<n
     .obtain⟨x,hx⟩:∃x,a.kids[k]? =some x:=⟨_,List.getElem?_eq_getElem QA⟩
      have eE:=HT.o _ _ HI.o;have ae:=eE.rowOf;rcases Z4 ae with⟨_,h2⟩|⟨g0,gB,gr,k1,k2,k3⟩;·rw[<-HN.o]at h2;omega
      have hp:p=some ⟨g0,0,none⟩:=by
       have:=HV.o.symm.trans gr;simp only[Value.slice.injEq]at this;exact this.1
      subst hp;refine SS ?_;intro cx;unfold ATree.ptr at cx;have aV:x∈a.kids:=List.mem_of_getElem? hx;have cT:=IH.o x (by have:=Z78 aV;have:=HM.o;omega) (λs w h=>(HT.o s w h).kid aV) _ (λy s' hy=>HG.o y s' (pL.o k x y s' (by first|rfl|trivial) hx hy)) _ HI.o;exact tr8
     .have aT:k=n:=by omega
      subst aT;go_wp2;go_end0
      refine⟨rfl,?_⟩;have:=HI.o;rwa[List.take_of_length_le Sh]at this):G:=i
def tq7{G:Prop}(i:G:=by
 unfold kv at HT;have HT:=lh HT;go_wp2_with fail
 refine HT.o.mono ?_;rintro e w5⟨rfl,mB,eP⟩;have P5:=PX.o.tail mB eP;have G5:=GX.o.rfr aA eP;have F5:=FX.o.trans eP;have hblk5:=G5.at'.blkOf;simp only[ATree.b,ATree.v,ATree.kind,ATree.text,ATree.n]at hblk5;have n3:w5.cell? ⟨nb,3,none⟩=some (.slice none 0 0):=by simp[vC,World.cell?,hblk5]
 obtain⟨P5,G5,F5⟩:=ds P5 G5 F5;clear mB eP hblk5 HT PX GX FX;go_wp2_with fail
 refine Z7 [0,2,4,6,8,10,13,15,17] [9,10,11] (λW=>vC W nb 3 (.slice none 0 0)) n3 λ_=>?_;refine dS ?_
 iterate 6
  refine dq ?_
 refine Ze (λK hK=>?_);go_simp
 have P6:Pre w5.drew rb B d us.tail:=P5.o.below (Below.refl _ _).drew;rcases Zg H2.o with⟨⟨c,p⟩,hv,rfl⟩|⟨t,vs,hv,gO⟩
 .refine(hV w5.drew rb B d _ _ P6 hv).mono ?_;rintro e w3⟨⟨b,rfl,h1,h2⟩,bh⟩;exact⟨rfl,mA.pre F5.o.drew (r:=.error (c,p)) ⟨⟨b,rfl,h1,h2⟩,bh⟩⟩
 .obtain rfl:=Option.some.inj gO;refine(hV w5.drew rb B d _ _ P6 hv).mono ?_;rintro e w3⟨a,rfl,hA,bI,bh⟩;have hF53:RFr w5 w3 rb:=(RFr.refl w5 rb).drew.trans bh;have fL:=G5.o.rfr aA hF53;refine ui ?_;intro ac;have m3:w3.cell? ⟨nb,3,none⟩=some (.slice none 0 0):=by simp[vC,World.cell?,ac]
  refine UM ?_;intro mz dm;have gK:([]:List ATree).length<=4000:=Qm
  have NE:Hid ((Value.slice none 0 0).ownBlock≠some nb):=lh (by simp[Value.ownBlock]);refine Tu ?_;intro N3 A3 R3;have F3:=lh (F5.o.trans hF53);refine vB ?_;intro i0 hi aC bj bJ;clear hK K hA bI bh hF53 fL ac hv gO n3;refine ub ?_;intro K hK
  refine step_append_lies _ Qt (.tmp 27) (.tmp 30) 26 Qt B 22 i0 _ 1 8 underlying26 hi aC bj bJ rfl Qg (.slice none 0 0) (([]:List ATree)).length ((([]:List ATree)).map ATree.ptr) Qt (N3.o.at'.rowOf.alloc _) ⟨w3.heap.size,0,none⟩ 1 1 [a.ptr] Qt rfl (World.news_of_block (cs:=#[a.ptr]) (t:=22) (fr:=(0,0)) (heap_alloc_new w3 _)) Qv Qg Qj Qe QW (w3.heap.size+1) Qm ?_;intro gg cap w4 aU aB bV ca
  refine XD ?_;intro m4;refine vf ?_;clear hK K;intro lX;have am:=Got.push aA HP.o.le N3.o (wA:=w5.drew) (λx hx=>(G5.o.new x hx).2) A3.o F3.o R3.o ((Below.refl _ _).alloc (Nat.le_refl _) _) aB aU (bV.imp id λh=>by omega) ca;have ct:=lh am;clear aB aU bV ca am;refine Z1 ?_;go_wp2;go_ret;exact⟨_,rfl,ct.o.1,ct.o.2.2,ct.o.2.1⟩):G:=i
def tq8{G:Prop}(i:G:=by
 refine tm8 ?_;go_wp2;refine bodyPost_ret (v:=.tuple #[.bool false,.agg #[vI 0,vI 0,.string ⟨#[]⟩],.nilIface]) ?_ rfl ?_;·exact WL
 .exact .fine' HLR.o HFz.o bU.o.drew (bc.o.trans (.drew (.refl _ _)))):G:=i
def tq9{G:Prop}(i:G:=by
 obtain⟨tb,off,cap,h⟩:=hR;have c1:=h.c1;have z1:=h.fz 1;have yH:=h.rlt;have hS:Rd (w.setCell ⟨rb,1,none⟩ (vI ((d:Int)+1))) rb ts (d+1):=⟨tb,off,cap,h.deep Qe⟩
 obtain⟨HS,HH,HC⟩:=ds hS h HC;clear h hS;unfold qH at hr;by_cases hd30:30<d+1
 .rw[if_pos hd30]at hr;obtain rfl:=Option.some.inj hr;have rV:decide ((d:Int)+1>30)=true:=by simp;omega
  have HF:=lh (UF _ rb ts (d+1) 4 HS.o);clear hr;go_enter func41,ntmps41
  go_wp2_with fail
  refine HF.o.mono ?_;rintro e w2⟨⟨b,rfl,h1,h2⟩,hB⟩;rw[World.size_setCell]at h1;refine⟨rfl,⟨b,rfl,h1,h2⟩,?_⟩;exact((RFr.refl w rb).set 1 _).trans (RFr.below hB)
 .rw[if_neg hd30]at hr;have ba:(w.setCell ⟨rb,1,none⟩ (vI ((d:Int)+1))).heap.size=w.heap.size:=World.size_setCell ..;have HX:=lh (HC.o Qe hr _ HS.o ba);have xI:=lh ba;clear ba hr;go_enter func41,ntmps41
  go_wp2_with fail
  refine HX.o.mono ?_;rcases r with⟨c,p⟩|⟨t,ts'⟩
  .rintro e w2⟨⟨b,rfl,h1,h2⟩,hF⟩;rw[xI.o]at h1;exact⟨rfl,⟨b,rfl,h1,h2⟩,((RFr.refl w rb).set 1 _).trans hF⟩
  .rintro e w2⟨a,rfl,hG,⟨If,yI,jb,h2⟩,hF⟩;have k1:=h2.c1;have kz:=h2.fz 1;obtain⟨H2,HG,HF⟩:=ds h2 hG hF;clear hG h2 hF;go_wp2;go_ret;exact⟨a,rfl,(HG.o.rfr hB ((RFr.refl w2 rb).set _ _)).pre ((RFr.refl w rb).set 1 _),⟨If,yI,jb,H2.o.deep Qe⟩,(((RFr.refl w rb).set 1 _).trans HF.o).set 1 _⟩):G:=i
def Aau{G:Prop}(i:G:=by
 obtain⟨ed,bS,io,rW⟩:=gp (λW M' (f:MFr M M' W0 W)=>HS.o W M' ((MFr.of_below kS.o).trans f)) (λW (hB:kW W0 W)=>bG.o W (kS.o.trans (hB.mono kS.o.size))) (HM.o.below kS.o) (Nat.le_trans HE.o kS.o.size)
 refine v7 (.take 0 (.take 1 (.take 2 (.take 3 (.take 4 (.take 5 (.take 6 (.take 7 (.take 8 (.two 9 (.take 10 (.take 11 (.take 12 (.go 13 (.go 14 (.go 15 (.nil))))))) 13 (.go 9 (.take 10 (.take 11 (.take 12 (.go 14 (.go 15 (.nil))))))))))))))))) 14 (λW=>vC W w.heap.size 0 (.bool fr.strict)/\vC W w.heap.size 1 (vI fr.vars)/\vC W a.b 3 (.slice (some ⟨kg,0,none⟩) 1 kc)/\vC W kg 0 (vP o.b)/\vC W o.b 0 (vI o.kind)/\vC W o.b 1 (.string o.text)) (ed.o _ _ (MFr.drew (.refl _ _))) ?_
 refine ra ?_;refine Zu ?_;apply Te (H:=sp C w M W0 r1);·exact Tm ed bS rW.o HO.o
 .exact Zy0 ed bS io rW.o HO.o
 intro W1 p1 M1 k1 n1 t1 bQ ai;have F1:=(MFr.of_below (M:=M) kS.o).trans ai.1.2.1;have bA:=lh F1;obtain⟨s1,q1⟩:=r1;cases q1 with
 |error x1=>
   refine Xp ?_;intro he au hR;simp only at hR;subst hR;obtain⟨T1,P1,rfl,hP⟩:=he.ne;have eg:=lh he;obtain⟨q0,q1,q2,z0,z1,z2⟩:=(HLR.o.fr F1).six;obtain⟨m0,m1,m2,-,-,-⟩:=(bR.o.fr F1).six;clear ai he HR F1;go_wp2;refine bodyPost_ret (v:=.tuple #[.agg #[vI 0,vI 0,.string ⟨#[]⟩],.iface T1 (.pointer P1)]) ?_ rfl ?_;·simp[results,results124,go_sem,q0,q1,q2]
   .exact .err HLR.o HBZ.o au.o.1.1 bA.o eg.o
 |ok v1=>
   obtain⟨rfl,rfl⟩:v1=⟨k1,n1,t1⟩/\bQ=.nilIface:=ai.1.2.2;have hR:=HR.o;simp only[ga]at hR;obtain⟨c0,c1,c2,-,-,-⟩:=ai.2.six;have pM:=bL.o.2.2.2.1;have bC:=Zlm ai.1.1 ⟨k1,n1,t1⟩ pM.1 pM.2.1;obtain⟨ks,bN⟩:∃ks,ks=U3 s1.H ⟨k1,n1,t1⟩:=⟨_,rfl⟩
   rw[<-bN]at bC hR;simp only[LVal.agg]at bC;have pN:=lh bC;have bX:=lh ai.1.1;have an:R=(s1,.ok ⟨4,0,ks⟩):=hR;clear ai F1 HR bC bN hR pM;subst an;go_wp2_with fail
   refine pN.o.mono ?_;rintro e W2⟨rfl,ar⟩;have aP:=lh ar;have jc:=Zba W2 ks;simp only[LVal.agg]at jc;have DP:=lh jc;clear ar jc c0 c1 c2;go_wp2_with fail
   refine DP.o.mono ?_;rintro e W3⟨rfl,hB3⟩;have eI:=aP.o.trans (hB3.mono aP.o.size);obtain⟨q0,q1,q2,z0,z1,z2⟩:=(HLR.o.fr (bA.o.trans (.of_below eI))).six;have ep:=lh eI;clear hB3 eI;go_wp2;refine bodyPost_ret (v:=.tuple #[.agg #[vI 4,vI 0,.string ks],.nilIface]) ?_ rfl ?_;·simp[results,results124,go_sem,q0,q1,q2]
   .exact .fine HLR.o HBZ.o (bX.o.below ep.o) (bA.o.trans (.of_below ep.o))):G:=i
def VZ{G:Prop}(i:G:=by
 go_enter func62,ntmps62
 go_wp2_with fail
 rw[<-lR.o];clear f5 y5 g5 d3 d0 d1 f0 f1;obtain⟨m0,m1,m2,-,-,-⟩:=(bR.o.fr lS.o).six;obtain⟨q0,q1,q2,z0,z1,z2⟩:=(HLR.o.fr lS.o).six;refine tm8 ?_;go_wp2;refine bodyPost_ret (v:=.tuple #[.bool false,.agg #[vI 0,vI 0,.string ⟨#[]⟩],.nilIface]) ?_ rfl ?_;·exact WL
 .exact .fine' HLR.o HFz.o oL.o.drew (lS.o.trans (.drew (.refl _ _)))):G:=i
def AbR{G:Prop}(i:G:=by
 have j9:ax C M3 W3 x3 fj:=bo.1.2.2;have bI:R=wt D sc fr ((l.drop (k+1)).map (ATree.nt C.N)) (s3,.error x3):=HR.o;obtain⟨T1,P1,rfl,hP⟩:=j9.ne;obtain⟨iS,dP,mG⟩:=ds j9 bI (Fin.pre ee.o.2.1 ee.o.2.2.1 bF.o);clear bo F3 j9 HR;cases b3
 .go_wp2_with fail
  refine ZY ?_;intro b0 b1 b2 q0 q1 q2 z0 pu z2 jT;refine ta ?_;have HNL:=lh (iS.o.fr (.drew (.refl _ _)));have g4:=jT.o.2.2.2 _ _ HNL.o;go_wp2_with fail
  go_roundw
  case rel=>exact⟨k+1,M3,(s3,.error x3),false,k3,n3,t3,by omega,by go_num,rfl,lh jT.o.1,lh jT.o.2.1,lh jT.o.2.2.1,lh g4,mG,dP⟩
  case measure=>simp[intOf];omega
 .go_wp2_with fail
  refine ZY ?_;intro b0 b1 b2 q0 q1 q2 z0 pu z2 jT;refine ta ?_;have HNL:=lh (iS.o.fr (.drew (.refl _ _)));have g4:=jT.o.2.2.2 _ _ HNL.o;go_wp2_with fail
  go_roundw
  case rel=>exact⟨k+1,M3,(s3,.error x3),true,k3,n3,t3,by omega,by go_num,rfl,lh jT.o.1,lh jT.o.2.1,lh jT.o.2.2.1,lh g4,mG,dP⟩
  case measure=>simp[intOf];omega):G:=i
def AbE{G:Prop}(i:G:=by
 obtain⟨k,c,hk,rfl,rfl,rfl,HK⟩:=hrel;by_cases bY:k<q
 .obtain⟨y,hy⟩:∃y,P[k]? =some y:=⟨_,List.getElem?_eq_getElem Qw⟩
  obtain⟨g0,hp⟩:=gQ.o k y hy;subst hp;have aV:=nr.o y (List.mem_of_getElem? hy);have cx:=N2.o.cell rfl hy;have c1:=(gz.o.kid aV).c1;have e9:P.drop k=y::P.drop (k+1):=by
   refine Xh ?_;intro hl he;rw[List.drop_eq_getElem_cons hl,he]
  clear aV hy;cases c
  .by_cases hs:Zh y.text Zc=true
   .have hb:(y.text.toList== [97,114,103,117,109,101,110,116,115])=true:=by rw[<-Zef,TZ,hs]
    have xz:=lh (show(o||(P.map (ATree.nt C.N)).any λk=>Zh k.text Zc)=(true||((P.drop (k+1)).map (ATree.nt C.N)).any λk=>Zh k.text Zc) by rw[HK.o,e9,List.map_cons,List.any_cons,sw,hs];rfl);clear HK hs e9;exact Aaw
   .rw[Bool.not_eq_true]at hs;have hb:(y.text.toList== [97,114,103,117,109,101,110,116,115])=false:=by rw[<-Zef,TZ,hs]
    have xz:=lh (show(o||(P.map (ATree.nt C.N)).any λk=>Zh k.text Zc)=(false||((P.drop (k+1)).map (ATree.nt C.N)).any λk=>Zh k.text Zc) by rw[HK.o,e9,List.map_cons,List.any_cons,sw,hs];rfl);clear HK hs e9;go_wp2_with fail
    go_roundw
    case rel=>exact⟨k+1,false,by omega,by first|rfl|rw[hb],by go_num,trivial,xz⟩
    case measure=>simp[intOf];omega
  .have xz:=lh (show(o||(P.map (ATree.nt C.N)).any λk=>Zh k.text Zc)=(true||((P.drop (k+1)).map (ATree.nt C.N)).any λk=>Zh k.text Zc) by rw[HK.o];simp);clear HK e9;exact Aaw
 .have aT:k=q:=by omega
  subst aT;have hR:=HK.o;rw[List.drop_eq_nil_of_le QX,List.map_nil,List.any_nil,Bool.or_false]at hR;go_wp2_with fail
  exact HKK.o _ _ ⟨rfl,⟨rfl,rfl,rfl,rfl,rfl,rfl,by rw[hR];rfl,trivial⟩,rfl⟩ aP.o):G:=i
def YD{G:Prop}(i:G:=by
 subst hr;clear h h1 hob cN hm dD aq hk hp af hv ae bz;go_enter func126,ntmps126
 go_wp2_with fail
 refine U5 ?_;intro w1 q0 q1 q2 f0 f1 f2 hs d0 d1 d2 eK HB;go_wp2_with fail
 refine Zrx ?_;intro w2 ar fp r0 r1 r2 r3;have r4:=HR.o w2 fp 4 (vI uX) rfl;have z1:=HZ.o w2 fp (k*6+1);have z2:=HZ.o w2 fp (k*6+1+1);have z3:=HZ.o w2 fp (k*6+1+2);refine Uy ?_;intro mr iq lY;have oa:=lh fp;have aP:=lh (HB.o.trans (ar.mono (Nat.le_of_lt hs)));clear ar fp q0 q1 q2 f0 f1 f2 d0 d1 d2;go_wp2;go_ret;exact⟨rfl,ρ,L,oa.o,Fr.of_below cA aP.o⟩):G:=i
def AcA{G:Prop}(i:G:=by
 refine XV ?_;clear s9 hm4;intro W6 p6 M6 u0 u1 q0 q1 q2 z0 z1 z2 p0 p1 p2 jQ mm;have hi4:Inv s4 (d+1):=by
  rw[HSs4.o];exact(nX.o.object (d:=d+1) (code:=3+(n0:Int)) Qe (by rw[HSs3.o,qT.o];simp;omega)).1
 have eV:=Wm jQ.o.1.drew hi4 nx a.text 3 ⟨5,nO,⟨#[]⟩⟩;simp only[LVal.agg]at eV;have l9:=lh eV;clear hi4 eV
 have lz:=lh (show∀W' M',MFr M6 M' W6 W'->vC W' a.b 1 (.string a.text)/\vC W' p6 0 (vI 5)/\vC W' p6 1 (vI nO)/\vC W' p6 2 (.string ⟨#[]⟩)from
  λW' M' f=>⟨(HS.o W' M' (mm.o.trans f)).2.1,(jQ.o.2.2.fr f).cell rfl,(jQ.o.2.2.fr f).cell rfl,(jQ.o.2.2.fr f).cell rfl⟩)
 go_wp2_with fail
 refine o4 [(true,0),(true,1),(true,2),(true,3),(true,4),(true,5),(true,6),(true,7),(true,8)] [9] (λW=>vC W a.b 1 (.string a.text)/\vC W p6 0 (vI 5)/\vC W p6 1 (vI nO)/\vC W p6 2 (.string ⟨#[]⟩)) (lz.o _ _ (.drew (.refl _ _))) (λbw=>?_);refine pU ?_;refine Z1 ?_;clear q0 q1 q2 z0 z1 z2 p0 p1 p2 u0 u1;go_wp2_with fail
 refine l9.o.mono ?_;rintro e W7⟨rfl,M7,kp,dM⟩;have hF7':=(MFr.drew (.refl M6 W6)).trans dM;obtain⟨-,p0,p1,p2⟩:=lz.o _ _ hF7';obtain⟨q0,q1,q2,z0,z1,z2⟩:=(HLR.o.fr (mm.o.trans hF7')).six;have HMX:=lh kp;have oM:=lh (mm.o.trans hF7');clear kp dM hF7';go_wp2;refine bodyPost_ret (v:=.agg #[vI 5,vI nO,.string ⟨#[]⟩]) ?_ rfl ?_;·simp[results,results27,go_sem,q0,q1,q2]
 .obtain⟨g1,g2,g3⟩:=(HLR.o.fr oM.o).ret (x':=(vI 5)) (y':=(vI nO)) (z':=.string ⟨#[]⟩) HMX.o ((MFr.of_below HBZ.o).trans oM.o);exact⟨by rw[HNO2.o],_,by rw[nB.o];exact(by have:=g1;rw[HSs4.o,HSs3.o,qT.o]at this;rw[HNO2.o]at this ⊢;simpa[LVal.ref]using this),g2⟩):G:=i
def VP{G:Prop}(i:G:=by
 go_wp2_with fail
 refine HE.o.mono ?_;rcases r with⟨c,p⟩|⟨t,ts'⟩
 .rintro e wz⟨⟨b,rfl,h1,h2⟩,hF⟩;exact⟨rfl,⟨b,rfl,h1,h2⟩,hF⟩
 .rintro e wz⟨az,rfl,hG,hR,hF⟩;obtain⟨HG,HR,HF⟩:=ds hG hR hF;clear hG hR hF HE;go_wp2;go_ret;exact⟨az,rfl,HG.o,HR.o,HF.o⟩):G:=i
def ZN{G:Prop}(i:G:=by
 obtain⟨s3,q3⟩:=R;cases q3 with
 |error x3=>
   refine Zte ?_;intro iS;go_wp2;refine bodyPost_ret (v:=.tuple #[.bool b3,.agg #[vI k3,vI n3,.string t3],fj]) ?_ rfl ?_;·exact WL
   .exact .err' HLR.o HFz.o HB3.o.1 bP.o iS.o
 |ok v3=>
   obtain⟨rfl,rfl⟩:v3=(b3,⟨k3,n3,t3⟩)/\fj=.nilIface:=HB3.o.2.2;go_wp2;refine bodyPost_ret (v:=.tuple #[.bool b3,.agg #[vI k3,vI n3,.string t3],.nilIface]) ?_ rfl ?_;·exact WL
   .exact .fine' HLR.o HFz.o HB3.o.1 bP.o):G:=i
def xY{G:Prop}(i:G:=by
 simp[results,results62,go_sem,q0,q1,q2]):G:=i
def ZW{G:Prop}(i:G:=by
 rw[<-mH]at au hR;subst hR;clear mH;obtain⟨s1,q⟩:=R;simp only[ag];cases q with
 |error x1=>
   have he:ax C M1 w1 x1 bQ:=au.o.2.2;have HE:=lh he;clear he;go_wp2;refine bodyPost_ret (v:=.tuple #[.agg #[vI k1,vI n1,.string t1],bQ]) ?_ rfl ?_;·exact Uu
   .exact .err HLR.o HBZ.o au.o.1 au.o.2.1 HE.o
 |ok v1=>
   obtain⟨rfl,rfl⟩:v1=⟨k1,n1,t1⟩/\bQ=.nilIface:=au.o.2.2;go_wp2;refine bodyPost_ret (v:=.tuple #[.agg #[vI k1,vI n1,.string t1],.nilIface]) ?_ rfl ?_;·exact Uu
   .exact .fine HLR.o HBZ.o au.o.1 au.o.2.1):G:=i
def Abv{G:Prop}(i:G:=by
 go_wp2;refine bodyPost_ret (v:=.agg #[vI 5,vI nO,.string ⟨#[]⟩]) ?_ rfl ?_;·simp[results,results27,go_sem,q0,q1,q2]
 .obtain⟨g1,g2,g3⟩:=(HLR.o.fr oM.o).ret (x':=(vI 5)) (y':=(vI nO)) (z':=.string ⟨#[]⟩) HMX.o ((MFr.of_below HBZ.o).trans oM.o);exact⟨by rw[HNO2.o],_,by rw[nB.o];exact(by have:=g1;rw[HSs4.o,HSs3.o,qT.o]at this;simpa using this),g2⟩):G:=i
def UU{G:Prop}(i:G:=by
 have HC:=lh HC;clear hv;go_wp2_with fail
 refine HC.o.mono ?_;rintro e wz⟨⟨b,rfl,h1,h2⟩,hF⟩;exact⟨rfl,mA.pre F2.o (r:=.error (c,p)) ⟨⟨b,rfl,h1,h2⟩,hF⟩⟩):G:=i
def ru{G:Prop}(i:G:=by
 simp[results,results95,go_sem,q0,q1,q2]):G:=i
def AaL{G:Prop}(i:G:=by
 have dP:=lh (show R=wt D sc fr ((l.drop (k+1)).map (ATree.nt C.N)) (s3,.ok (true,⟨k3,n3,t3⟩))from HR.o);have mG:=lh (Fin.pre ee.o.2.1 ee.o.2.2.1 bF.o);clear HR;go_wp2_with fail
 refine ZY ?_;intro b0 b1 b2 q0 q1 q2 z0 pu z2 jT;refine ta ?_;go_wp2_with fail
 go_roundw
 case rel=>exact⟨k+1,M3,(s3,.ok (true,⟨k3,n3,t3⟩)),true,k3,n3,t3,by omega,by go_num,rfl,lh jT.o.1,lh jT.o.2.1,lh jT.o.2.2.1,lh ⟨rfl,rfl⟩,mG,dP⟩
 case measure=>simp[intOf];omega):G:=i
def AcG{G:Prop}(i:G:=by
 rintro e wz⟨⟨b,rfl,h1,h2⟩,hF⟩;exact⟨rfl,mA.pre F2.o (r:=.error (c,p)) ⟨⟨b,rfl,h1,h2⟩,hF⟩⟩):G:=i
def Ab6{G:Prop}(i:G:=by
 have fU:Tx aj=(decide (xJ=18)&&Zh t1 Xx):=by rw[<-kR.o];rfl
 have ip:=lh fU;clear ae pG rQ hb0 ai lx fU;by_cases h18:xJ=18
 .subst h18;by_cases ic:t1=Xx
  .subst ic;have H1:=lh (yJ.o (by rw[ip.o];simp[Zh]));unfold Xx at e1;go_wp2;go_ret;exact H1.o
  .have H0:=lh (pO.o (by rw[ip.o];simp[Zh,ic]));have aH:¬t1.toList=Xx.toList:=λh=>ic (Z5d h);have jC:(t1.toList==Xx.toList)=false:=by simpa using aH
   have hl:Xx.toList=[117,115,101,32,115,116,114,105,99,116]:=by rw[Lib.toList_data];rfl
   have pj:¬t1.toList=[117,115,101,32,115,116,114,105,99,116]:=by rw[<-hl];exact aH
   have hne4:(t1.toList== [117,115,101,32,115,116,114,105,99,116])=false:=by simpa using pj
   unfold Xx at aH jC;clear ic hl;go_wp2;go_ret;exact H0.o
 .have n18:(xJ==18)=false:=by simpa using h18
  have H0:=lh (pO.o (by rw[ip.o];simp[h18]));clear h18;go_wp2;go_ret;exact H0.o):G:=i
def YG{G:Prop}(i:G:=by
 rw[<-ej]at h1;have eF:=lh h1;clear h1 ej hR;subst an;go_enter func123,ntmps123
 go_wp2_with fail
 rw[<-HZ.o];clear x0 x1 x2 y0 y1 y2;refine eF.o.mono ?_;refine Zmd ?_;intro w1 q0 q1 q2 z0 z1 z2 au;go_wp2;refine bodyPost_ret (v:=.tuple #[.agg #[vI 2,vI ib,.string ⟨#[]⟩],.nilIface]) ?_ rfl ?_;·exact Uu
 .exact .fine HLR.o HBZ.o (HM.o.below au.o) (.of_below au.o)):G:=i
def Abt{G:Prop}(i:G:=by
 go_wp2_with fail
 refine Z7 [0,2,4,6,8,10,12,14,16,18,20,22,24,26,28,30,32,34,36] [19,20,21] (λW=>vC W sb 0 (.string text)/\vC W sb 1 (vI i)) ⟨q0,q1⟩ λ_=>?_;refine dS ?_
 iterate 19
  refine dq ?_
 refine Z1 ?_;go_wp2;refine Z7 [0,2,4,6,8,10] [6] (λW=>vC W sb 1 (vI i)) q1 λ_=>?_;refine dS ?_
 iterate 6
  refine dq ?_
 refine Z1 ?_;go_wp2;go_ret3
 rw[bD.o];exact⟨rfl,SI.o.drew.drew⟩):G:=i
def VR{G:Prop}(i:G:=by
 rintro e w9⟨⟨b,rfl,h1,h2⟩,hB⟩;exact⟨rfl,mA.err FQ.o ⟨b,rfl,h1,h2⟩ hB⟩):G:=i
def AaC{G:Prop}(i:G:=by
 exact⟨rfl,mA.pre F2.o (r:=.error (c,p)) ⟨⟨b,rfl,h1,h2⟩,hF⟩⟩):G:=i
def We{G:Prop}(i:G:=by
 simp only[ATree.tree,Tree.mk.injEq,true_and]at h2;rw[h2]at h1;exact h1):G:=i
def Abm{G:Prop}(i:G:=by
 go_wp2_with fail
 rw[<-od.o];refine(kq.o w1 DR.o).mono ?_;rintro e w3⟨rfl,bo⟩;obtain⟨r0,r1,gI,mt⟩:=cP.o w3 bo;have gZ:=lh gI;have mu:=lh mt;clear bo gI mt q0 q1;cases SB
 .simp only[Bool.false_eq_true,if_false]at tu ⊢;go_wp2_with fail
  refine(gy.o w3 mu.o).mono ?_;rintro e w4⟨rfl,fq⟩;have jQ:=zT gZ fq;clear fq;by_cases hz:RK=0
  .subst hz;go_wp2;go_ret;exact⟨by rw[tu.o];rfl,jQ.o⟩
  .have n0:(RK !=0)=true:=by simpa using hz
   have HEV2:Hid (ev=.iface 35 (vI RK)):=lh (by rw[tu.o];unfold cL;rw[if_neg hz]);clear hz tu;go_wp2;go_ret;exact⟨by rw[HEV2.o];rfl,jQ.o⟩
 .simp only[if_true]at tu ⊢;go_wp2;go_ret;exact⟨by rw[tu.o];rfl,gZ.o⟩):G:=i
def YS{G:Prop}(i:G:=by
 have HC:=lh (WY w3 rb B _ d _ _ P3.o.rd (by have:=P3.o.deep;omega) aA hv λhd h1 w4 hR hs=>HS.o w4 rb B (d+1) _ _ ⟨hR,hd,aA,by have:=P3.o.le;omega,P3.o.few⟩ h1);clear hv;go_wp2_with fail
 refine HC.o.mono ?_;rintro e wz⟨⟨b,rfl,h1,h2⟩,hF⟩;exact⟨rfl,mA.pre F3.o (r:=.error (c,p)) ⟨⟨b,rfl,h1,h2⟩,hF⟩⟩):G:=i
def YF{G:Prop}(i:G:=by
 refine pU ?_;refine Z1 ?_;go_wp2_with fail
 refine HW.o.mono ?_;rintro e W4⟨rfl,M4,fG,bg⟩;have jd:=lh fG;have kr:=lh ((d9.o.trans bP.o).trans ((MFr.drew (.refl M3 W3)).trans bg));clear fG bg;go_wp2_with fail
 go_roundw
 case rel=>exact⟨k+1,M4,sb,by omega,by go_num,jd,kr,tv,tz,bD⟩
 case measure=>simp[intOf];omega):G:=i
def AaU{G:Prop}(i:G:=by
 rw[e];clear e;go_enter func131,ntmps131
 go_wp2_with fail
 refine Z7 [0,2,4,6,8,10,12,14,16] [9,10,11] (λW=>vC W w.heap.size 0 (vI 5)/\vC W w.heap.size 1 (vI n)) ⟨World.cell?_alloc_new _ _ _ 0,World.cell?_alloc_new _ _ _ 1⟩ λ_=>?_;refine dS ?_
 iterate 9
  refine dq ?_
 refine Z1 ?_;go_wp2_with fail
 refine HC.o.mono ?_;rintro e w1⟨rfl,rfl⟩;go_wp2;go_ret;exact⟨rfl,HB.o.drew⟩):G:=i
def XP{G:Prop}(i:G:=by
 exact⟨mb,⟨λ_=>⟨e,h1,Nat.lt_of_lt_of_le h2 hg.size,_,by have:(false).toNat=0:=rfl;have:(true).toNat=1:=rfl;omega,ho⟩,(λh=>by cases h),hm.2.2.1,(λh=>by cases h)⟩,hc.keep hr hB hg.size hg.os hg.tape hg.output (λx hx hn=>hg.block x hx (λe=>hn (by cases e;rfl))) h1 (.inl rfl),hr,hB,Nat.le_trans hs hg.size⟩):G:=i
def AbF{G:Prop}(i:G:=by
 rw[<-DS]at hR ea;clear DS;subst hR;obtain⟨s9,q9⟩:=R;cases q9 with
 |error x9=>
   have HE9:=lh (show ax C M9 W9 x9 Cm from ea.o.2.2);go_wp2;refine bodyPost_ret (v:=.tuple #[.bool b9,.agg #[vI k9,vI n9,.string t9],Cm]) ?_ rfl ?_;·simp[results,results98,go_sem,q0,q1,q2]
   .exact .err HLR.o HBZ.o ea.o.1 rn.o HE9.o
 |ok v9=>
   obtain⟨rfl,rfl⟩:v9=(b9,⟨k9,n9,t9⟩)/\Cm=.nilIface:=ea.o.2.2;go_wp2;refine bodyPost_ret (v:=.tuple #[.bool b9,.agg #[vI k9,vI n9,.string t9],.nilIface]) ?_ rfl ?_;·simp[results,results98,go_sem,q0,q1,q2]
   .exact .fine HLR.o HBZ.o ea.o.1 rn.o):G:=i
def Aq{G:Prop}(i:G:=by
 simp[results,results124,go_sem,q0,q1,q2]):G:=i
def Lu{G:Prop}(i:G:=by
 go_wp2_with fail
 refine HC.o.mono ?_;rintro e w1⟨rfl,rfl⟩;go_wp2;go_ret;exact⟨rfl,rfl⟩):G:=i
def Acd{G:Prop}(i:G:=by
 go_wp2;refine Z7 [0,2,4,10,7,8] [6] (λW=>vC W tb 3 (vI j)) t3 λ_=>?_;refine dS ?_
 iterate 4
  refine dq ?_
 refine Zz5 ?_
 iterate 1
  refine dq ?_
 refine Z1 ?_;go_wp2;go_ret2
 rw[HE.o];exact Zhc (M4.o.scan.belowOf B1.o hb0) _):G:=i
def ZQ{G:Prop}(i:G:=by
 go_wp2_with fail
 refine HQ.o.mono ?_;rintro e w4⟨ev,rfl,he,eI⟩;have ep:=lh eI;have HE:=lh he;clear eI he;go_wp2;go_ret;have hR:=HR.o;simp[va,uC]at hR;rw[hR];exact⟨M2,(H2.o.below HB3.o).below ep.o,gX.o.trans (bc.o.trans ((MFr.of_below HB3.o).trans (.of_below ep.o))),ev,rfl,HE.o⟩):G:=i
def TN{G:Prop}(i:G:=by
 go_wp2_with fail
 refine HC.o.mono ?_;rintro e w1⟨rfl,rfl⟩;go_wp2;go_ret;exact⟨rfl,ρ,L,HH.o,Fr.of_below cA HB.o⟩):G:=i
def Aad{G:Prop}(i:G:=by
 rcases Cn with h3|⟨h3,tA⟩
 all_goals
  go_enter func123,ntmps123
  go_wp2_with fail
  rw[<-HZ.o];clear x0 x1 x2 y0 y1 y2;refine Zx9 ?_;intro w9 ev q0 q1 q2 z0 z1 z2 ea HE;subst hR;go_wp2;refine bodyPost_ret (v:=.tuple #[.agg #[vI 0,vI 0,.string ⟨#[]⟩],ev]) ?_ rfl ?_;·simp[results,results123,go_sem,q0,q1,q2]
  .exact .err HLR.o HBZ.o (HM.o.below ea.o) (MFr.trans (.refl _ _) (.of_below ea.o)) HE.o):G:=i
def OR{G:Prop}(i:G:=by
 obtain⟨wA,hr⟩:=hc.row;obtain⟨pv,cv,h,-⟩:=hr.form;exact⟨pv,_,cv,h⟩):G:=i
def AbD{G:Prop}(i:G:=by
 have gJ:g≠b:=by
  rcases HT.o with h|h;·exact λe=>tB.o (by rw[h,e])
  .omega
 have ac:w2.heap[b]?=some (.cells #[vP b,v] 157 (0,0)):=(HG.o.block b Qi (λe=>tB.o e.symm)).trans ((Below.heap_alloc _ _ _ gR).trans HB.o.blk);refine⟨Zk _ ac,.inr rfl,?_,by simp only[Value.ownBlock,ne_eq,Option.some.injEq];exact gJ,Ig⟩;rw[List.length_append,<-pP.o];exact Z3 HW.o λg' eQ=>Below.heap_setCell _ _ _ _ (λe=>gJ (by simp only[Value.ownBlock,Option.some.injEq]at eQ;rw[eQ,e]))):G:=i
def AaZ{G:Prop}(i:G:=by
 obtain⟨h1,h2,h3⟩:=h;have hL:Lo C M' w w' w.heap.size #[vI k0,vI n0,.string t0] 71:=by
  have:Lo C M w (w.alloc (vO k0 n0 t0)).drew w.heap.size #[vI k0,vI n0,.string t0] 71:=(Lo.new hM (Nat.le_refl _) (Nat.le_trans hO hE) _ _).fr (.drew (.refl _ _));exact this.fr h2
 obtain⟨g1,g2,g3,g4⟩:=hL.fill (x':=(vI k)) (y':=(vI n)) (z':=.string t) h1 ((MFr.of_below ((Z2 w (vO k0 n0 t0)).drew)).trans h2) (Nat.le_refl _);refine⟨⟨g1,g2,?_⟩,g3⟩;rcases hr:r.2 with x|v;·rw[hr]at h3;exact g4 _ _ h3
 .rw[hr]at h3;exact h3):G:=i
def Ab2{G:Prop}(i:G:=by
 have hw:=HW.o;rw[oQ.o,jR.o]at hw;rw[jR.o];simpa[oj,ov,ky,ow,CloR.cells,ATree.ptr]using hw):G:=i
def Tc{G:Prop}(i:G:=by
 simp only[Except.ok.injEq,Prod.mk.injEq]at h;obtain⟨rfl,_⟩:=h;simp at hk):G:=i
def Aaf{G:Prop}(i:G:=by
 refine Ze (λK hK=>?_);go_simp
 refine rR.o.mono ?_;rintro e W3⟨M3,k3,n3,t3,fj,rfl,df⟩;have F3:=(MFr.drew (.refl M1 W2)).trans df.2.1;refine hK _ _ (ro.o _ _ F3) ?_;clear hK K;obtain⟨dP,bP,oR⟩:=ds df (bc.o.trans F3) (gS.o.fr F3);refine Xi ?_;intro q0 q1 q2 z0 z1 z2;clear df F3 rR;refine zD ?_;go_wp2_with fail
 show Go.Leaves _ _ _ _ _ _ _;exact Zi3 (r:=r) iN.o dP.o.1 bP.o (yK.o) pQ.o oR.o yL.o fe.o dP.o.2.2 rfl rfl):G:=i
def AaH{G:Prop}(i:G:=by
 have kt:=LW DT.o.mat SQ;simp only[SQ]at kt;have uY:=lh kt;clear kt;go_wp2_with fail
 refine uY.o.mono ?_;rintro e w5⟨o7,rfl,rp,eO⟩;have xK:=lh (show ax C M w5 (.thr (.say SQ)) o7 from rp);have lA:=lh (DT.o.bel eO);obtain⟨q0,q1,q2,z0,z1,z2⟩:=lA.o.lr.six;clear rp eO;go_wp2_with fail
 refine bodyPost_ret (v:=.tuple #[.agg #[vI 0,vI 0,.string ⟨#[]⟩],o7]) ?_ rfl ?_;·exact YP
 .rw[fe.o];exact Ab1 lA.o xK.o rfl):G:=i
def Uz{G:Prop}(i:G:=by
 rintro e w7⟨⟨b,rfl,h1,h2⟩,dM⟩;exact⟨rfl,mA.pre FQ.o.drew (r:=.error (c,p)) ⟨⟨b,rfl,h1,h2⟩,dM⟩⟩):G:=i
def AbT{G:Prop}(i:G:=by
 unfold Xo Zh at hs;simp only[decide_eq_true_eq]at hs;by_cases h1:s=Ez;·exact .inl h1
 by_cases h2:s=VG;·exact .inr (.inl h2)
 by_cases h3:s=V3;·exact .inr (.inr (.inl h3))
 by_cases h4:s=Ws;·exact .inr (.inr (.inr (.inl h4)))
 by_cases h5:s=Vi;·exact .inr (.inr (.inr (.inr (.inl h5))))
 by_cases h6:s=VM;·exact .inr (.inr (.inr (.inr (.inr (.inl h6)))))
 by_cases h7:s=WN;·exact .inr (.inr (.inr (.inr (.inr (.inr h7)))))
 simp[h1,h2,h3,h4,h5,h6,h7]at hs):G:=i
def Vb{G:Prop}(i:G:=by
 have:=HV.o.symm.trans gr;simp only[Value.slice.injEq]at this;exact this.1):G:=i
def ZG{G:Prop}(i:G:=by
 rw[show cL cd=.nilIface by rw[fZ];rfl];clear dE bh cE fZ;go_wp2_with fail
 go_roundw
 case rel=>exact⟨k+1,M3,sb,by omega,by go_num,dH,lh (d9.o.trans bP.o),tv,tz,bD⟩
 case measure=>simp[intOf];omega):G:=i
def ZX{G:Prop}(i:G:=by
 obtain⟨HG,HR,HF⟩:=ds (hG.pre F2.o) hR (F2.o.trans hF);clear hG hR hF HC;go_wp2;go_ret;exact⟨a,rfl,HG.o,HR.o,HF.o⟩):G:=i
def VO{G:Prop}(i:G:=by
 go_wp2;go_ret;exact⟨a,rfl,HG.o,HR.o,HF.o⟩):G:=i
def WC{G:Prop}(i:G:=by
 rcases i8.o with h|h;·exact .inl h
 .exact .inr Qe):G:=i
def V4{G:Prop}(i:G:=by
 go_wp2_with fail
 refine HC.o.mono ?_;rintro e w3⟨⟨b,rfl,h1,h2⟩,hB⟩;exact⟨rfl,mA.err (RFr.refl _ _) ⟨b,rfl,h1,h2⟩ hB⟩):G:=i
def Aal{G:Prop}(i:G:=by
 exact .err' HLR.o HFz.o HB3.o.1 bP.o iS.o):G:=i
def TP{G:Prop}(i:G:=by
 rintro e w2⟨⟨b,rfl,h1,h2⟩,hF⟩;exact⟨rfl,⟨b,rfl,h1,h2⟩,hF⟩):G:=i
def Ly{G:Prop}(i:G:=by
 simp[results,results132,go_sem,q0,q1,q2]):G:=i
def TR{G:Prop}(i:G:=by
 clear ew;go_wp2;go_ret;exact⟨by rw[aI.o];rfl,ea.o⟩):G:=i
def Abw{G:Prop}(i:G:=by
 simp only[ATree.tree,Tree.mk.injEq,true_and]at this;rw[<-this,Zan,List.length_map]):G:=i
def AaW{G:Prop}(i:G:=by
 refine pU ?_;refine Z1 ?_;go_wp2_with fail
 refine ku.o.mono ?_;rintro e W5⟨rfl,M5,me,eP⟩;have rq:=lh me;have rr:=lh (bP.o.trans (((MFr.drew (.refl Mb W3)).trans (.drew (.refl _ _))).trans eP));clear me eP;go_wp2_with fail
 go_roundw
 case rel=>exact⟨k+1,M5,sb,by omega,by go_num,rq,rr,tv,tz,bD⟩
 case measure=>simp[intOf];omega):G:=i
def Aaz{G:Prop}(i:G:=by
 have gZ:=lh eO;obtain⟨q0,q1,q2,z0,z1,z2⟩:=((HLR.o.fr HF.o).bel eO).six;clear rp eO;go_wp2_with fail
 refine⟨.tuple #[.agg #[vI 0,vI 0,.string ⟨#[]⟩],o7],?_,?_⟩;·simp[results,results133,go_sem,q0,q1,q2]
 .rw[fe.o];exact bK.err HLR.o HBZ.o (HM.o.below gZ.o) (HF.o.trans (.of_below gZ.o)) xK.o):G:=i
def AaO{G:Prop}(i:G:=by
 exact .fine' HLR.o HFz.o HB3.o.1 bP.o):G:=i
def Abq{G:Prop}(i:G:=by
 rw[<-jA]at an ap;obtain⟨N,FQ,PQ⟩:=ds hA ap ((P3.o.next (ts':=us) hR bg km.o).next an (RFr.below (rb:=rb) bo) (Nat.le_refl _));clear la nY lg hY hR bg ai aw bo hA an ap HN aM jA ba dl HC;have pR:=lh (Option.some.inj uS.o).symm;go_wp2;go_ret;rw[pR.o];exact⟨_,rfl,N.o,PQ.o.rd,FQ.o⟩):G:=i
def AaF{G:Prop}(i:G:=by
 go_roundw
 case rel=>
  refine⟨k+1,_,rfl,by omega,by go_num,lh ?_,lh ?_⟩
  .rw[HF.o,if_pos (by simp[vV,<-kT.o])];exact Ack
  .exact AbN
 case measure=>simp[intOf];omega):G:=i
def TB{G:Prop}(i:G:=by
 by_cases h:c;·rw[if_pos h];exact hp h
 .rw[if_neg h];exact hq h):G:=i
def YV{G:Prop}(i:G:=by
 have:Lo C M wE (w.alloc (vO k0 n0 t0)).drew w.heap.size #[vI k0,vI n0,.string t0] 71:=(Lo.new hM hE hO _ _).fr (.drew (.refl _ _));exact this.fr h.2.1):G:=i
def Acy{G:Prop}(i:G:=by
 have:m=((List.range l.toArray.size).map λj=>!ph.contains j).toArray:=by
  apply Array.ext;·simp only[hs,List.size_toArray,List.length_map,List.length_range]
  .intro j h1 h2;have:=rX j Qe;simp only[List.getElem_toArray,List.getElem_map,List.getElem_range];rw[<-this];simp[h1]
 rw[this];exact rY):G:=i
def ZP{G:Prop}(i:G:=by
 split at h;·cases h
 .simp only[Except.ok.injEq,Prod.mk.injEq]at h;obtain⟨rfl,_⟩:=h;exact⟨by simp,(λh=>by simp at h),(λh=>by simp at h)⟩):G:=i
def Aat{G:Prop}(i:G:=by
 have tC:=lh iO.1;clear hy mJ je eV hR iO;go_wp2_with fail
 refine l9.o.mono ?_;rintro e W4⟨rfl,M4,fG,bg⟩;have jd:=lh fG;have kr:=lh (HFk.o.trans bg);clear fG bg;go_wp2_with fail
 go_roundw
 case rel=>exact⟨k+1,M4,_,by omega,by go_num,jd,kr,tC,HR⟩
 case measure=>simp[intOf];omega):G:=i
def VW{G:Prop}(i:G:=by
 go_enter func99,ntmps99
 go_wp2;go_ret;exact⟨by simp,(Below.refl _ _).alloc (Nat.le_refl _) _⟩):G:=i
def Aa0{G:Prop}(i:G:=by
 go_roundw
 case rel=>
  refine⟨k+1,by go_num,by omega,λj a hj ha=>?_,hB.trans (aQ.mono hB.size)⟩;by_cases pS:j=k
  .subst pS;have:=HG.o.symm.trans ha;simp only[Option.some.injEq]at this;subst this;simpa[LBind.is]using hq
  .exact HO.o j a Qe ha
 case measure=>simp[intOf];omega):G:=i
def U6{G:Prop}(i:G:=by
 exact⟨g.1,g.2.1,g.2.2.1,by show _<=20000*(s.steps.toNat+1);omega⟩):G:=i
def Abe{G:Prop}(i:G:=by
 refine Eq.trans (show _=z.cell? ⟨0,0,none⟩from ?_) cX;refine Eq.trans (World.cell?_setCell_other _ _ _ _ Rj) (Eq.trans (World.cell?_setCell_other _ _ _ _ Rj) (World.cell?_setCell_other _ _ _ _ Rj))):G:=i
def Abo{G:Prop}(i:G:=by
 refine Jr.bind he (ih .around _ _ _ g dz ht trivial) (bq _ _ _ (gt h)) (λ_ t x hx=>Dd.never (V6 (Z4n (ZF hx rfl)))) λt ts vs h1=>?_;exact Jr.bind he (Jr.within (ih .stmt _ _ _ g dz h1 trivial)) (Eh.within (bq _ _ _ (h1.ge he))) (λh=>by cases h) λy ts vs h2=>Jr.ok h2):G:=i
def AbK{G:Prop}(i:G:=by
 simp only[Act.put,zA,zB,zC];go_wp2;go_ret;exact⟨rfl,mL.o,⟨oe.o.os.trans HG.o.os,oe.o.tape.trans HG.o.tape,oe.o.output.trans HG.o.output,Nat.le_trans HG.o.size oe.o.size,λb h1 h2=>(oe.o.block b (Nat.lt_of_lt_of_le h1 HG.o.size) h2).trans (HG.o.block b h1 h2)⟩⟩):G:=i
def Aa6{G:Prop}(i:G:=by
 go_wp2;go_loop [8] (λi=>i=(vI 0)) (λ_=>0)
 case atStart=>rfl
 case round=>
  subst hrel;go_wp2;go_ret;exact⟨rfl,Below.refl _ _⟩):G:=i
def S8{G:Prop}(i:G:=by
 simp[results,results122,go_sem,q0,q1,q2]):G:=i
def UL{G:Prop}(i:G:=by
 simp[results,results133,go_sem,q0,q1,q2]):G:=i
def U1{G:Prop}(i:G:=by
 go_enter func29,ntmps29
 go_wp2;go_ret;exact⟨rfl,HB.o _⟩):G:=i
def AcL{G:Prop}(i:G:=by
 exact⟨none,0,by rw[h1,h2];rfl,by rw[h2];exact Nat.le_refl _,by unfold maxLen;omega⟩):G:=i
def AaA{G:Prop}(i:G:=by
 unfold AJ at h;by_cases h1:ad Tj ts=true;·exact Zo h1
 .by_cases h2:ad TY ts=true;·exact Zo h2
  .by_cases h3:ad Um ts=true;·exact Zo h3
   .by_cases h4:ad UI ts=true;·exact Zo h4
    .simp[h1,h2,h3,h4]at h):G:=i
def Aaa{G:Prop}(i:G:=by
 have S9:=MT.o.app HZ.o HG.o;have S9:=lh S9;go_roundw
 case rel=>exact⟨j+z,f,l++[⟨5,X,0,j⟩],_,rfl,S9.o,Z51 o8.o,Z6j HQ.o HJ.o aA HT.o,by omega,by omega,by simp;omega⟩
 case measure=>
  rw[S9.o.c1,CI.o];simp[intOf];omega):G:=i
def Ace{G:Prop}(i:G:=by
 refine VY ?_;refine HK.o _ _ ?_;exact HN.o _ _ M7 _ ⟨rfl,⟨rfl,rfl,rfl,rfl,trivial⟩,rfl⟩ (yM.o.below tD.o).drew ((tE.o.trans (.of_below tD.o)).trans (.drew (.refl _ _))) (HL.o.fr (.drew (.refl _ _)))):G:=i
def Aco{G:Prop}(i:G:=by
 go_wp2_with fail
 refine HC.o.mono ?_;rintro e w9⟨⟨b,rfl,h1,h2⟩,hB⟩;exact⟨rfl,mA.err F5.o ⟨b,rfl,h1,h2⟩ hB⟩):G:=i
def Abb{G:Prop}(i:G:=by
 have:=Zo h;refine Z8.bind (ih _ _ _ Ql) (L .around _ _) λt us h2=>?_;exact Z8.bind (Z8.within (ih _ _ _ Qs)) (Leaves.within (L .stmt _ _)) λt vs h3=>Z8.ok):G:=i
def Aao{G:Prop}(i:G:=by
 rcases h.form with⟨h1,h2⟩|⟨g,cap,h1,h2,h3⟩;·exact⟨none,0,by rw[h1,h2];rfl,by rw[h2];exact Nat.le_refl _,by unfold maxLen;omega,λi x hx=>by rw[h2]at hx;simp at hx⟩
 .exact⟨_,_,h1,h2,h3,λi x hx=>⟨g,rfl⟩⟩):G:=i
def V5{G:Prop}(i:G:=by
 exact⟨rfl,mA.pre F4.o (r:=.error (c,p)) ⟨⟨b,rfl,h1,h2⟩,hF⟩⟩):G:=i
def TU{G:Prop}(i:G:=by
 exact⟨by simp[xN,hx];decide,by decide⟩):G:=i
def ZS{G:Prop}(i:G:=by
 simp only[Except.ok.injEq,Prod.mk.injEq]at h;obtain⟨rfl,_⟩:=h;simp at h1):G:=i
def Acf{G:Prop}(i:G:=by
 refine Near.scope (m:=m) hm Qm λp hp=>?_;have rZ:=List.mem_of_getElem? hb;rcases List.mem_or_eq_of_mem_set hp with h|rfl;·exact⟨.inr ⟨p,h,rfl⟩,.inr ⟨p,h,rfl⟩⟩
 .exact⟨.inl hv,.inr ⟨b,rZ,rfl⟩⟩):G:=i
def Yy{G:Prop}(i:G:=by
 go_enter func89,ntmps89
 go_wp2;go_ret;refine⟨by rw[aI.o];rfl,?_⟩;rw[<-fA.o];exact fc.o):G:=i
def VT{G:Prop}(i:G:=by
 have h3:dd=D:=h3;subst h3;exact congrArg (λt=>(⟨t,dd⟩:Act)) e):G:=i
def AaN{G:Prop}(i:G:=by
 go_enter func24,ntmps24
 go_wp2_with fail
 refine HC.o.mono ?_;rintro e w1⟨rfl,rfl⟩;go_wp2_with fail
 refine HB.o.mono ?_;rintro e w1⟨rfl,hB⟩;have dn:=Lib.hid hB;clear hB;go_wp2;go_ret;exact⟨rfl,dn.o⟩):G:=i
def AbH{G:Prop}(i:G:=by
 subst cK;rw[List.getElem?_append_right (Nat.le_refl _)]at hj;simp only[Nat.sub_self,List.getElem?_cons_zero,Option.some.injEq]at hj;subst hj;simp only[n,if_true];exact⟨ac,by simpa using World.ownsRow_nil _ _ _ _⟩):G:=i
def AbA{G:Prop}(i:G:=by
 go_wp2;go_ret2
 rw[HE.o];exact Zhc (M4.o.scan.belowOf B1.o hb0) _):G:=i
def Abz{G:Prop}(i:G:=by
 clear dG aG hc;go_wp2;go_ret;exact⟨by rw[findIdx?_none_of (by rw[<-HN.o];exact HO.o)];rfl,hB⟩):G:=i
def Zzf{G:Prop}(i:G:=by
 have gL:Tx aj=false:=by rw[<-kR.o];rfl
 have H0:=lh (pO.o gL);clear gL;rcases Z4 ae with⟨rfl,_⟩|⟨g0,gB,rfl,_,_,_⟩
 all_goals
  clear ae;go_wp2;go_ret;exact H0.o):G:=i
def Zsm{G:Prop}(i:G:=by
 go_wp2_with fail
 refine HC.o.mono ?_;rintro e w1⟨rfl,rfl⟩;go_wp2;go_ret;exact⟨rfl,Below.refl _ _⟩):G:=i
def Zoi{G:Prop}(i:G:=by
 go_enter func111,ntmps111
 go_wp2;go_ret;exact⟨rfl,HB.o⟩):G:=i
def Zzx{G:Prop}(i:G:=by
 intro j o hj;have iI:=getElem?_lt hj;exact⟨by rw[far _ _ (h.rob j iI) Qm Qm];exact(h.obj j o hj).1,Z3 (h.obj j o hj).2 λg hg=>far g _ (h.rpv j g iI hg) Qm Qm⟩):G:=i
def Zy6{G:Prop}(i:G:=by
 intro j o hj;have iI:=getElem?_lt hj;exact⟨by rw[far _ _ (h.rsb j iI) Qm Qm];exact(h.scp j o hj).1,Z3 (h.scp j o hj).2 λg hg=>far g _ (h.rnv j g iI hg) Qm Qm⟩):G:=i
def Zt4{G:Prop}(i:G:=by
 exact .err HLR.o HBZ.o au.o.1.1 bA.o eg.o):G:=i
def Zqs{G:Prop}(i:G:=by
 go_enter func116,ntmps116
 go_wp2;go_ret;exact⟨rfl,rfl⟩):G:=i
def Zoo{G:Prop}(i:G:=by
 exact .fine' HLR.o HFz.o (HM.o.below au.o) (.of_below au.o)):G:=i
def Zqw{G:Prop}(i:G:=by
 go_enter func56,ntmps56
 go_wp2;go_ret2
 exact⟨rfl,rfl⟩):G:=i
def Zoj{G:Prop}(i:G:=by
 go_enter func50,ntmps50
 go_wp2;go_ret2
 exact⟨rfl,rfl⟩):G:=i
def Zxa{G:Prop}(i:G:=by
 have n15:(xL==15)=false:=by simpa using xM
 have H0:=lh (pO.o (by rw[<-kR.o];cases l0<;>simp[f6,ATree.tree,Tx,xM]));clear ae pG rQ hb0 lx xM;go_wp2;go_ret;exact H0.o):G:=i
def Xl{G:Prop}(i:G:=by
 have h3:=Lo.new (wE:=w) (h.below h1) Qe h.old.size #[vI 0,vI 0,.string ⟨#[]⟩] 71;rw[hs]at h3;exact⟨h1.trans ((Z2 _ _).mono h1.size),h2.bel (Z2 _ _),h3⟩):G:=i
def Zps{G:Prop}(i:G:=by
 go_enter func32,ntmps32
 go_wp2;go_ret;exact⟨rfl,rfl⟩):G:=i
def Zpd{G:Prop}(i:G:=by
 go_enter func22,ntmps22
 go_wp2;go_ret;exact⟨rfl,rfl⟩):G:=i
def Zy4{G:Prop}(i:G:=by
 obtain⟨c1,f1,h1⟩:=Lib.ownsRow_kind h k hk;obtain⟨c2,f2,h2⟩:=Lib.ownsRow_kind ht k e;rw[h1]at h2;simp only[Option.some.injEq,Obj.cells.injEq]at h2;exact absurd h2.2.1 Qg):G:=i
def Zly{G:Prop}(i:G:=by
 go_ret;exact⟨by rw[aI.o];rfl,gZ.o⟩):G:=i
def Zpb{G:Prop}(i:G:=by
 apply Array.ext;·simp[h1]
 .intro i g1 g2;simp at g2;simp[g1]):G:=i
def Zxf{G:Prop}(i:G:=by
 refine(HV.o g Qe w6.drew rb B d _ _ P7 hv).mono ?_;rintro e w7⟨⟨b,rfl,h1,h2⟩,dM⟩;exact⟨rfl,mA.pre F6.o.drew (r:=.error (c,p)) ⟨⟨b,rfl,h1,h2⟩,dM⟩⟩):G:=i
def Zwv{G:Prop}(i:G:=by
 rintro e w4⟨rfl,M3,h3,f3⟩;have H3:=lh h3;have bP:=lh (gX.o.trans ((MFr.of_below au.o.drew).trans f3));clear h3 f3;go_wp2;go_ret;rw[bD.o];exact⟨M3,H3.o,bP.o,rfl⟩):G:=i
def Zzc{G:Prop}(i:G:=by
 intro l;induction l with
 |nil=>intro h;cases h
 |cons y l ih=>
   intro h;simp only[nc,List.mem_append];rcases List.mem_cons.1 h with rfl|h;·exact .inl hx
   .exact .inr (ih h)):G:=i
def Zug{G:Prop}(i:G:=by
 go_ret;exact⟨by rw[findIdx?_some_of HO.o HG.o hq];rfl,hB.trans (aQ.mono (hB.size))⟩):G:=i
def Zuq{G:Prop}(i:G:=by
 unfold j4;rw[if_neg (by rw[hq];decide),if_neg (by rw[hq];decide),if_pos hq,hr];simp):G:=i
def Zsc{G:Prop}(i:G:=by
 go_wp2;go_ret;exact⟨by rw[<-TZ];rfl,(Below.refl _ _).alloc (Nat.le_refl _) _⟩):G:=i
def Zuf{G:Prop}(i:G:=by
 obtain⟨x,vs,hx,h⟩:=O9 h;have:=Zlp hx;have:=bW h;subst this;omega):G:=i
def Zrf{G:Prop}(i:G:=by
 have:=Z6g (ts:=ts) Qe;simp only[Job.base,zw,Wr]at *;omega):G:=i
def Zrr{G:Prop}(i:G:=by
 rw[cE];exact(nj.o.clos (d:=d+2) (c:=⟨a.nt C.N,nx,Zj body⟩) gW.o).1):G:=i
def Zxp{G:Prop}(i:G:=by
 have:=Zo h;exact ak.bind (ih .around _ _) λt us h2=>ak.bind (ak.within (ih .stmt _ _)) λt vs h3=>ak.ok RT):G:=i
def Zw4{G:Prop}(i:G:=by
 have aM:=HS.o;rw[<-HN.o]at aM;rw[<-HN.o,<-aM];exact Z3 HW.o λg' eQ=>k5 g' QK):G:=i
def Zvu{G:Prop}(i:G:=by
 rcases Z4 G3.at'.rowOf with⟨h1,h2⟩|⟨g0,gB,h1,_⟩;·exact Acm
 .exact⟨_,_,h1⟩):G:=i
def Zyo{G:Prop}(i:G:=by
 clear hv;go_wp2_with fail
 refine HV.o.mono ?_;rintro e w2⟨⟨b,rfl,h1,h2⟩,hF⟩;exact⟨rfl,mA.pre F1.o (r:=.error (c,p)) ⟨⟨b,rfl,h1,h2⟩,hF⟩⟩):G:=i
def Zt7{G:Prop}(i:G:=by
 exact .fine HLR.o HBZ.o (bU.o.below HB3.o) (bc.o.trans (.of_below HB3.o))):G:=i
def Zwy{G:Prop}(i:G:=by
 exact⟨rfl,mA.err F2.o ⟨b,rfl,h1,h2⟩ hB⟩):G:=i
def Xq{G:Prop}(i:G:=by
 unfold qH at hv;by_cases h30:30<d+1;·rw[if_pos h30]at hv;cases hv
 .rw[if_neg h30]at hv;cases g with
  |zero=>cases hv
  |succ g=>exact Zkt hv):G:=i
def Zyw{G:Prop}(i:G:=by
 obtain⟨h1,h2,h3⟩:=h;refine⟨h1.below hB,h2.trans (.of_below hB),?_⟩;rcases hr:r.2 with x|v;·rw[hr]at h3;exact h3.bel hB
 .rw[hr]at h3;exact h3):G:=i
def Zs7{G:Prop}(i:G:=by
 rw[cE];exact(nj.o.clos (d:=d+2) (c:=⟨a.nt C.N,nx,true⟩) gW.o).1):G:=i
def Zwh{G:Prop}(i:G:=by
 exact wpOp_mono (λa' w' h'=>⟨λhh=>h'.1 ((cQ _ ff).symm.trans hh),XZ dA hQ ri _ _ a' w' Rt (cQ _ ff) aQ h'.1 h'.2⟩) h.1):G:=i
def Zwk{G:Prop}(i:G:=by
 cases ph with
 |nil=>simp[Tl]at r8
 |cons t r=>
   simp only[Tl,Bool.and_eq_true]at r8;intro u hu;simpa using List.all_eq_true.1 r8.1.1.2 u hu):G:=i
def Zw8{G:Prop}(i:G:=by
 rcases Z4 h with⟨h1,h2⟩|⟨g,cap,h1,h2,h3,_⟩;·exact .inl ⟨h1,List.eq_nil_of_length_eq_zero h2⟩
 .exact .inr ⟨g,cap,h1,h2,h3⟩):G:=i
def Zrg{G:Prop}(i:G:=by
 have:=h.szO;show s.H.objects.length+d<=20000*(s.steps.toNat+1);omega):G:=i
def Ztb{G:Prop}(i:G:=by
 have:=h.szS;show s.H.scopes.length+d<=20000*(s.steps.toNat+1);omega):G:=i
def Zzj{G:Prop}(i:G:=by
 split at ht;·cases ht
 .simp only[Except.ok.injEq,Prod.mk.injEq]at ht;obtain⟨rfl,rfl⟩:=ht;rw[if_neg Qd,if_neg Qd];rfl):G:=i
def Zz6{G:Prop}(i:G:=by
 refine Zt2 ?_;intro g1 g2 g3;exact⟨M1,g1,g2,rfl⟩):G:=i
def Zsr{G:Prop}(i:G:=by
 exact Z3 h.rowO λg hg=>far g _ (h.rvo g hg) Qm Qm):G:=i
def Zso{G:Prop}(i:G:=by
 exact Z3 h.rowS λg hg=>far g _ (h.rvs g hg) Qm Qm):G:=i
def Zsw{G:Prop}(i:G:=by
 rw[Zi text Qe Qe,show j+(i-j)=i by omega]):G:=i
def Zxw{G:Prop}(i:G:=by
 unfold Z0;refine Z8.want λh=>Z8.bind (ih _ _ _ Ql) (L _ _ _) λt us h=>Z8.want λh2=>Z8.ok):G:=i
def Zuh{G:Prop}(i:G:=by
 refine Zjv ?_;rw[d1,n5];exact hK w4 h4 g4):G:=i
def Zyd{G:Prop}(i:G:=by
 clear hc;go_enter func29,ntmps29
 go_wp2_with fail
 refine(HC.o _).mono ?_;rintro e w1⟨rfl,rfl⟩;go_wp2;go_ret;exact⟨rfl,HB.o _⟩):G:=i
def Zvx{G:Prop}(i:G:=by
 intro g' eQ;simp only[Value.ownBlock,Option.some.injEq]at eQ;subst eQ;rw[<-jU];rcases gM with h'|h';·exact .inl h'
 .exact .inr Qe):G:=i
def Zrn{G:Prop}(i:G:=by
 rw[e];go_enter func34,ntmps34
 go_wp2;go_ret;exact⟨rfl,rfl⟩):G:=i
def Ztp{G:Prop}(i:G:=by
 have:=h.szC;show s.clos.length+d<=20000*(s.steps.toNat+1);omega):G:=i
def Zts{G:Prop}(i:G:=by
 have:=h.szN;show s.seen.length+d<=20000*(s.steps.toNat+1);omega):G:=i
def Xg{G:Prop}(i:G:=by
 intro g' eQ;simp only[Value.ownBlock,Option.some.injEq]at eQ;subst eQ;rw[<-hv];rcases HT.o with h|h;·exact .inl h
 .exact .inr Qe):G:=i
def Zyi{G:Prop}(i:G:=by
 intro b du;by_cases e:nv'.ownBlock=some b;·exact(af.lt b e).2
 .simp only[ρ',if_neg e]at du;exact Nat.lt_of_lt_of_le (h.live b du) ba):G:=i
def Zrt{G:Prop}(i:G:=by
 have:=h.szL;show s.log.length+d<=20000*(s.steps.toNat+1);omega):G:=i
def Zs0{G:Prop}(i:G:=by
 rw[if_pos h8]at h;exact(Option.some.inj h).symm):G:=i
def Zq1{G:Prop}(i:G:=by
 simp[results,results28,go_sem,q0,q1,q2]):G:=i
def Acn{G:Prop}(i:G:=by
 rcases Z4 ae with⟨h1,h2⟩|⟨g0,gB,h1,h2,_⟩;·exact⟨none,0,by rw[h1,h2],by omega⟩
 .exact⟨_,_,h1,h2⟩):G:=i
def Zxy{G:Prop}(i:G:=by
 refine Zrz ?_;intro g1 g2 g3;exact⟨M1,g1,g2,rfl⟩):G:=i
def Zsk{G:Prop}(i:G:=by
 intro b _ _ h3;rw[hv]at h3;exact far b (λe=>h3 (by rw[e];rfl))):G:=i
def Zua{G:Prop}(i:G:=by
 exact Fin.raise (h.less Qe) (Ext.refl _) rfl hs IR.2.2.2.1):G:=i
def Zw2{G:Prop}(i:G:=by
 go_wp2_with fail
 refine HC.o.mono ?_;rintro e w9⟨⟨b,rfl,h1,h2⟩,hB⟩;exact⟨rfl,mA.err F3.o ⟨b,rfl,h1,h2⟩ hB⟩):G:=i
def Zs1{G:Prop}(i:G:=by
 go_enter func55,ntmps55
 go_wp2;go_ret;exact⟨rfl,rfl⟩):G:=i
def Zy9{G:Prop}(i:G:=by
 rintro e w3⟨⟨b,rfl,h1,h2⟩,bh⟩;exact⟨rfl,mA.pre F2.o.drew (r:=.error (c,p)) ⟨⟨b,rfl,h1,h2⟩,bh⟩⟩):G:=i
def Zyb{G:Prop}(i:G:=by
 rw[tF.o,h];obtain⟨h1,h2,h3⟩:=Got.text (t':=LA) aA HP.o.le G2.o F2.o R2.o;exact⟨_,rfl,h1,h3,h2⟩):G:=i
def Zyn{G:Prop}(i:G:=by
 unfold MSt.loose;split;·rfl
 .split;·exact(ZU (sP _)).ls
  .exact(Z6c (sP _) Qg Qg).ls):G:=i
def Zwz{G:Prop}(i:G:=by
 rcases Nat.lt_or_ge j K with h'|h';·exact h'
 .have:=s4 Qe;rw[show K=j by omega,Z7l hl]at this;cases this):G:=i
def Zwf{G:Prop}(i:G:=by
 rintro e wz⟨⟨b,rfl,h1,h2⟩,hF⟩;exact⟨rfl,mA.pre FQ.o.drew (r:=.error (c,p)) ⟨⟨b,rfl,h1,h2⟩,hF⟩⟩):G:=i
def Aac{G:Prop}(i:G:=by
 rintro e w3⟨rfl,hD⟩;have HD':=lh ((MFr.of_below (M:=M) HB.o).does hD);clear hD;go_wp2;go_end0
 exact⟨rfl,HD'.o⟩):G:=i
def Zwa{G:Prop}(i:G:=by
 have:=Z3 af λg' eQ=>k5 g' QK;simpa using this):G:=i
def Zxq{G:Prop}(i:G:=by
 clear fG bg;go_wp2_with fail
 exact HKK.o _ _ M4 ⟨rfl,⟨rfl,rfl,rfl,rfl,rfl,rfl,trivial⟩,rfl⟩ jd.o kr.o):G:=i
def Abr{G:Prop}(i:G:=by
 rcases List.mem_append.1 hx with hx|hx;·exact HX.o x hx
 .simp only[List.mem_singleton]at hx;subst hx;exact Ih.o):G:=i
def Zvl{G:Prop}(i:G:=by
 rw[World.cell?_alloc_lt _ _ ⟨1,0,none⟩ QI,World.cell?_alloc_lt _ _ ⟨1,0,none⟩ aA];exact hg):G:=i
def Zxv{G:Prop}(i:G:=by
 obtain⟨x,vs,hx,h⟩:=O9 h;obtain⟨y,vs,hx,h⟩:=O9 h;obtain⟨rfl,_⟩:=Ug h;cases hk):G:=i
def Zw5{G:Prop}(i:G:=by
 exact⟨ht.1.keepB λk hk=>ac k (ht.1.has k hk).2 (ht.2 k hk),λk hk=>eW k (ht.1.has k hk).2 (ht.2 k hk)⟩):G:=i
def Zw6{G:Prop}(i:G:=by
 rcases hx with⟨_,rfl⟩|⟨q,_,hx⟩;·exact⟨_,_,rfl⟩
 .obtain⟨_,rfl,_⟩:=hx;exact⟨_,_,rfl⟩):G:=i
def Xf{G:Prop}(i:G:=by
 unfold Instr.lookup;simp[run_underlying underlying62,Go.MapKept.run_getObj_map hb,Zc9,hj,Result.andThen]):G:=i
def Zvt{G:Prop}(i:G:=by
 have e:=h.byte (i:=m-o) Qe;rw[show o+(m-o)=m by omega]at e;rw[e];exact s3 _ Qe Qe):G:=i
def Zwd{G:Prop}(i:G:=by
 go_enter func16,ntmps16
 go_wp2;refine wp_loop_rounds 1 ?_;rw[rounds_succ];go_wp2;go_ret;exact⟨rfl,rfl⟩):G:=i
def Zyp{G:Prop}(i:G:=by
 rcases hob:H.scope? n with _|s;·simp[LHeap.has,hob]at hq
 .exact⟨s,rfl,by rw[<-has_eq hob];exact hq⟩):G:=i
def WX{G:Prop}(i:G:=by
 rw[k6 w.heap.size Qi Qe (λe=>by have:=yD _ e.symm;omega)];exact heap_alloc2_old w _ _):G:=i
def Zyj{G:Prop}(i:G:=by
 rw[ct.o.2.2.left,RL.o];exact Nat.lt_of_lt_of_le (by have:=Z9i hk;rw[List.length_tail];omega) PL.o):G:=i
def Zvr{G:Prop}(i:G:=by
 rcases Nat.lt_or_ge t.block w.heap.size with h|h;·exact h
 .simp[vC,World.cell?,Array.getElem?_eq_none h]at Co):G:=i
def Zzd{G:Prop}(i:G:=by
 exact ak.bind (ih .value _ _) λt us h2=>ak.end' RU):G:=i
def Zw0{G:Prop}(i:G:=by
 refine Zok ?_;intro t' ts' h';rw[<-h'.2];exact g):G:=i
def Zx1{G:Prop}(i:G:=by
 obtain⟨h1,h2,_⟩:=List.findIdx?_eq_some_iff_getElem.1 h;exact⟨_,List.getElem?_eq_getElem h1,h2⟩):G:=i
def Zz2{G:Prop}(i:G:=by
 simp only[Value.ownBlock,ne_eq,Option.some.injEq];rcases HT.o with h|h;·have:=yD g h;omega
 .omega):G:=i
def Zyv{G:Prop}(i:G:=by
 rcases Nat.lt_or_ge 1 w.heap.size with h|h;·exact h
 .simp[vC,World.cell?,Array.getElem?_eq_none h]at hg):G:=i
def Zy1{G:Prop}(i:G:=by
 exact⟨rfl,((aP.o.setCell (Nat.le_refl _) _).setCell (Nat.le_refl _) _).setCell (Nat.le_refl _) _⟩):G:=i
def Zzo{G:Prop}(i:G:=by
 exact⟨rfl,((HB.o.setCell (Nat.le_refl _) _).setCell (Nat.le_refl _) _).setCell (Nat.le_refl _) _⟩):G:=i
def Zwb{G:Prop}(i:G:=by
 simp only[List.length_append,List.length_cons,List.length_nil,Nat.zero_add];rw[Zn6];exact af):G:=i
def Zwq{G:Prop}(i:G:=by
 rintro e w9⟨⟨b,rfl,h1,h2⟩,hB⟩;exact⟨rfl,mA.err FQ.o.drew ⟨b,rfl,h1,h2⟩ hB⟩):G:=i
def Zyf{G:Prop}(i:G:=by
 exact(HB3.o.alloc DU _).grown HG.o Qi λj hj=>(World.ownsRow.lt rS.o j hj).1):G:=i
def Zyk{G:Prop}(i:G:=by
 go_enter func40,ntmps40
 go_wp2;go_ret;rw[HB.o,<-TZ];exact⟨rfl,uZ.o _⟩):G:=i
def Zzu{G:Prop}(i:G:=by
 simp only[fH,Option.some.injEq,Except.ok.injEq,Prod.mk.injEq]at h4;rw[<-h4.2]at h5;simp at h5):G:=i
def Zyq{G:Prop}(i:G:=by
 obtain⟨aY,rh⟩:=List.getElem?_eq_some_iff.1 se;rw[List.take_succ_eq_append_getElem aY,rh]):G:=i
def Zxb{G:Prop}(i:G:=by
 by_cases h9:ix<0;·exact .inl ⟨decide_eq_true h9,h9⟩
 .exact .inr ⟨decide_eq_false h9,h9⟩):G:=i
def Zvb{G:Prop}(i:G:=by
 exact .err' HLR.o HFz.o dH.o bP.o iS.o):G:=i
def Zt0{G:Prop}(i:G:=by
 simp[results,results101,go_sem,q0,q1,q2]):G:=i
def Zzh{G:Prop}(i:G:=by
 exact .err HLR.o HBZ.o (au.o.1.below aP.o).drew (bc.o.trans (.drew (.refl _ _))) eg.o):G:=i
def Zsl{G:Prop}(i:G:=by
 exact .err HLR.o HBZ.o dH.o bP.o iS.o):G:=i
def Zvh{G:Prop}(i:G:=by
 rw[hR];exact⟨M2,H2.o.below HB3.o,gX.o.trans (bc.o.trans (.of_below HB3.o)),rfl⟩):G:=i
def Zys{G:Prop}(i:G:=by
 subst cK;rw[List.getElem?_set_self ff]at hj;cases hj;simp only[if_true];exact⟨ac,af⟩):G:=i
def Zt9{G:Prop}(i:G:=by
 exact λg hg=>role _ _ (h.rvo g hg) Qm):G:=i
def Zsz{G:Prop}(i:G:=by
 exact λg hg=>role _ _ (h.rvs g hg) Qm):G:=i
def Ab9{G:Prop}(i:G:=by
 rw[ct.o.2.2.left,RL.o];have:=fP.o;simp only[Job.least]at this;have:=PL.o;omega):G:=i
def WW{G:Prop}(i:G:=by
 simp only[wt,if_neg h];rcases D (k.kid 0) sc fr s with⟨s1,e|⟨_|_,u⟩⟩<;>rfl):G:=i
def Zxg{G:Prop}(i:G:=by
 rw[Below.heap_setCell _ _ _ _ hb,Below.heap_setCell _ _ _ _ hb,Below.heap_setCell _ _ _ _ hb]):G:=i
def Zrm{G:Prop}(i:G:=by
 rw[if_pos h];exact hk _ (Z6g Qe)):G:=i
def Zve{G:Prop}(i:G:=by
 unfold Oper.wp;simp[execOp,eG,hm,hx,hv,iv,Result.andThen];exact Cp _ _ (hK w' r1 r2)):G:=i
def Zyg{G:Prop}(i:G:=by
 subst cK;exact hy.wpOp hi (key _ _ h1 hS) ⟨λh=>hS ((same aa).symm.trans h),H⟩):G:=i
def Zz0{G:Prop}(i:G:=by
 obtain⟨h1,h2⟩:=List.getElem?_eq_some_iff.1 hy;rw[List.drop_eq_getElem_cons h1,h2]):G:=i
def XB{G:Prop}(i:G:=by
 intro a v hv;simp[LProp.cells]at hv;rcases hv with rfl|rfl|rfl|rfl|rfl<;>rfl):G:=i
def AbB{G:Prop}(i:G:=by
 exact .err' HLR.o HFz.o au.o.1.1.drew (bA.o.trans (.drew (.refl _ _))) eg.o):G:=i
def Aca{G:Prop}(i:G:=by
 exact .fine' HLR.o HFz.o (bX.o.below aP.o) (bA.o.trans (.of_below aP.o))):G:=i
def Xm{G:Prop}(i:G:=by
 simp only[ρ',if_neg e,if_neg e1]at du;exact Nat.lt_of_lt_of_le (h.live b du) ba):G:=i
def Aaj{G:Prop}(i:G:=by
 exact .err' HLR.o HFz.o jz.o.drew (d9.o.trans (.drew (.refl _ _))) eg.o):G:=i
def Xc{G:Prop}(i:G:=by
 exact .err' HLR.o HFz.o dH.o.drew (bP.o.trans (.drew (.refl _ _))) eg.o):G:=i
def Zzp{G:Prop}(i:G:=by
 show(if preB text j 0 then sW 0 else Bm text j 0)=_;rw[<-tG.o];rfl):G:=i
def Zv8{G:Prop}(i:G:=by
 show(if preB text j 1 then sW 1 else Bm text j 1)=_;rw[<-tG.o];rfl):G:=i
def Zzl{G:Prop}(i:G:=by
 show(if preB text j 2 then sW 2 else Bm text j 2)=_;rw[<-tG.o];rfl):G:=i
def WS{G:Prop}(i:G:=by
 simp only[binOp];unfold ql at h0 ⊢;simp[Op.equal,Op.maxDepth,h0 9998]):G:=i
def Zvy{G:Prop}(i:G:=by
 have h1:=h.rpv m g dw QB;rw[e,h.rob m dw]at h1;cases h1):G:=i
def Zvg{G:Prop}(i:G:=by
 have h1:=h.rnv m g dw QB;rw[e,h.rsb m dw]at h1;cases h1):G:=i
def Zxd{G:Prop}(i:G:=by
 obtain⟨x,vs,_,h⟩:=O9 h;obtain⟨rfl,_⟩:=Ug h;rfl):G:=i
def Zz8{G:Prop}(i:G:=by
 obtain⟨x,vs,hx,h⟩:=O9 h;have:=bW h;subst this;cases hk):G:=i
def Zwc{G:Prop}(i:G:=by
 obtain⟨es,dQ,hb,hx⟩:=h5;exact⟨es,dQ,rl.trans hb,hx⟩):G:=i
def Zze{G:Prop}(i:G:=by
 exact⟨g.1,g.2.1,g.2.2.1,by show _<=20000*(k.toNat+1);omega⟩):G:=i
def Zwr{G:Prop}(i:G:=by
 subst e;obtain rfl:=Option.some.inj (HX.o.symm.trans hy);exact HS.o):G:=i
def Zz1{G:Prop}(i:G:=by
 rw[hk,List.filter_append];simp[wc,Tree.kids,mK,jl,NT.kind]):G:=i
def Zzn{G:Prop}(i:G:=by
 go_enter func31,ntmps31
 go_wp2;go_ret;exact⟨rfl,rfl⟩):G:=i
def Xb{G:Prop}(i:G:=by
 rcases List.mem_cons.1 hy with rfl|hy;·exact k1
 .exact ih k2 y hy):G:=i
def Zz9{G:Prop}(i:G:=by
 rw[<-yN.o];have h2:=Zc5 HW.o;rw[cG]at h2;exact h2):G:=i
def Zza{G:Prop}(i:G:=by
 rw[Zch hk,hb];by_cases e:k=t;·subst e;simp
 .simp[e]):G:=i
def Xy{G:Prop}(i:G:=by
 rcases List.mem_cons.1 h with rfl|h;·omega
 .have:=ih h;omega):G:=i
def Zy5{G:Prop}(i:G:=by
 have:=getElem?_lt hj;simp at this;simp only[n]at cK;omega):G:=i
def Zx3{G:Prop}(i:G:=by
 rw[iE,if_neg hc]at cU;exact(Option.some.inj cU).symm):G:=i
def Zzr{G:Prop}(i:G:=by
 have e2:=SI.o.c1;rw[e1,e2];simp[intOf];omega):G:=i
def tu0{G p1:Prop}(h1:p1)(i:p1->G:=by
 intro tH;go_wp2;refine Z7 [0,2,4,10,7,8] [6] (λW=>vC W tb 3 (vI j)) t3 λ_=>?_;refine dS ?_
 iterate 4
  refine dq ?_
 refine Zz5 ?_
 iterate 1
  refine dq ?_
 refine Z1 ?_;go_wp2;go_ret2
 rw[HE.o];exact Zhc (tH.o.scan.belowOf B1.o hb0) _):G:=i h1
def tu1{G p4:Prop}(h4:p4)(i:p4->G:=by
 intro vb;subst aT;have hR:=HRk.o;rw[List.drop_eq_nil_of_le QX]at hR;have an:S=sk:=hR;go_wp2_with fail
 exact HKK.o _ _ Mk ⟨rfl,⟨rfl,rfl,rfl,rfl,rfl,rfl,rfl,trivial⟩,rfl⟩ Rg ((MFr.of_below vb.o).trans HFk.o)):G:=i h4
def tu2{G p4:Prop}(h4:p4)(i:p4->G:=by
 intro vb;subst aT;have hR:=HRk.o;rw[List.drop_eq_nil_of_le QX]at hR;have an:S=sk:=hR;go_wp2_with fail
 exact HKK.o _ _ Mk ⟨rfl,⟨rfl,rfl,rfl,rfl,trivial⟩,rfl⟩ Rg ((MFr.of_below vb.o).trans HFk.o)):G:=i h4
def tu3{G p2:Prop}(h2:p2)(i:p2->G:=by
 intro vd;go_enter func160,ntmps160
 go_wp2_with fail
 refine HH.o.mono ?_;rintro e w1⟨rfl,hB⟩;have HB:=lh hB;clear hB;go_wp2_with fail
 refine(HO.o w1 HB.o).mono ?_;rintro e w2⟨rfl,rfl⟩;go_wp2_with fail
 refine(vd.o w2 HB.o).mono ?_;exact Aac):G:=i h2
def tu4{G p2 p4:Prop}(h2:p2)(h4:p4)(i:p2->p4->G:=by
 intro vd vb;have iS:=lh he;clear hB3 he;go_wp2;refine bodyPost_ret (v:=.tuple #[.agg #[vI 0,vI 0,.string ⟨#[]⟩],ev]) ?_ rfl ?_;·exact Ly
 .exact .err HLR.o HBZ.o (vd.o.below HB3.o) (vb.o.trans (.of_below HB3.o)) iS.o):G:=i h2 h4
def tu5{G p2 p3 p4:Prop}(h2:p2)(h3:p3)(h4:p4)(i:p2->p3->p4->G:=by
 intro vd Ls vb;go_wp2;refine bodyPost_ret (v:=.tuple #[.agg #[vI 0,vI 0,.string ⟨#[]⟩],.iface T1 (.pointer P1)]) ?_ rfl ?_;·exact ru
 .exact .err' HLR.o HFz.o vd.o.1.1 Ls.o vb.o):G:=i h2 h3 h4
def tu6{G p1:Prop}(h1:p1)(i:p1->G:=by
 intro tH;go_wp2_with fail
 refine HF.o.mono ?_;rintro e w2⟨⟨b,rfl,h1,h2⟩,hB⟩;exact⟨rfl,⟨b,rfl,Nat.le_trans tH.o.size h1,h2⟩,tH.o.trans (hB.mono tH.o.size)⟩):G:=i h1
def tu7{G:Prop}(i:G:=by
 refine iB ?_;intro K hK;refine Acb ?_;clear hK K b0 b1 b2;intro W3 M3 k3 n3 t3 fj HB3 bP;refine zD ?_;refine Xi ?_;intro q0 q1 q2 z0 z1 z2;obtain⟨s3,q3⟩:=R;exact tr1):G:=i
def tu8{G p1 p2:Prop}(h1:p1)(h2:p2)(i:p1->p2->G:=by
 intro tH vd;obtain⟨q0,q1,q2,z0,z1,z2⟩:=(HLR.o.fr (tH.o.trans hF3')).six;have dH:=lh (vd.o.drew.below hB3);have bP:=lh (tH.o.trans hF3');exact AcS):G:=i h1 h2
structure LVal where
 kind:Int
 n:Int
 s:kB
def LVal.agg(v:LVal):Value:=.agg #[vI v.kind,vI v.n,.string v.s]
structure LBind where
 name:kB
 v:LVal
 kind:Int
 ready:Bool
def LBind.cells(b:LBind):List Value:=[.string b.name,vI b.v.kind,vI b.v.n,.string b.v.s,vI b.kind,.bool b.ready]
structure LProp where
 name:kB
 v:LVal
 fixed:Bool
def LProp.cells(b:LProp):List Value:=[.string b.name,vI b.v.kind,vI b.v.n,.string b.v.s,.bool b.fixed]
structure LObj where
 props:List LProp
 code:Int
structure LScope where
 outer:Int
 object:Int
 names:List LBind
structure LHeap where
 objects:List LObj
 scopes:List LScope
def Zh(a b:kB):Bool:=decide (a=b)
theorem Zb1{a b:kB}:Zh a b=true↔a=b:=by simp[Zh]
def Z5d{a b:kB}(h:a.toList=b.toList):a=b:=by
 obtain⟨⟨a⟩⟩:=a;obtain⟨⟨b⟩⟩:=b;simpa[ByteArray.toList_eq]using h
def TZ(a b:kB):(a.toList==b.toList)=Zh a b:=by
 unfold Zh;by_cases h:a=b;·simp[h]
 .simp only[h,decide_false,beq_eq_false_iff_ne,ne_eq];exact λe=>h (Z5d e)
theorem getElem?_flatMap{α β:Type}(f:α->List β)(m:Nat)(hf:∀a,(f a).length=m)(l:List α)(i j:Nat)(o:j<m) :
 (l.flatMap f)[i*m+j]?=(l[i]?).bind λa=>(f a)[j]?:=by
 induction l generalizing i with
 |nil=>simp
 |cons a l g=>
   rw[List.flatMap_cons];cases i with
   |zero=>rw[List.getElem?_append_left (by rw[hf];omega)];simp
   |succ i=>
     rw[List.getElem?_append_right RN,hf,show(i+1)*m+j-m=i*m+j by rw[Nat.succ_mul];omega,g];simp
def SV{w:kV}{base:Nat}{e:TypeId}{m:Nat}{v:Value}{n:Nat}{α:Type}{f:α->List Value}{l:List α}(hf:∀a,(f a).length=m)
 (h:w.ownsRow base e m v n (l.flatMap f)){g:Nat}(p:v.ownBlock=some g){i j:Nat}{a:α}{x:Value}(hi:l[i]?=some a)(o:(f a)[j]?=some x) :
 w.cell? ⟨g,i*m+j,none⟩=some x:=by
 have u:j<m:=by rw[<-hf a];exact(List.getElem?_eq_some_iff.1 o).1
 have:=h.cells p (i*m+j) x (by rw[getElem?_flatMap f m hf l i j u,hi];exact o);rwa[show((⟨g,0,none⟩:Addr).add (i*m+j))=⟨g,i*m+j,none⟩ by unfold Addr.add;split<;>simp_all]at this
def Z3{w w':kV}{base:Nat}{e:TypeId}{m:Nat}{v:Value}{n:Nat}{o:List Value}(h:w.ownsRow base e m v n o)
 (hb:∀g,v.ownBlock=some g->w'.heap[g]?=w.heap[g]?):w'.ownsRow base e m v n o:=by
 refine⟨h.1,?_⟩;rcases h.2 with hn|⟨g,cap,p,rfl,u,y,F⟩;·exact .inl hn
 .exact .inr ⟨g,cap,p,rfl,u,by rw[hb g rfl];exact y,F⟩
def Z4{w:kV}{base:Nat}{e:TypeId}{m:Nat}{v:Value}{n:Nat}{o:List Value}(h:w.ownsRow base e m v n o) :
 (v=.slice none 0 0/\n=0)\/∃g cap,v=.slice (some ⟨g,0,none⟩) n cap/\n<=cap/\cap<=maxLen/\g<w.heap.size:=by
 rcases h.2 with hn|⟨g,cap,F,rfl,_,p,u,y,_⟩;·exact .inl hn
 .exact .inr ⟨g,cap,rfl,u,y,(Array.getElem?_eq_some_iff.1 p).1⟩
def U'{w:kV}{base:Nat}{e:TypeId}{m:Nat}{v:Value}{n:Nat}{u:List Value}(h:w.ownsRow base e m v n u){g:Nat}(p:v.ownBlock=some g)(o:Nat) :
 w.frozen? ⟨g,o,none⟩=false:=by
 rcases h.2 with⟨rfl,_⟩|⟨F,cap,G,rfl,_,y,_⟩;·cases p
 .simp only[Value.ownBlock,Option.some.injEq]at p;subst p;simp[World.frozen?,y]
inductive Role
 |hp|objs|scps
 |obj(i:Nat)|prp(i:Nat)|scp(i:Nat)|nam(i:Nat)
structure HL where
 vo:Value
 vs:Value
 ob:Nat->Nat
 pv:Nat->Value
 sb:Nat->Nat
 nv:Nat->Value
def zy(f:Nat->Nat)(n:Nat):List Value:=(List.range n).map λi=>.pointer (some ⟨f i,0,none⟩)
structure HeapAt(ρ:Nat->Option Role)(w:kV)(hb ho:Nat)(L:HL)(H:LHeap):Prop where
 cellO:w.cell? ⟨hb,ho,none⟩=some L.vo
 cellS:w.cell? ⟨hb,ho+1,none⟩=some L.vs
 frO:w.frozen? ⟨hb,ho,none⟩=false
 frS:w.frozen? ⟨hb,ho+1,none⟩=false
 rowO:w.ownsRow 0 126 1 L.vo H.objects.length (zy L.ob H.objects.length)
 rowS:w.ownsRow 0 136 1 L.vs H.scopes.length (zy L.sb H.scopes.length)
 obj:∀i o,H.objects[i]?=some o->w.heap[L.ob i]?=some (.cells #[L.pv i,vI o.code] 129 (0,0))/\w.ownsRow 0 134 5 (L.pv i) o.props.length (o.props.flatMap LProp.cells)
 scp:∀i s,H.scopes[i]?=some s->w.heap[L.sb i]?=some (.cells #[vI s.outer,vI s.object,L.nv i] 141 (0,0))/\w.ownsRow 0 185 6 (L.nv i) s.names.length (s.names.flatMap LBind.cells)
 rhp:ρ hb=some .hp
 rvo:∀g,L.vo.ownBlock=some g->ρ g=some .objs
 rvs:∀g,L.vs.ownBlock=some g->ρ g=some .scps
 rob:∀i,i<H.objects.length->ρ (L.ob i)=some (.obj i)
 rpv:∀i g,i<H.objects.length->(L.pv i).ownBlock=some g->ρ g=some (.prp i)
 rsb:∀i,i<H.scopes.length->ρ (L.sb i)=some (.scp i)
 rnv:∀i g,i<H.scopes.length->(L.nv i).ownBlock=some g->ρ g=some (.nam i)
 live:∀b,ρ b≠none->b<w.heap.size
theorem getElem?_lt{α:Type}{l:List α}{i:Nat}{a:α}(h:l[i]?=some a):i<l.length:=(List.getElem?_eq_some_iff.1 h).1
def HeapAt.keep{ρ:Nat->Option Role}{w w':kV}{hb ho:Nat}{L:HL}{H:LHeap}(h:HeapAt ρ w hb ho L H)(hs:w.heap.size<=w'.heap.size)
 (hk:∀b,ρ b≠none->w'.heap[b]?=w.heap[b]?):HeapAt ρ w' hb ho L H where
 cellO:=(World.cell?_of_block (hk hb Sk)).trans h.cellO
 cellS:=(World.cell?_of_block (hk hb Sk)).trans h.cellS
 frO:=(World.frozen?_of_block (hk hb Sk)).trans h.frO
 frS:=(World.frozen?_of_block (hk hb Sk)).trans h.frS
 rowO:=Z3 h.rowO λg m=>hk g (by simp[h.rvo g m])
 rowS:=Z3 h.rowS λg m=>hk g (by simp[h.rvs g m])
 obj i o ho:=⟨by rw[hk _ (by simp[h.rob i (getElem?_lt ho)])];exact(h.obj i o ho).1,Z3 (h.obj i o ho).2 λg m=>hk g (by simp[h.rpv i g (getElem?_lt ho) m])⟩
 scp i o ho:=⟨by rw[hk _ (by simp[h.rsb i (getElem?_lt ho)])];exact(h.scp i o ho).1,Z3 (h.scp i o ho).2 λg m=>hk g (by simp[h.rnv i g (getElem?_lt ho) m])⟩
 rhp:=h.rhp
 rvo:=h.rvo
 rvs:=h.rvs
 rob:=h.rob
 rpv:=h.rpv
 rsb:=h.rsb
 rnv:=h.rnv
 live b hb:=Nat.lt_of_lt_of_le (h.live b hb) hs
def HeapAt.below{ρ:Nat->Option Role}{w w':kV}{hb ho:Nat}{L:HL}{H:LHeap}(h:HeapAt ρ w hb ho L H)(g:kW w w'):HeapAt ρ w' hb ho L H:=
 h.keep g.size λb hb=>g.block b (h.live b hb)
structure Fr(ρ ρ':Nat->Option Role)(hb ho:Nat)(w w':kV):Prop where
 os:w'.os=w.os
 tape:w'.tape=w.tape
 output:w'.output=w.output
 size:w.heap.size<=w'.heap.size
 block:∀k,k<w.heap.size->ρ k=none->w'.heap[k]?=w.heap[k]?
 role:∀k,k<w.heap.size->ρ k=none->ρ' k=none
 cell:∀o,o≠ho->o≠ho+1->w'.cell? ⟨hb,o,none⟩=w.cell? ⟨hb,o,none⟩
 frz:∀o,w'.frozen? ⟨hb,o,none⟩=w.frozen? ⟨hb,o,none⟩
theorem Fr.refl(ρ:Nat->Option Role)(hb ho:Nat)(w:kV):Fr ρ ρ hb ho w w:=⟨rfl,rfl,rfl,Nat.le_refl _,λ_ _ _=>rfl,λ_ _ h=>h,λ_ _ _=>rfl,λ_=>rfl⟩
theorem Fr.trans{ρ ρ' ρ'':Nat->Option Role}{hb ho:Nat}{w w' dN:kV}(a:Fr ρ ρ' hb ho w w')(b:Fr ρ' ρ'' hb ho w' dN):Fr ρ ρ'' hb ho w dN:=
 ⟨b.os.trans a.os, b.tape.trans a.tape, b.output.trans a.output, Nat.le_trans a.size b.size,
  λk hk hr=>(b.block k (Nat.lt_of_lt_of_le hk a.size) (a.role k hk hr)).trans (a.block k hk hr),
  λk hk hr=>b.role k (Nat.lt_of_lt_of_le hk a.size) (a.role k hk hr),
  λo g m=>(b.cell o g m).trans (a.cell o g m),λo=>(b.frz o).trans (a.frz o)⟩
def Fr.of_below{ρ:Nat->Option Role}{hb ho:Nat}{w w':kV}(m:hb<w.heap.size)(g:kW w w'):Fr ρ ρ hb ho w w':=
 ⟨g.os,g.tape,g.output,g.size,λk hk _=>g.block k hk,λ_ _ h=>h,λ_ _ _=>g.cell (p:=⟨hb,_,none⟩) m,λ_=>g.frozen (p:=⟨hb,_,none⟩) m⟩
theorem HeapAt.drew{ρ:Nat->Option Role}{w:kV}{hb ho:Nat}{L:HL}{H:LHeap}(h:HeapAt ρ w hb ho L H):HeapAt ρ w.drew hb ho L H:=h.keep (Nat.le_refl _) λ_ _=>rfl
theorem Fr.drew{ρ ρ':Nat->Option Role}{hb ho:Nat}{w w':kV}(a:Fr ρ ρ' hb ho w w'):Fr ρ ρ' hb ho w w'.drew:=⟨a.os,a.tape,a.output,a.size,a.block,a.role,a.cell,a.frz⟩
theorem HeapAt.hbLt{ρ:Nat->Option Role}{w:kV}{hb ho:Nat}{L:HL}{H:LHeap}(h:HeapAt ρ w hb ho L H):hb<w.heap.size:=h.live hb Sk
def TA{w w1:kV}{c:Array Value}{T:TypeId}(g:Below (w.alloc (.cells c T)).heap.size (w.alloc (.cells c T)) w1)(i:Nat)(x:Value)(h:c[i]?=some x):w1.cell? ⟨w.heap.size,i,none⟩=some x:=
 (g.cell (p:=⟨w.heap.size,i,none⟩) Qm).trans ((World.cell?_alloc_new _ _ _ i).trans h)
def Z1k{w w1:kV}{c:Array Value}{T:TypeId}(g:Below (w.alloc (.cells c T)).heap.size (w.alloc (.cells c T)) w1)(i:Nat):w1.frozen? ⟨w.heap.size,i,none⟩=false:=
 (g.frozen (p:=⟨w.heap.size,i,none⟩) Qm).trans (World.frozen?_alloc_new _ _ _ _)
theorem Z5s{w w1:kV}{o:Obj}(g:Below (w.alloc o).heap.size (w.alloc o) w1):w.heap.size<w1.heap.size:=by have:=g.size;simp at this;omega
theorem Xw{w w1:kV}{o:Obj}(g:Below (w.alloc o).heap.size (w.alloc o) w1):kW w w1:=((Below.refl _ _).alloc (Nat.le_refl _) _).trans (g.mono Qm)
theorem Z9m{k:IntKind}{a b:Int}(h:a=b):Ending.returned (.int k a)=.returned (.int k b):=by rw[h]
theorem Zpu{a b:Bool}(h:a=b):Ending.returned (.bool a)=.returned (.bool b):=by rw[h]
theorem Zb{w:kV}{o:Obj}{p:Addr}(h:p.block<w.heap.size):(w.alloc o).cell? p=w.cell? p:=((Below.refl w.heap.size w).alloc (Nat.le_refl _) o).cell h
theorem TT{w:kV}{o:Obj}{p:Addr}(h:p.block<w.heap.size):(w.alloc o).frozen? p=w.frozen? p:=((Below.refl w.heap.size w).alloc (Nat.le_refl _) o).frozen h
def LHeap.scope? (H:LHeap)(n:Int):Option LScope:=if n<0 then none else H.scopes[n.toNat]?
def LHeap.object? (H:LHeap)(n:Int):Option LObj:=if n<0 then none else H.objects[n.toNat]?
theorem Zcy(f:Nat->Nat)(n i:Nat)(h:i<n):(zy f n)[i]?=some (.pointer (some ⟨f i,0,none⟩)):=by simp[zy,h]
def Zq{w:kV}{base:Nat}{e:TypeId}{v:Value}{n:Nat}{m:List Value}(h:w.ownsRow base e 1 v n m){g:Nat}(o:v.ownBlock=some g){i:Nat}{x:Value}(hi:m[i]?=some x) :
 w.cell? ⟨g,i,none⟩=some x:=by
 have:=h.cells o i x hi;rwa[show((⟨g,0,none⟩:Addr).add i)=⟨g,i,none⟩ by unfold Addr.add;split<;>simp_all]at this
section
variable {ρ:Nat->Option Role}{w:kV}{hb ho:Nat}{L:HL}{H:LHeap}
def WI(h:HeapAt ρ w hb ho L H)(n:Int)(hn:H.scope? n=none) :
 kC 56 #[.pointer (some ⟨hb,ho,none⟩),vI n] w λe w'=>e=.returned (.tuple #[.pointer none,.bool false])/\w=w':=by
 have hc:=h.cellS;by_cases p:n<0
 .clear h;exact Zqw
 .obtain⟨m,rfl⟩:=Int.eq_ofNat_of_zero_le (by omega:0<=n);have y:H.scopes.length<=m:=by simpa[LHeap.scope?,p]using hn
  rcases Z4 h.rowS with⟨o,F⟩|⟨g,cap,o,I,u,_⟩
  .rw[o]at hc;clear h hn p o;exact Zqw
  .rw[o]at hc;clear h hn p o;unfold maxLen at u;exact Zqw
def UY(h:HeapAt ρ w hb ho L H)(m:Nat)(hn:m<H.scopes.length) :
 kC 56 #[.pointer (some ⟨hb,ho,none⟩),vI m] w λe w'=>e=.returned (.tuple #[.pointer (some ⟨L.sb m,0,none⟩),.bool true])/\w=w':=by
 have hc:=h.cellS;rcases Z4 h.rowS with⟨hv,p⟩|⟨g,cap,hv,u,o,_⟩;·omega
 .have hp:=Zq h.rowS (g:=g) QB (Zcy L.sb _ m hn);rw[hv]at hc;clear h hv;unfold maxLen at o;exact Zqw
def Z87(h:HeapAt ρ w hb ho L H)(n:Int)(hn:H.object? n=none) :
 kC 50 #[.pointer (some ⟨hb,ho,none⟩),vI n] w λe w'=>e=.returned (.tuple #[.pointer none,.bool false])/\w=w':=by
 have hc:=h.cellO;by_cases p:n<0
 .clear h;exact Zoj
 .obtain⟨m,rfl⟩:=Int.eq_ofNat_of_zero_le (by omega:0<=n);have y:H.objects.length<=m:=by simpa[LHeap.object?,p]using hn
  rcases Z4 h.rowO with⟨o,F⟩|⟨g,cap,o,I,u,_⟩
  .rw[o]at hc;clear h hn p o;exact Zoj
  .rw[o]at hc;clear h hn p o;unfold maxLen at u;exact Zoj
def Z70(h:HeapAt ρ w hb ho L H)(m:Nat)(hn:m<H.objects.length) :
 kC 50 #[.pointer (some ⟨hb,ho,none⟩),vI m] w λe w'=>e=.returned (.tuple #[.pointer (some ⟨L.ob m,0,none⟩),.bool true])/\w=w':=by
 have hc:=h.cellO;rcases Z4 h.rowO with⟨hv,p⟩|⟨g,cap,hv,u,o,_⟩;·omega
 .have hp:=Zq h.rowO (g:=g) QB (Zcy L.ob _ m hn);rw[hv]at hc;clear h hv;unfold maxLen at o;exact Zoj
end
theorem findIdx?_none_of{α:Type}{p:α->Bool}{l:List α}(h:∀j a,j<l.length->l[j]?=some a->p a=false):l.findIdx? p=none:=by
 rw[List.findIdx?_eq_none_iff];intro x hx;obtain⟨j,g,rfl⟩:=List.getElem_of_mem hx;exact h j _ g (List.getElem?_eq_getElem g)
theorem findIdx?_some_of{α:Type}{p:α->Bool}{l:List α}{k:Nat}{a:α}(h:∀j a,j<k->l[j]?=some a->p a=false)(hk:l[k]?=some a)(g:p a=true):l.findIdx? p=some k:=by
 rw[List.findIdx?_eq_some_iff_getElem];obtain⟨m,rfl⟩:=List.getElem?_eq_some_iff.1 hk;refine⟨m,g,λj o=>?_⟩;rw[h j _ o (List.getElem?_eq_getElem Qe)];simp
def BV:Option Nat->Int|some k=>k|none=>-1
def LBind.is(name:kB)(b:LBind):Bool:=Zh b.name name
def LProp.is(name:kB)(b:LProp):Bool:=Zh b.name name
def LScope.idx(s:LScope)(name:kB):Option Nat:=s.names.findIdx? (LBind.is name)
def LObj.idx(o:LObj)(name:kB):Option Nat:=o.props.findIdx? (LProp.is name)
def Zbe(w:kV)(g:Addr)(name n s:kB)(k m o:Int)(rd:Bool)(hx:w.cell? g=some (.string name))(hb:g.block<w.heap.size) :
 kC 93 #[.agg #[.string n,vI k,vI m,.string s,vI o,.bool rd],.pointer (some g)] w λe w'=>e=.returned (.bool (Zh n name))/\kW w w':=by
 go_enter func93,ntmps93
 exact Zsc
def Za9(w:kV)(g:Addr)(name n s:kB)(k m:Int)(rd:Bool)(hx:w.cell? g=some (.string name))(hb:g.block<w.heap.size) :
 kC 91 #[.agg #[.string n,vI k,vI m,.string s,.bool rd],.pointer (some g)] w λe w'=>e=.returned (.bool (Zh n name))/\kW w w':=by
 go_enter func91,ntmps91
 exact Zsc
def indexB(w:kV)(bx:Addr)(name:kB)(hx:w.cell? bx=some (.string name))(hb:bx.block<w.heap.size)(v:Value)(l:List LBind)
 (af:w.ownsRow 0 185 6 v l.length (l.flatMap LBind.cells)) :
 kC 92 #[v,.func (.func 93) #[] #[.pointer (some bx)]] w λe w'=>e=.returned (vI (BV (l.findIdx? (LBind.is name))))/\kW w w':=by
 have ae:=λg hg i j a x=>SV (f:=LBind.cells) (m:=6) (λ_=>rfl) af (g:=g) hg (i:=i) (j:=j) (a:=a) (x:=x);rcases Z4 af with⟨hv,hz⟩|⟨g,c,hv,o,u,hg⟩;·exact AbZ
 .subst hv;have hc:=ae g rfl;clear af ae;obtain⟨n,hn⟩:∃n,n=l.length:=⟨_,rfl⟩
  rw[<-hn]at o ⊢;unfold maxLen at u;have HN:=Lib.hid hn;clear hn;go_enter func92,ntmps92
  go_wp2;go_loopw [5,8] (λ_ i wr=>∃k:Nat,i=(vI k)/\k<=n/\(∀j a,j<k->l[j]?=some a->LBind.is name a=false)/\kW w wr) (λ_ i _=>n-(intOf i).toNat)
  case atStart=>exact⟨0,rfl,by omega,λj a hj=>by omega,Below.refl _ _⟩
  case round=>
   obtain⟨k,rfl,hk,dG,hB⟩:=hrel;have aG:n=l.length:=HN.o;by_cases F:k<n
   .have y:k<l.length:=by omega
    have dX:l[k]?=some l[k]:=List.getElem?_eq_getElem y;generalize l[k]=b at dX;obtain⟨bn,⟨bk,bm,bs⟩,mp,kh⟩:=b;refine Abx ?_;intro c0 c1 c2 c3 c4 c5 mq du;have HG:=Lib.hid dX;have HO:=Lib.hid dG;clear dX dG hc hx aG;by_cases hq:Zh bn name=true
    .go_wp2_with (go_at_call 93;refine(Zbe _ bx name bn bs bk bm mp kh mq du).mono ?_;rintro e w1⟨rfl,aQ⟩)
     exact Zug
    .go_wp2_with (go_at_call 93;refine(Zbe _ bx name bn bs bk bm mp kh mq du).mono ?_;rintro e w1⟨rfl,aQ⟩)
     exact Aa0
   .exact Abs
def Zx8(w:kV)(u:Addr)(name:kB)(hx:w.cell? u=some (.string name))(hb:u.block<w.heap.size)(v:Value)(l:List LProp)
 (F:w.ownsRow 0 134 5 v l.length (l.flatMap LProp.cells)) :
 kC 90 #[v,.func (.func 91) #[] #[.pointer (some u)]] w λe w'=>e=.returned (vI (BV (l.findIdx? (LProp.is name))))/\kW w w':=by
 have J:=λg y i j a x=>SV (f:=LProp.cells) (m:=5) (λ_=>rfl) F (g:=g) y (i:=i) (j:=j) (a:=a) (x:=x);rcases Z4 F with⟨O,hz⟩|⟨g,c,O,h1,h2,y⟩
 .subst O;have :l=[]:=List.eq_nil_of_length_eq_zero hz;subst this;clear F J hz;go_enter func90,ntmps90
  exact Aa6
 .subst O;have hc:=J g rfl;clear F J;obtain⟨n,hn⟩:∃n,n=l.length:=⟨_,rfl⟩
  rw[<-hn]at h1 ⊢;unfold maxLen at h2;have HN:=Lib.hid hn;clear hn;go_enter func90,ntmps90
  go_wp2;go_loopw [5,8] (λ_ i wr=>∃k:Nat,i=(vI k)/\k<=n/\(∀j a,j<k->l[j]?=some a->LProp.is name a=false)/\kW w wr) (λ_ i _=>n-(intOf i).toNat)
  case atStart=>exact⟨0,rfl,by omega,λj a hj=>by omega,Below.refl _ _⟩
  case round=>
   obtain⟨k,rfl,hk,dG,hB⟩:=hrel;have aG:n=l.length:=HN.o;by_cases aA:k<n
   .have aY:k<l.length:=by omega
    have o:l[k]?=some l[k]:=List.getElem?_eq_getElem aY;generalize l[k]=b at o;obtain⟨I,⟨U,X,Y⟩,Z⟩:=b;have c0:wr.cell? ⟨g,k*5,none⟩=some (.string I):=(hB.cell (p:=⟨g,k*5,none⟩) y).trans (hc k 0 _ _ o rfl);have c1:wr.cell? ⟨g,k*5+1,none⟩=some (vI U):=(hB.cell (p:=⟨g,k*5+1,none⟩) y).trans (hc k 1 _ _ o rfl);have c2:wr.cell? ⟨g,k*5+2,none⟩=some (vI X):=(hB.cell (p:=⟨g,k*5+2,none⟩) y).trans (hc k 2 _ _ o rfl)
    have c3:wr.cell? ⟨g,k*5+3,none⟩=some (.string Y):=(hB.cell (p:=⟨g,k*5+3,none⟩) y).trans (hc k 3 _ _ o rfl);have c4:wr.cell? ⟨g,k*5+4,none⟩=some (.bool Z):=(hB.cell (p:=⟨g,k*5+4,none⟩) y).trans (hc k 4 _ _ o rfl);have mq:wr.cell? u=some (.string name):=(hB.cell hb).trans hx;have du:u.block<wr.heap.size:=Nat.lt_of_lt_of_le hb hB.size;have HG:=Lib.hid o;have HO:=Lib.hid dG;clear o dG hc hx aG;by_cases hq:Zh I name=true
    .go_wp2_with (go_at_call 91;refine(Za9 _ u name I Y U X Z mq du).mono ?_;rintro e w1⟨rfl,aQ⟩)
     exact Zug
    .go_wp2_with (go_at_call 91;refine(Za9 _ u name I Y U X Z mq du).mono ?_;rintro e w1⟨rfl,aQ⟩)
     go_roundw
     case rel=>
      refine⟨k+1,by go_num,by omega,λj a hj ha=>?_,hB.trans (aQ.mono hB.size)⟩;by_cases pS:j=k
      .subst pS;have:=HG.o.symm.trans ha;simp only[Option.some.injEq]at this;subst this;simpa[LProp.is]using hq
      .exact HO.o j a Qe ha
     case measure=>simp[intOf];omega
   .exact Abs
section
variable {ρ:Nat->Option Role}{w:kV}{hb ho:Nat}{L:HL}{H:LHeap}
def TM(v:Value)(size:Nat):Option Nat->Option Addr
 |some k=>v.ownBlock.map λg=>⟨g,k*size,none⟩
 |none=>none
def Z6v(h:HeapAt ρ w hb ho L H)(i:Nat)(s:LScope)(hi:H.scopes[i]?=some s)(name:kB) :
 kC 58 #[.pointer (some ⟨L.sb i,0,none⟩),.string name] w λe w'=>e=.returned (.pointer (TM (L.nv i) 6 (s.idx name)))/\kW w w':=by
 obtain⟨ac,F⟩:=h.scp i s hi;have Y:L.sb i<w.heap.size:=(Array.getElem?_eq_some_iff.1 ac).1;have X:w.cell? ⟨L.sb i,2,none⟩=some (L.nv i):=Qk
 have J:=F.alloc (.cells #[.string name] 9);have o:=indexB (w.alloc (.cells #[.string name] 9)) ⟨w.heap.size,0,none⟩ name Qm Qm _ s.names J;clear h ac hi;rcases jf:s.idx name with _|k
 .have u:s.names.findIdx? (LBind.is name)=none:=jf;rw[u]at o;have I:=Lib.hid o;have Z:=Lib.hid F;clear jf u F J o;generalize L.nv i=v at *;rcases Z4 Z.o with⟨m,hz⟩|⟨g,c,m,h1,O,hg⟩
  all_goals
   subst m;try unfold maxLen at O
   go_enter func58,ntmps58
   go_wp2_with fail
   refine I.o.mono ?_;rintro e w1⟨rfl,y⟩;have U:=Lib.hid y;clear y;simp only[BV];go_wp2;go_ret;exact⟨rfl,((Below.refl _ _).alloc (Nat.le_refl _) _).trans (U.o.mono Qm)⟩
 .have u:s.names.findIdx? (LBind.is name)=some k:=jf;have aY:k<s.names.length:=(List.findIdx?_eq_some_iff_getElem.1 u).1;rw[u]at o;have I:=Lib.hid o;rcases Z4 F with⟨m,hz⟩|⟨g,c,m,h1,O,hg⟩;·omega
  rw[m]at X I;have HN:=Lib.hid m;clear jf u F J o m;unfold maxLen at O;go_enter func58,ntmps58
  go_wp2_with fail
  refine I.o.mono ?_;rintro e w1⟨rfl,y⟩;have Lv:vC w1 (L.sb i) 2 (.slice (some ⟨g,0,none⟩) s.names.length c):=(y.cell (p:=⟨L.sb i,2,none⟩) Qi).trans ((Zb Y).trans X);have U:=Lib.hid y;clear y;simp only[BV];go_wp2;go_ret;exact⟨by rw[HN.o];rfl,((Below.refl _ _).alloc (Nat.le_refl _) _).trans (U.o.mono Qm)⟩
def Zd8(h:HeapAt ρ w hb ho L H)(i:Nat)(s:LObj)(hi:H.objects[i]?=some s)(name:kB) :
 kC 51 #[.pointer (some ⟨L.ob i,0,none⟩),.string name] w λe w'=>e=.returned (vI (BV (s.idx name)))/\kW w w':=by
 obtain⟨ac,m⟩:=h.obj i s hi;have O:L.ob i<w.heap.size:=(Array.getElem?_eq_some_iff.1 ac).1;have U:w.cell? ⟨L.ob i,0,none⟩=some (L.pv i):=Qk
 have o:=m.alloc (.cells #[.string name] 9);have p:=Zx8 (w.alloc (.cells #[.string name] 9)) ⟨w.heap.size,0,none⟩ name Qm Qm _ s.props o;have F:=Lib.hid p;have I:=Z4 m;clear h ac hi p o m;generalize L.pv i=v at *;rcases I with⟨u,X⟩|⟨g,c,u,Y,Z,hg⟩
 all_goals
  subst u;go_enter func51,ntmps51
  go_wp2_with fail
  refine F.o.mono ?_;rintro e w1⟨rfl,y⟩;have J:=Lib.hid y;clear y;go_wp2;go_ret;exact⟨rfl,((Below.refl _ _).alloc (Nat.le_refl _) _).trans (J.o.mono Qm)⟩
end
def LVal.zero:LVal:=⟨0,0,⟨#[]⟩⟩
def LHeap.get(H:LHeap)(n:Int)(name:kB):Option LVal:=(H.object? n).bind λo=>(o.idx name).bind λk=>(o.props[k]?).map (·.v)
theorem LHeap.object?_some{H:LHeap}{n:Int}{o:LObj}(h:H.object? n=some o):∃m:Nat,n=m/\H.objects[m]?=some o:=by
 unfold LHeap.object? at h;split at h;·cases h
 .exact⟨n.toNat,by omega,h⟩
theorem LHeap.scope?_some{H:LHeap}{n:Int}{o:LScope}(h:H.scope? n=some o):∃m:Nat,n=m/\H.scopes[m]?=some o:=by
 unfold LHeap.scope? at h;split at h;·cases h
 .exact⟨n.toNat,by omega,h⟩
def LObj.idx_some{o:LObj}{name:kB}{k:Nat}(h:o.idx name=some k):∃p,o.props[k]?=some p/\Zh p.name name=true:=by
 exact Zx1
def LScope.idx_some{o:LScope}{name:kB}{k:Nat}(h:o.idx name=some k):∃p,o.names[k]?=some p/\Zh p.name name=true:=by
 exact Zx1
section
variable {ρ:Nat->Option Role}{w:kV}{hb ho:Nat}{L:HL}{H:LHeap}
theorem Zo9{n:Int}{name:kB}(hob:H.object? n=none):H.get n name=none:=by simp[LHeap.get,hob]
def Zgy(h:HeapAt ρ w hb ho L H)(n:Int)(name:kB) :
 kC 57 #[.pointer (some ⟨hb,ho,none⟩),vI n,.string name] w λe w'=>e=.returned (.tuple #[((H.get n name).getD LVal.zero).agg,.bool (H.get n name).isSome])/\kW w w':=by
 have y:∀o,HeapAt ρ (w.alloc o) hb ho L H:=λo=>h.below ((Below.refl _ _).alloc (Nat.le_refl _) _);rcases hob:H.object? n with _|o
 .have J:=Lib.hid (Z87 (y (.cells #[vI 0,vI 0,.string ⟨#[]⟩] 71)) n hob);rw[Zo9 hob];clear h y hob;go_enter func57,ntmps57
  go_wp2_with fail
  refine J.o.mono ?_;rintro e w1⟨rfl,rfl⟩;go_wp2;exact bodyPost_ret (v:=.tuple #[LVal.zero.agg,.bool false]) (by simp[results,results57,go_sem,LVal.agg,LVal.zero]) rfl ⟨rfl,(Below.refl _ _).alloc (Nat.le_refl _) _⟩
 .obtain⟨m,rfl,F⟩:=LHeap.object?_some hob;obtain⟨O,U⟩:=h.obj m o F;have aA:L.ob m<w.heap.size:=(Array.getElem?_eq_some_iff.1 O).1;have X:w.cell? ⟨L.ob m,0,none⟩=some (L.pv m):=by simp[vC,World.cell?,O]
  have J:=Lib.hid (Z70 (y (.cells #[vI 0,vI 0,.string ⟨#[]⟩] 71)) m (getElem?_lt F));have HF:=Lib.hid (Zd8 (y (.cells #[vI 0,vI 0,.string ⟨#[]⟩] 71)) m o F name);rcases hk:o.idx name with _|k
  .have I:H.get m name=none:=by simp[LHeap.get,hob,hk]
   rw[I];rw[hk]at HF;clear h y hob I hk F O U X aA;go_enter func57,ntmps57
   go_wp2_with fail
   refine J.o.mono ?_;rintro e w1⟨rfl,rfl⟩;go_wp2_with fail
   refine Zxr ?_;intro w1 hB q0 q1 q2 f0 f1 f2 hs;have u:=Lib.hid (Xw hB);clear hB;go_wp2;refine bodyPost_ret (v:=.tuple #[LVal.zero.agg,.bool false]) ?_ rfl ?_;·simp[results,results57,go_sem,LVal.agg,LVal.zero,q0,q1,q2]
   .exact⟨rfl,((u.o.setCell (Nat.le_refl _) _).setCell (Nat.le_refl _) _).setCell (Nat.le_refl _) _⟩
  .obtain⟨p,hp,_⟩:=LObj.idx_some hk;have I:H.get m name=some p.v:=by simp[LHeap.get,hob,hk,hp]
   rw[I];rw[hk]at HF;obtain⟨pn,⟨pk,pm,ps⟩,pf⟩:=p;have aY:=getElem?_lt hp;rcases Z4 U with⟨hv,hz⟩|⟨g,c,hv,h2,h3,Z⟩;·omega
   rw[hv]at X;have Y:=λj x=>SV (f:=LProp.cells) (m:=5) (λ_=>rfl) U (g:=g) QB (i:=k) (j:=j) (x:=x) hp;have r1:=Y 1 (vI pk) rfl;have r2:=Y 2 (vI pm) rfl;have r3:=Y 3 (.string ps) rfl;clear h y hob I hk F O U Y hp hv;unfold maxLen at h3;go_enter func57,ntmps57
   go_wp2_with fail
   refine J.o.mono ?_;rintro e w1⟨rfl,rfl⟩;go_wp2_with fail
   refine Zxr ?_;intro w1 hB q0 q1 q2 f0 f1 f2 hs;have u:=Xw hB;have c0:=(u.cell (p:=⟨L.ob m,0,none⟩) aA).trans X;have c1:=(u.cell (p:=⟨g,k*5+1,none⟩) Z).trans r1;have c2:=(u.cell (p:=⟨g,k*5+2,none⟩) Z).trans r2;have c3:=(u.cell (p:=⟨g,k*5+3,none⟩) Z).trans r3;have HB:=Lib.hid u;clear hB u r1 r2 r3 X;go_wp2;refine bodyPost_ret (v:=.tuple #[.agg #[vI pk,vI pm,.string ps],.bool true]) ?_ rfl ?_;·simp[results,results57,go_sem,q0,q1,q2]
   .exact Zzo
end
def LHeap.has(H:LHeap)(n:Int)(name:kB):Bool:=
 match H.scope? n with
 |none=>false
 |some s=>if s.object<0 then(s.idx name).isSome else(H.get s.object name).isSome
def LHeap.WF(H:LHeap):Prop:=∀(i:Nat) s,H.scopes[i]?=some s->-1<=s.outer/\s.outer<i
def LHeap.findF(H:LHeap)(name:kB):Nat->Int->Int
 |0,_=>-1
 |f+1,n=>
   match H.scope? n with
   |none=>-1
   |some s=>if H.has n name then n else H.findF name f s.outer
def LHeap.find(H:LHeap)(n:Int)(name:kB):Int:=H.findF name (n+1).toNat n
section
variable {ρ:Nat->Option Role}{w:kV}{hb ho:Nat}{L:HL}{H:LHeap}
def has_eq{n:Int}{s:LScope}{name:kB}(h:H.scope? n=some s):H.has n name=if s.object<0 then(s.idx name).isSome else(H.get s.object name).isSome:=by
 simp[LHeap.has,h]
def Vu(h:HeapAt ρ w hb ho L H)(n:Int)(name:kB) :
 kC 24 #[.pointer (some ⟨hb,ho,none⟩),vI n,.string name] w λe w'=>e=.returned (.bool (H.has n name))/\kW w w':=by
 rcases hob:H.scope? n with _|s
 .have HC:=Lib.hid (WI h n hob);have J:H.has n name=false:=by simp[LHeap.has,hob]
  rw[J];clear h hob J;go_enter func24,ntmps24
  exact Zsm
 .have F:=has_eq (name:=name) hob;obtain⟨m,rfl,o⟩:=LHeap.scope?_some hob;obtain⟨u,y⟩:=h.scp m s o;have O:L.sb m<w.heap.size:=(Array.getElem?_eq_some_iff.1 u).1;have U:w.cell? ⟨L.sb m,1,none⟩=some (vI s.object):=by simp[vC,World.cell?,u]
  have HC:=Lib.hid (UY h m (getElem?_lt o));rw[F];by_cases ho:s.object<0
  .rw[if_pos ho];have HB:=Lib.hid (Z6v h m s o name);clear h hob F o u;rcases hk:s.idx name with _|k
   .rw[hk]at HB;simp only[TM]at HB;clear hk y;exact AaN
   .rw[hk]at HB;obtain⟨p,hp,_⟩:=LScope.idx_some hk;have X:=getElem?_lt hp;rcases Z4 y with⟨I,Y⟩|⟨g,c,I,Z,h3,cX⟩;·omega
    rw[I]at HB;simp only[TM,Value.ownBlock,Option.map_some]at HB;clear I y hk hp;exact AaN
  .rw[if_neg ho];have HB:=Lib.hid (Zgy h s.object name);clear h hob F o u y;generalize(H.get s.object name).isSome=r at *;generalize(H.get s.object name).getD LVal.zero=v at *;obtain⟨vk,vn,vs⟩:=v;simp only[LVal.agg]at HB;go_enter func24,ntmps24
   go_wp2_with fail
   refine HC.o.mono ?_;rintro e w1⟨rfl,rfl⟩;go_wp2_with fail
   refine HB.o.mono ?_;rintro e w1⟨rfl,hB⟩;have dn:=Lib.hid hB;clear hB;go_wp2;go_ret;exact⟨rfl,dn.o.alloc dn.o.size _⟩
def Zfn{n:Int}{name:kB}{f:Nat}(h:H.scope? n=none):H.findF name f n=-1:=by
 cases f<;>simp[LHeap.findF,h]
def Zev{n:Int}{s:LScope}{name:kB}{f:Nat}(h:H.scope? n=some s):H.findF name (f+1) n=if H.has n name then n else H.findF name f s.outer:=by
 simp[LHeap.findF,h]
def Zmo(L:HL)(H:LHeap)(n:Int)(b c:Value):Prop:=
 (∃(m:Nat) (s:LScope),n=m/\H.scopes[m]?=some s/\b=.pointer (some ⟨L.sb m,0,none⟩)/\c=.bool true)\/(H.scope? n=none/\b=.pointer none/\c=.bool false)
def Zdq(h:HeapAt ρ w hb ho L H)(X:H.WF)(n:Int)(name:kB) :
 kC 94 #[.pointer (some ⟨hb,ho,none⟩),vI n,.string name] w λe w'=>e=.returned (vI (H.find n name))/\kW w w':=by
 obtain⟨R,Y⟩:∃R,R=H.find n name:=⟨_,rfl⟩
 rw[<-Y];have HR:=Lib.hid Y;clear Y
 have yO:∀ b c,kC 56 #[.pointer (some ⟨hb,ho,none⟩),vI n] w (fun e w'=>e=.returned (.tuple #[b,c])∧w=w')→Zmo L H n b c →
  kC 94 #[.pointer (some ⟨hb,ho,none⟩),vI n,.string name] w λe w'=>e=.returned (vI R)/\kW w w':=by
  intro b c u J;have HC:=Lib.hid u;have HA:=Lib.hid J;have HH:=Lib.hid h;have HW:=Lib.hid X;clear u J h X;go_enter func94,ntmps94
  go_wp2_with fail
  refine HC.o.mono ?_;rintro e w1⟨rfl,rfl⟩;go_wp2_with fail
  go_loopw [1,7,8] (λx b c wr=>∃(m:Int) (f:Nat),x=(vI m)/\Zmo L H m b c/\H.findF name f m=R/\m<f/\kW w wr) (λx _ _ _=>(intOf x+1).toNat)
  case atStart=>exact⟨n,(n+1).toNat,rfl,HA.o,HR.o.symm,by omega,Below.refl _ _⟩
  case round=>
   obtain⟨m,f,rfl,J,hf,aA,y⟩:=hrel;rcases J with⟨k,s,rfl,hs,rfl,rfl⟩|⟨lD,rfl,rfl⟩
   .have O:=HH.o.below y;have F:H.scope? (k:Int)=some s:=by simp[LHeap.scope?,hs]
    obtain⟨f,rfl⟩:∃f',f=f'+1:=⟨f-1,by omega⟩
    rw[Zev F]at hf;have X:=HW.o k s hs;have U:=Lib.hid (Vu O (k:Int) name);have ac:=(O.scp k s hs).1;have DV:L.sb k<wr.heap.size:=(Array.getElem?_eq_some_iff.1 ac).1;have hc:wr.cell? ⟨L.sb k,0,none⟩=some (vI s.outer):=Qk
    have I:=Lib.hid hf;have o:=Lib.hid y;have Lw:=Lib.hid O;clear hf y O ac hs F;by_cases hq:H.has (k:Int) name=true
    .rw[hq]at U;go_wp2_with fail
     refine U.o.mono ?_;rintro e w1⟨rfl,g⟩;have au:=Lib.hid g;clear g;go_wp2;go_ret;exact⟨Z9m (by rw[<-I.o,if_pos hq]),o.o.trans (au.o.mono o.o.size)⟩
    .have eB:H.has (k:Int) name=false:=by simpa using hq
     rw[eB]at U;go_wp2_with fail
     refine U.o.mono ?_;rintro e w1⟨rfl,g⟩;have mM:=(g.cell (p:=⟨L.sb k,0,none⟩) DV).trans hc;have Z:=Lw.o.below g;have ar:=o.o.trans (g.mono o.o.size);have hf:=I.o;rw[if_neg hq]at hf;have Lx:=Lib.hid hf;have aP:=Lib.hid ar;clear g ar hf hc I;have two:∃b c,kC 56 #[.pointer (some ⟨hb,ho,none⟩),vI s.outer] w1 (λe w'=>e=.returned (.tuple #[b,c])/\w1=w')/\Zmo L H s.outer b c:=by
      rcases aW:H.scope? s.outer with _|t;·exact⟨_,_,WI Z _ aW,.inr ⟨aW,rfl,rfl⟩⟩
      .obtain⟨j,hj,ht⟩:=LHeap.scope?_some aW;rw[hj];exact⟨_,_,UY Z j (getElem?_lt ht),.inl ⟨j,t,rfl,ht,rfl,rfl⟩⟩
     obtain⟨b',c',u,yP⟩:=two;have bS:=Lib.hid u;have o6:=Lib.hid yP;clear u yP Z;go_wp2_with fail
     refine bS.o.mono ?_;rintro e w2⟨rfl,rfl⟩;go_wp2;go_roundw
     case rel=>exact⟨s.outer,f,rfl,o6.o,Lx.o,by omega,aP.o⟩
     case measure=>simp[intOf];omega
   .have o:=Lib.hid y;have I:=Lib.hid hf;have HN:=Lib.hid lD;clear y hf lD;go_wp2;go_ret;exact⟨Z9m (by rw[<-I.o,Zfn HN.o]),o.o⟩
 rcases aW:H.scope? n with _|t;·exact yO _ _ (WI h _ aW) (.inr ⟨aW,rfl,rfl⟩)
 .obtain⟨j,rfl,ht⟩:=LHeap.scope?_some aW;exact yO _ _ (UY h j (getElem?_lt ht)) (.inl ⟨j,t,rfl,ht,rfl,rfl⟩)
end
open Go Go.RowKit Tryz
theorem lh{p:Prop}(h:p):Hid p:=Lib.hid h
theorem zT{w u v:kV}(a:Hid (kW w u))(b:kW u v):Hid (kW w v):=lh (a.o.trans (b.mono a.o.size))
theorem zL{α:Type _}{l m:List α}:(l++m).length=l.length+m.length:=List.length_append
theorem zM{α:Type _}{a:α}{l:List α}:(a::l).length=l.length+1:=rfl
theorem zN{α:Type _}:([]:List α).length=0:=rfl
theorem zA{α:Type _}(l:List α)(i:Nat)(v:α):l.toArray.setIfInBounds i v=(l.set i v).toArray:=List.setIfInBounds_toArray ..
theorem zB{α:Type _}(x v:α)(l:List α):(x::l).set 0 v=v::l:=rfl
theorem zC{α:Type _}(x v:α)(l:List α)(n:Nat):(x::l).set (n+1) v=x::l.set n v:=rfl
theorem Y0:type_of% @Nat.le_refl:=@Nat.le_refl
theorem Y1:type_of% @Array.getElem?_eq_some_iff:=@Array.getElem?_eq_some_iff
theorem Y2:type_of% @Below.refl:=@Below.refl
theorem Y3:type_of% @if_neg:=@if_neg
theorem Y4:type_of% @Nat.le_trans:=@Nat.le_trans
theorem Y5:type_of% @if_pos:=@if_pos
theorem Y6:type_of% @List.getElem?_eq_getElem:=@List.getElem?_eq_getElem
theorem Y7:type_of% @Nat.lt_of_lt_of_le:=@Nat.lt_of_lt_of_le
theorem Y8:type_of% @Below.heap_setCell:=@Below.heap_setCell
theorem Y9:type_of% @World.ownsRow.lt:=@World.ownsRow.lt
theorem Ya:type_of% @World.news_of_block:=@World.news_of_block
theorem Yb:type_of% @World.cell?_of_block:=@World.cell?_of_block
theorem Yc:type_of% @Option.some.inj:=@Option.some.inj
theorem Yd:type_of% @List.mem_of_getElem?:=@List.mem_of_getElem?
theorem Ye:type_of% @List.take_of_length_le:=@List.take_of_length_le
theorem Yf:type_of% @World.size_setCell:=@World.size_setCell
theorem Yg:type_of% @List.getElem?_map:=@List.getElem?_map
theorem Yh:type_of% @Nat.zero_le:=@Nat.zero_le
theorem Yi:type_of% @List.length_append:=@List.length_append
theorem Yj:type_of% @Tryz.underlying9:=@Tryz.underlying9
theorem Yk:type_of% @Tryz.underlying3:=@Tryz.underlying3
theorem Yl:type_of% @List.map_append:=@List.map_append
theorem Ym:type_of% @List.length_map:=@List.length_map
theorem Yn:type_of% @World.frozen?_of_block:=@World.frozen?_of_block
theorem Yo:type_of% @WideMaps.keyOf_string_mk:=@WideMaps.keyOf_string_mk
theorem Yp:type_of% @bodyPost_ret:=@bodyPost_ret
theorem Yq:type_of% @heap_alloc_new:=@heap_alloc_new
theorem Yr:type_of% @World.cell?_setCell_other:=@World.cell?_setCell_other
theorem Ys:type_of% @World.cell?_alloc_new:=@World.cell?_alloc_new
theorem Yt:type_of% @List.drop_eq_getElem_cons:=@List.drop_eq_getElem_cons
theorem Yu:type_of% @And.intro:=@And.intro
theorem Yv:type_of% @IntWalk.i64_in:=@IntWalk.i64_in
theorem Yw:type_of% @List.mem_cons_self:=@List.mem_cons_self
theorem zX{α:Sort _}(a:α):∃x,x=a:=⟨a,rfl⟩
