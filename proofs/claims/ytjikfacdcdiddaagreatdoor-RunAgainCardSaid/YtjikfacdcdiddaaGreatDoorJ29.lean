/- Package sloppykeep: texts alike, results alike. -/
import Derived.Test.YtjikfacdcdiddaaGreatDoorJ28
import Derived.Lib.LaidTab
import Derived.LaidMore
import Derived.Stop.Joined
set_option linter.unusedSimpArgs false
set_option maxRecDepth 100000
set_option maxHeartbeats 20000000
set_option linter.unusedVariables false
namespace Go.Proofs.YtjikfacdcdiddaaGreatDoor
open Go Go.RowKit
theorem Zec(w:World)(I J:Nat)(F v2:Value)(l:List ByteArray)(m:Zy w I F l)(u:Zy w J v2 l) :
 Calls Tryz.prog 10 #[F,v2] w λe w'=>e=.returned (.bool true)∧Below w.heap.size w w':=by
 obtain⟨p,cp,rfl,O,vm⟩:=m.parts;obtain⟨q,cq,rfl,U,O4⟩:=u.parts;obtain⟨n,hn⟩:=zX l.length
 have y:=lh m;have E:=lh u;rw[<-hn]at O U y E ⊢;have HN:=lh hn;have bI:((n:Int) !=(n:Int))=false:=Pg
 clear m u hn;go_enter Tryz.func10,Tryz.ntmps10
 go_wp2_with fail
 go_loopw [5] (λi wr=>∃k:Nat,k<=n∧i=(vI k)∧Hid (Below w.heap.size w wr)) (λi _=>n-(intOf i).toNat)
 case atStart=>exact⟨0,Yh _,rfl,lh (Y2 _ _)⟩
 case round=>
  obtain⟨k,hk,rfl,HB⟩:=hrel;by_cases bV:k<n
  .obtain⟨x,hx⟩:∃x,l[k]? =some x:=⟨_,Y6 Pu⟩
   obtain⟨X,hp⟩:∃g,p=some ⟨g,0,none⟩:=by
    rcases y.o.form with⟨_,u⟩|⟨g,cap,m,_⟩;·rw[u]at hx;simp at hx
    .simp only[Value.slice.injEq]at m;exact⟨g,m.1⟩
   subst hp;obtain⟨Y,hq⟩:∃g,q=some ⟨g,0,none⟩:=by
    rcases E.o.form with⟨_,u⟩|⟨g,cap,m,_⟩;·rw[u]at hx;simp at hx
    .simp only[Value.slice.injEq]at m;exact⟨g,m.1⟩
   subst hq;have Z:=(y.o.bel HB.o).cells rfl hx;have cy:=(E.o.bel HB.o).cells rfl hx;have hb:(x.toList !=x.toList)=false:=Pg
   clear hx;go_wp2_with fail
   refine Z8 [0,2,4,6,8,10,12,14] [8] (λW=>W.cell? ⟨X,k,none⟩=some (.string x)∧W.cell? ⟨Y,k,none⟩=some (.string x)) ⟨Z,cy⟩ λ_=>?_;refine dW ?_
   iterate 8
    refine dV ?_
   refine Z0 ?_;go_wp2;exact Zu0
  .have aR:k=n:=by omega
   subst aR;go_wp2;go_ret;exact⟨rfl,HB.o⟩
theorem Zjj:∀(l:List (Int×Int)) (k:Nat) (p:Int×Int),l[k]?=some p->(YH l)[2*k]?=some (vI p.1)∧(YH l)[2*k+1]?=some (vI p.2)
 | [],k,p,h=>by simp at h
 | q :: l, 0, p, h => by
   simp only[List.getElem?_cons_zero,Option.some.injEq]at h;subst h;exact⟨rfl,rfl⟩
 | q :: l, k + 1, p, h => by
   rw[List.getElem?_cons_succ]at h;have:=Zjj l k p h;have g:2*(k+1)=2*k+1+1:=O'
   rw[g];exact this
theorem Z7k{w:World}{base:Nat}{e:TypeId}{m:Nat}{v:Value}{n:Nat}{o:List Value}(h:w.ownsRow base e m v n o){g:Nat}(p:v.ownBlock=some g){i:Nat}{x:Value}(hi:o[i]?=some x) :
 w.cell? ⟨g,i,none⟩=some x:=by
 have:=h.cells p i x hi;rwa[show((⟨g,0,none⟩:Addr).add i)=⟨g,i,none⟩ by unfold Addr.add;split<;>simp_all]at this
theorem Zdz{w:World}{B m:Nat}{T:TypeId}{v:Value}{n:Nat}{E:List Value}(h:w.ownsRow B T m v n E):∃p o,v=.slice p n o∧n<=o∧o<=maxLen∧(0<n->∃g,p=some ⟨g,0,none⟩):=by
 rcases Z4 h with⟨u,y⟩|⟨g,cap,u,y,F,_⟩;·exact⟨none,0,by rw[u,y],by omega,by unfold maxLen;omega,λhx=>by omega⟩
 .exact⟨_,_,u,y,F,λ_=>⟨g,rfl⟩⟩
theorem Ws.bel{w w':World}{B:Nat}{v:Value}{r:Res}(h:Ws w B v r)(g:Below w.heap.size w w'):Ws w' B v r:=by
 obtain⟨o,p,c1,u,y,c2,E,F,m⟩:=h;exact⟨o,p,c1,u,y,c2,E,F.bel g,Z2 m λk hk=>g.block k (Y9 m k hk).2⟩
theorem Zs7(w:World)(g m:Int):(Op.equalIn 10000 78 (.agg #[vI g,vI m]) (.agg #[vI g,vI m])).run Tryz.prog w=.ok true w:=by
 have o:=Yk;have p:∀w (x:Int),(Op.equalIn 9999 3 (vI x) (vI x)).run Tryz.prog w=.ok (x==x) w:=λw x=>run_equalIn_int w 9998 _ _ _ _ _ o;have hs:∀w,(sizeOf 3).run Tryz.prog w=.ok 1 w:=λw=>by kernel_rfl
 have u:∀w,(part 3 #[vI g,vI m] 0).run Tryz.prog w=.ok (vI g) w:=λw=>by simp[part,isAgg,run_underlying o]
 have y:∀w,(part 3 #[vI g,vI m] 1).run Tryz.prog w=.ok (vI m) w:=λw=>by simp[part,isAgg,run_underlying o]
 rw[show(10000:Nat)=9999+1 from rfl,Op.equalIn.eq_def];simp[run_underlying Tryz.underlying78,hs,u,y,p,Std.Legacy.Range.forIn_eq_forIn_range',Std.Legacy.Range.size,List.range']
theorem Zmu(w:World)(X Y:Nat)(v1 v2:Value)(r:Res)(h1:Ws w X v1 r)(h2:Ws w Y v2 r) :
 Calls Tryz.prog 8 #[v1,v2] w λe w'=>e=.returned (.bool true)∧Below w.heap.size w w':=by
 obtain⟨p1,n1,c1,O,n2,c2,rfl,Z,g⟩:=h1;obtain⟨q1,m1,d1,U,m2,y,rfl,ny,m⟩:=h2;obtain⟨log,code,val,steps,seen⟩:=r;simp only at Z ny g m ⊢;obtain⟨_,_,e1,o,g2,g3⟩:=Zdz g;cases e1;obtain⟨_,_,e2,g4,g5,g6⟩:=Zdz m;cases e2;obtain⟨n,hn⟩:=zX seen.length
 rw[<-hn]at g m o g3 g4 g6 ⊢;have HK:=lh (λ(W:World) (hB:Below w.heap.size w W)=>Zec W X Y _ _ log (Z.bel hB) (ny.bel hB));have dS:=lh g;have cD:=lh m;have HN:=lh hn;have hb:=lh (show∀a b:Value,Below w.heap.size w ((w.alloc (.cells #[.slice p1 n1 c1,vI code,.string val,vI steps,.slice O n c2] 29)).alloc (.cells #[.slice q1 m1 d1,vI code,.string val,vI steps,.slice U n y] 29))from λ_ _=>((Y2 _ _).alloc (Y0 _) _).alloc Pg _)
 obtain⟨z,u⟩:=zX (((w.alloc (.cells #[.slice p1 n1 c1,vI code,.string val,vI steps,.slice O n c2] 29)).alloc (.cells #[.slice q1 m1 d1,vI code,.string val,vI steps,.slice U n y] 29)))
 have jL:=lh (show Below w.heap.size w z by rw[u];exact hb.o (.bool true) (.bool true));have GD:=lh (show∀W,Below z.heap.size z W->vC W w.heap.size 4 (.slice O n c2)∧vC W (w.heap.size+1) 4 (.slice U n y)from λW hB=>by
  have l1:w.heap.size+1<z.heap.size:=by rw[u];simp
  refine⟨(hB.cell (p:=⟨w.heap.size,4,none⟩) (show w.heap.size<z.heap.size by omega)).trans ?_,(hB.cell (p:=⟨w.heap.size+1,4,none⟩) l1).trans ?_⟩;·rw[u];go_simp
  .rw[u];go_simp)
 have HZ:=lh u;clear u;have fq:n<=9223372036854775807:=by unfold maxLen at *;omega
 have jH:(code !=code)=false:=Pg
 have lu:(steps !=steps)=false:=Pg
 have Ib:(val.toList !=val.toList)=false:=Pg
 have bI:((n:Int) !=(n:Int))=false:=Pg
 have G3:=lh g3;have G6:=lh g6;clear Z ny g m hn o g2 g3 g4 g5 g6;go_enter Tryz.func8,Tryz.ntmps8
 go_wp2_with fail
 rw[<-HZ.o];refine(HK.o z jL.o).mono ?_;rintro e w1⟨rfl,E⟩;obtain⟨k1,k2⟩:=GD.o w1 E;have GE:=lh (show∀W,Below w1.heap.size w1 W->vC W w.heap.size 4 (.slice O n c2)∧vC W (w.heap.size+1) 4 (.slice U n y)from λW h=>GD.o W (E.trans (h.mono E.size)));have F:=zT jL E;clear E HK HZ GD;go_wp2_with fail
 clear k1 k2;go_loopw [5] (λi wr=>∃k:Nat,k<=n∧i=(vI k)∧Hid (Below w1.heap.size w1 wr)) (λi _=>n-(intOf i).toNat)
 case atStart=>exact⟨0,Yh _,rfl,lh (Y2 _ _)⟩
 case round=>
  obtain⟨k,hk,rfl,HB⟩:=hrel;obtain⟨k1,k2⟩:=GE.o wr HB.o;by_cases bV:k<n
  .obtain⟨x,hx⟩:∃x,seen[k]? =some x:=⟨_,Y6 Pu⟩
   obtain⟨y1,y2⟩:=Zjj seen k x hx;obtain⟨g0,rfl⟩:=G3.o O';obtain⟨o,rfl⟩:=G6.o O';have cH:=F.o.trans (HB.o.mono F.o.size);have g:wr.ownsRow X 78 2 _ n (YH seen):=Z2 dS.o λk hk=>cH.block k (Y9 dS.o k hk).2;have m:wr.ownsRow Y 78 2 _ n (YH seen):=Z2 cD.o λk hk=>cH.block k (Y9 cD.o k hk).2;have a1:=Z7k g rfl y1;have a2:=Z7k g rfl y2;have a3:=Z7k m rfl y1;have a4:=Z7k m rfl y2;have O5:=F;rw[Nat.mul_comm 2 k]at a1 a2 a3 a4;obtain⟨I,J⟩:=x
   simp only at a1 a2 a3 a4;have e1:(I !=I)=false:=Pg
   have e2:(J !=J)=false:=Pg
   clear hx y1 y2 g m cH;go_wp2_with fail
   refine oi [(true,0),(true,1),(true,2),(true,3),(true,4),(true,5),(true,6),(true,7),(true,8),(true,9)] [10] (λW=>W.cell? ⟨g0,k*2,none⟩=some (vI I)∧W.cell? ⟨g0,k*2+1,none⟩=some (vI J)∧W.cell? ⟨o,k*2,none⟩=some (vI I)∧W.cell? ⟨o,k*2+1,none⟩=some (vI J)∧vC W w.heap.size 4 (.slice (some ⟨g0,0,none⟩) n c2)∧vC W (w.heap.size+1) 4 (.slice (some ⟨o,0,none⟩) n y)) ⟨a1,a2,a3,a4,k1,k2⟩ (λbu=>?_);refine ep ?_;refine Z0 ?_;have O6:=Zs7 wr.drew I J
   go_wp2_with fail
   exact Zu0
  .have aR:k=n:=by omega
   subst aR;go_wp2;go_ret;exact⟨rfl,F.o.trans (HB.o.mono F.o.size)⟩
theorem Zy.one{w:World}{B:Nat}(g:B<=w.heap.size)(s:ByteArray):Zy (w.alloc (.cells #[.string s] 9)) B (.slice (some ⟨w.heap.size,0,none⟩) 1 1) [s]:=by
 unfold Zy;refine⟨rfl,.inr ⟨w.heap.size,1,_,rfl,g,(Go.MapKept.heap_alloc w _).1,by simp,by unfold maxLen;omega,by simp,?_⟩⟩;simp
theorem Zm5(x:MSt×Except Er (Bool×LVal)):(T0 x).code=2∨(T0 x).value=⟨#[]⟩:=by
 obtain⟨s,q⟩:=x;rcases q with(_|v)|v;·exact .inr rfl
 .exact .inl rfl
 .exact .inr rfl
theorem Zln{text:ByteArray}{t:Tree}(hr:xG text=.ok t){a:ATree}(h:a.tree=t):Wf .sl a.tree.kids∧a.many<=1500∧WA a:=by
 obtain⟨g,m⟩:=Zac hr;have o:Ul text=some t.bare:=by unfold Ul;rw[hr]
 obtain⟨hst,-,-⟩:=Za1 o;refine⟨?_,by rw[<-Tw,h];exact m,Zqd a (by rw[h];exact g)⟩;unfold NT.stm at hst;rw[<-Zw,Z9c]at hst;rw[h];exact hst
theorem Zjv{text:ByteArray}{t:Tree}(hr:xG text=.ok t){w w':World}{B:Nat}{a:ATree}(g:Got w B w' a t){W:World}(m:Below w'.heap.size w' W){eb:Addr}(h:RunW W eb) :
 Calls Tryz.prog 6 #[a.ptr] W (ZI W a):=by
 obtain⟨o,p,u⟩:=Zln hr g.tree;exact Zpn W B a eb h (g.at'.bel m) u g.apart o p
theorem Znr{text:ByteArray}{t:Tree}(hr:xG text=.ok t){a:ATree}(h:a.tree=t){N:Nat->Int}{r:Res}(e:r=ow (a.nt N)) :
 (r.code=1∧r.steps<=20000∧r.value=⟨#[]⟩)∨(r.code=2∧r.steps<=20000)∨(r.code=3∧r.steps=20001∧r.value=⟨#[]⟩):=by
 obtain⟨u,g,-⟩:=Zln hr h;obtain⟨m,y,E,F,I⟩:=Zff (n:=a.nt N) (by show Wf .sl (pL (a.nt N).kids);rw[<-Zw,SV];exact u) (by rw[SV,Tw];exact g);have p:r.code=2∨r.value=⟨#[]⟩:=by rw[e];exact Zm5 _
 rw[<-e]at m y E F I;by_cases o:r.code=3;·exact .inr (.inr ⟨o,m.1 o,p.resolve_left O'⟩)
 .have hs:r.steps<=20000:=by have :¬r.steps=20001:=λe=>o (m.2 e);omega
  by_cases g:r.code=2;·exact .inr (.inl ⟨g,hs⟩)
  .exact .inl ⟨by omega,hs,p.resolve_left g⟩
theorem Zsi(w:World)(eb:Addr)(h:RunW w eb):Calls Tryz.prog 5 #[] w λe w'=>e=.returned (.bool true)∧Below w.heap.size w w':=by
 have p:=Za7 w Zfe h.wd h.lv;rw[Zdy]at p;unfold Zfe at p;have O:=lh p;have U:=lh h;clear p h;go_enter Tryz.func5,Tryz.ntmps5
 go_wp2_with fail
 refine O.o.mono ?_;rintro e w1⟨hb,a,rfl,E⟩;have hk:(Zez.kind==1)=true:=rfl;rw[hk];have o:=Zjv Zdy E (Y2 _ _) (U.o.bel hb);obtain⟨X,g,m⟩:=Zo0 E.tree;unfold ATree.ptr ZI at o;simp only[if_pos X]at o;obtain⟨r,Y⟩:=zX (ow (a.nt (B6 a)))
 rw[<-Y]at o g m;have Z:=lh o;have F:=lh hb;have HD:=lh (And.intro g m);clear hb E hk o X g m Y O;go_wp2_with fail
 refine Z.o.mono ?_;rintro e w2⟨y,rfl,v,rfl,hv,I⟩;obtain⟨p1,n1,c1,p2,n2,c2,rfl,hl,-⟩:=hv;obtain⟨log,code,val,steps,seen⟩:=r;obtain⟨g,m⟩:=HD.o;simp only at g m hl;subst g;subst m;obtain⟨z,u⟩:=zX ((w2.alloc (.cells #[.slice p1 n1 c1,vI 1,.string val,vI steps,.slice p2 n2 c2] 29)).alloc (.cells #[.string ⟨#[54]⟩] 9))
 have J:Below w2.heap.size w2 z:=by rw[u];exact((Y2 _ _).alloc (Y0 _) _).alloc Pg _
 have bO:=Zec z _ 0 _ (.slice (some ⟨w2.heap.size+1,0,none⟩) 1 1) [⟨#[54]⟩] (hl.bel J) (by
  rw[u];have:=Zy.one (w:=w2.alloc (.cells #[.slice p1 n1 c1,vI 1,.string val,vI steps,.slice p2 n2 c2] 29)) (Yh _) ⟨#[54]⟩;simpa using this)
 have lZ:=lh bO;have HZ:=lh u;have aO:=lh (F.o.trans ((I.trans (J.mono I.size)).mono F.o.size));clear hl I u J bO Z HD F U;go_wp2_with fail
 rw[<-HZ.o];refine lZ.o.mono ?_;rintro e w3⟨rfl,aX⟩;have bP:=zT aO aX;clear aX lZ aO;go_wp2;go_ret;exact⟨rfl,bP.o⟩
theorem yO{w a b:World}(h:Below w.heap.size w a)(g:Below a.heap.size a b):Below w.heap.size w b:=h.trans (g.mono h.size)
theorem Vz{p:Nat}{v0 g v2 v3 v4:Value}{w W:World}(h:w.heap[p]?=some (.cells #[v0,g,v2,v3,v4] 29 (0,0)))(m:Below w.heap.size w W) :
 vC W p 0 v0∧vC W p 1 g∧vC W p 2 v2∧vC W p 3 v3∧vC W p 4 v4:=by
 have hb:=(m.block p (Y1.1 h).1).trans h;refine⟨?_,?_,?_,?_,?_⟩<;>simp[vC,World.cell?,hb]
theorem Zd5(w:World)(text:ByteArray)(eb:Addr)(h:RunW w eb):Calls Tryz.prog 3 #[.string text] w λe w'=>e=.returned (.bool true)∧Below w.heap.size w w':=by
 have hR:=Za7 w text h.wd h.lv;have qG:=lh (λw1 (o:Below w.heap.size w w1)=>Zsi w1 eb (h.bel o));have HW:=lh h;cases hr:xG text with
 | error x =>
   rw[hr]at hR;have HR:=lh hR;clear hR h hr;go_enter Tryz.func3,Tryz.ntmps3
   go_wp2_with fail
   refine HR.o.mono ?_;rintro e w1⟨hb,rfl⟩;have I:=lh hb;clear hb HR;go_wp2_with fail
   refine(qG.o w1 I.o).mono ?_;rintro e w2⟨rfl,ax⟩;have J:=lh (yO I.o ax);clear ax I;go_wp2_with fail
   refine(qG.o w2 J.o).mono ?_;rintro e g⟨rfl,E⟩;have bP:=lh (yO J.o E);clear E J;go_wp2;go_ret;exact⟨rfl,bP.o⟩
 | ok t =>
   rw[hr]at hR;have hk:(t.kind==1)=true:=by
    obtain⟨l,-,e,-⟩:=Z79 hr;rw[e];rfl
   have HR:=lh hR;have HP:=lh hr;have HK:=lh hk;clear hR h hr hk;go_enter Tryz.func3,Tryz.ntmps3
   go_wp2_with fail
   refine HR.o.mono ?_;rintro e w1⟨hb,a,rfl,hg⟩;rw[HK.o];have I:=lh hb;have HT:=lh hg.tree;have sZ:=lh (λW (o:Below w1.heap.size w1 W)=>Zjv HP.o hg o (HW.o.bel (yO hb o)));unfold ATree.ptr at sZ;clear hb hg HR;go_wp2_with fail
   refine(qG.o w1 I.o).mono ?_;rintro e w2⟨rfl,ax⟩;have J:=lh (yO I.o ax);have qH:=lh ax;clear ax;go_wp2_with fail
   refine(sZ.o w2 qH.o).mono ?_;rintro e g⟨y,rfl,p⟩;by_cases hc:LW a false false=0
   .rw[Y5 hc]at p;obtain⟨v,rfl,hv,E⟩:=p;obtain⟨r,wS⟩:=zX (ow (a.nt (B6 a)))
    have he:=Znr HP.o HT.o wS;rw[<-wS]at hv;have fG:=hv;obtain⟨p1,n1,c1,p2,n2,c2,rfl,-,-⟩:=hv;have O:=E.trans (((Y2 g.heap.size g).alloc (Y0 _) (.cells #[.slice p1 n1 c1,vI r.code,.string r.value,vI r.steps,.slice p2 n2 c2] 29)).mono E.size);have gD:=heap_alloc_new g (.cells #[.slice p1 n1 c1,vI r.code,.string r.value,vI r.steps,.slice p2 n2 c2] 29);obtain⟨X,u⟩:=zX (g.alloc (.cells #[.slice p1 n1 c1,vI r.code,.string r.value,vI r.steps,.slice p2 n2 c2] 29))
    rw[<-u]at O;have gD:X.heap[g.heap.size]?=some (.cells #[.slice p1 n1 c1,vI r.code,.string r.value,vI r.steps,.slice p2 n2 c2] 29 (0,0)):=by rw[u];exact heap_alloc_new g _
    have mW:Below g.heap.size g X:=by rw[u];exact Z1 _ _
    have fc:=lh (yO J.o O);have qI:=lh (sZ.o X (yO qH.o O));have HV:=lh (fG.bel mW);have Y:=lh gD;have HC:=lh hc;have eR:=lh wS;have HE:=lh he;have sx:=lh u;obtain⟨p5,Z⟩:=zX g.heap.size
    rw[<-Z]at Y;have By:=lh Z;clear hc E wS he fG O gD mW u Z I J qH qG HK HP HT HW;go_wp2_with fail
    rw[<-sx.o,<-By.o];refine qI.o.mono ?_;rintro e w5⟨y,rfl,p⟩;rw[Y5 HC.o,<-eR.o]at p;obtain⟨v,rfl,hv,F⟩:=p;have fG:=hv;obtain⟨q1,m1,d1,q2,m2,d2,rfl,-,-⟩:=hv;have m:=Z1 w5 (.cells #[.slice q1 m1 d1,vI r.code,.string r.value,vI r.steps,.slice q2 m2 d2] 29);have GH:=m;obtain⟨e0,e1,e2,e3,e4⟩:=Vz Y.o (yO F m);have eV:=Zmu _ _ _ _ _ r ((HV.o.bel F).bel m) (fG.bel m)
    obtain⟨w6,ka⟩:=zX (w5.alloc (.cells #[.slice q1 m1 d1,vI r.code,.string r.value,vI r.steps,.slice q2 m2 d2] 29))
    have jv:=lh eV;rw[<-ka]at jv m;have jX:=lh (yO fc.o (yO F m));have s6:=lh (λW (o:Below w6.heap.size w6 W)=>Vz Y.o (yO (yO F m) o));have tI:=lh ka;clear fG F m GH eV ka qI HV sx By sZ;go_wp2_with fail
    rw[<-tI.o];refine jv.o.mono ?_;rintro e w7⟨rfl,jr⟩;clear e0 e1 e2 e3 e4;obtain⟨e0,e1,e2,e3,e4⟩:=s6.o w7 jr;have nY:=lh (yO jX.o jr);obtain⟨log,code,val,steps,seen⟩:=r;clear jr jX jv s6 tI HC eR Y;simp only at e0 e1 e2 e3 e4;rcases HE.o with⟨U,h2,h3⟩|⟨U,h2⟩|⟨U,h2,h3⟩
    .simp only at U h2 h3;subst U;subst h3;exact Xo
    .simp only at U h2;subst U;exact Xo
    .simp only at U h2 h3;subst U;subst h2;subst h3;go_wp2;go_ret;exact⟨rfl,nY.o⟩
   .rw[Y3 hc]at p;obtain⟨rfl,E⟩:=p;obtain⟨c,AY⟩:=zX (LW a false false)
    rw[<-AY]at hc ⊢;have gX:df c=.iface 34 (vI c):=Y3 hc;rw[gX];obtain⟨X,u⟩:=zX (g.alloc (.cells #[.slice none 0 0,vI 0,.string ⟨#[]⟩,vI 0,.slice none 0 0] 29))
    have gD:X.heap[g.heap.size]?=some (.cells #[.slice none 0 0,vI 0,.string ⟨#[]⟩,vI 0,.slice none 0 0] 29 (0,0)):=by rw[u];exact heap_alloc_new g _
    have mW:Below g.heap.size g X:=by rw[u];exact Z1 _ _
    have O:=yO E mW;have fc:=lh (yO J.o O);have qI:=lh (sZ.o X (yO qH.o O));have GI:=lh (λW (o:Below w.heap.size w W)=>Zgs W c (HW.o.bel o).et);rw[gX]at GI;have ti:=lh gX;have Y:=lh gD;have HC:=lh hc;have iP:=lh AY;have sx:=lh u;obtain⟨p5,Z⟩:=zX g.heap.size
    rw[<-Z]at Y;have By:=lh Z;have O7:(c==c)=true:=Pg
    clear hc AY E gX O gD mW u Z I J qH qG HK HP HT HW;go_wp2_with fail
    rw[<-sx.o,<-By.o];refine qI.o.mono ?_;rintro e w5⟨y,rfl,p⟩;rw[<-iP.o,Y3 HC.o]at p;obtain⟨rfl,F⟩:=p;rw[ti.o];have m:=Z1 w5 (.cells #[.slice none 0 0,vI 0,.string ⟨#[]⟩,vI 0,.slice none 0 0] 29);obtain⟨w6,ka⟩:=zX (w5.alloc (.cells #[.slice none 0 0,vI 0,.string ⟨#[]⟩,vI 0,.slice none 0 0] 29))
    rw[<-ka]at m;have jX:=lh (yO fc.o (yO F m));have s6:=lh (λW (o:Below w6.heap.size w6 W)=>Vz Y.o (yO (yO F m) o));have tI:=lh ka;clear F m ka qI sx By sZ;go_wp2_with fail
    rw[<-tI.o];refine(GI.o w6 jX.o).mono ?_;rintro e w7⟨rfl,jr⟩;have nY:=lh (yO jX.o jr);have Bz:=lh jr;clear jr;go_wp2_with fail
    refine(GI.o w7 nY.o).mono ?_;rintro e w8⟨rfl,i'⟩;obtain⟨e0,e1,e2,e3,e4⟩:=s6.o w8 (yO Bz.o i');have ru:=lh (yO nY.o i');clear i' jX nY Bz;go_wp2;go_ret;exact⟨rfl,ru.o⟩
theorem Zau{H:Type}{enc:TypeId×Value->H}{P:Program}{w:World}{base:Nat}{y:Nat->Bool}{E:Bool}{fuel:Nat}{t e:TypeId}{n:Nat}{cs:List Value}{l:List (List UInt8)}{p:List MemPlace}
 (ht:P.underlying t=some (.array n e))(he:P.underlying e=some .string)(F:P.cellsOf e=1)(I:P.cellsOf t=n)
 (h:DataW.trod enc P w base y E fuel t cs=some (.agg (l.map λb=>.lit (.string b)),p)):cs=l.map λb=>Value.string ⟨b.toArray⟩:=by
 cases fuel with
 |zero=>simp[DataW.trod]at h
 | succ fuel =>
   simp only[DataW.trod,ht,F,I,Nat.mul_one]at h;split at h
   .rename_i hl;obtain⟨g,o,hx⟩:=Option.map_eq_some_iff.1 h;have u:g.map (·.1)=l.map λb=>(DataW.lit (.string b):DataW H):=by
     have:=congrArg Prod.fst hx;simpa using this
    have X:g.length=n:=by simpa using Lib.mapM_length o
    have Y:l.length=n:=by
     have:=congrArg List.length u;simp at this;omega
    apply List.ext_getElem?;intro i;by_cases hi:i<n
    .obtain⟨b,hb,hf⟩:=Lib.mapM_at o i i (by simp[hi]);obtain⟨s,hc,rfl,_⟩:=DataW.trod_string he hf;have J:cs[i]?=some (.string s):=by
      have:=congrArg (·[0]?) hc;simpa[List.getElem?_take,List.getElem?_drop]using this
     have m:(g.map (·.1))[i]?=some (DataW.lit (.string s.data.toList):DataW H):=by simp[hb]
     rw[u]at m;simp only[List.getElem?_map,Option.map_eq_some_iff,DataW.lit.injEq,Lit.string.injEq]at m;obtain⟨z',O,U⟩:=m;simp only[J,List.getElem?_map,O,Option.map_some,U]
    .rw[List.getElem?_eq_none O',List.getElem?_eq_none Pe]
   .cases h
theorem Zrj{H:Type}{enc:TypeId×Value->H}{P:Program}{w:World}{base:Nat}{g:Nat->Bool}{m:Bool}{fuel:Nat}{e:TypeId}{v:Value}{b:List UInt8}{q:List MemPlace}(he:P.underlying e=some .string)
 (h:DataW.trod enc P w base g m fuel e [v]=some (.lit (.string b),q)):v=.string ⟨b.toArray⟩:=by
 obtain⟨s,hc,hx,_⟩:=DataW.trod_string he h;simp only[List.cons.injEq,and_true]at hc;simp only[Prod.mk.injEq,DataW.lit.injEq,Lit.string.injEq]at hx;rw[hc,hx.1]
theorem Zcd{P:Program}{W:World}{name:String}{d:DataW Unit}{u:List (String×DataW Unit)}{g:Nat}{t e:TypeId}{n:Nat}{l:List (List UInt8)}
 (m:P.globalNamed name=some g)(y:(P.globals[g]?).map (·.type)=some t)(ht:P.underlying t=some (.array n e))(he:P.underlying e=some .string)(E:P.cellsOf e=1)(F:P.cellsOf t=n)
 (hd:d=.agg (l.map λb=>.lit (.string b)))(h:laidMet P ((name,d)::u) W)(i:Nat)(b:List UInt8)(hi:l[i]?=some b):W.cell? ⟨g,i,none⟩=some (.string ⟨b.toArray⟩):=by
 obtain⟨ps,⟨O,t',cs,fuel,p,q,G,I,J,o,_,_⟩,_⟩:=h;obtain rfl:=Yc (m.symm.trans G);obtain rfl:=Yc (y.symm.trans I);rw[hd]at o;have hc:=Zau ht he E F o;have:=World.var?_cell m J i;rw[this];have hx:cs=(l.map λb=>Value.string ⟨b.toArray⟩).toArray:=by rw[<-hc]
 rw[hx];simp[hi]
theorem Zr5{H:Type}{enc:TypeId×Value->H}{P:Program}{w:World}{base:Nat}{m:Nat->Bool}{o:Bool}{fuel:Nat}{t e:TypeId}{n:Nat}{cs:List Value}{l:List (DataW H)}{p:List MemPlace}
 (ht:P.underlying t=some (.array n e))(F:P.cellsOf e=1)(G:P.cellsOf t=n)
 (h:DataW.trod enc P w base m o fuel t cs=some (.agg l,p))(i:Nat)(r:DataW H)(hi:l[i]?=some r) :
 ∃I q,DataW.trod enc P w base m o I e ((cs.drop i).take 1)=some (r,q):=by
 cases fuel with
 |zero=>simp[DataW.trod]at h
 | succ fuel =>
   simp only[DataW.trod,ht,F,G,Nat.mul_one]at h;split at h
   .rename_i hl;obtain⟨g,u,hx⟩:=Option.map_eq_some_iff.1 h;have y:g.map (·.1)=l:=by
     have:=congrArg Prod.fst hx;simpa using this
    have U:g.length=n:=by simpa using Lib.mapM_length u
    have J:i<n:=by
     have O:=(List.getElem?_eq_some_iff.1 hi).1;rw[<-y,Ym]at O;omega
    obtain⟨b,hb,hf⟩:=Lib.mapM_at u i i (by simp[J]);have E:(g.map (·.1))[i]?=some b.1:=by simp[hb]
    rw[y,hi]at E;exact⟨fuel,b.2,by rw[Yc E];exact hf⟩
   .cases h
theorem Zar{P:Program}{W:World}{F name:String}{I d:DataW Unit}{J:List (String×DataW Unit)}{g:Nat}{t e f:TypeId}{n:Nat}{l:List (List (List UInt8))}
 (m:P.globalNamed name=some g)(O:(P.globals[g]?).map (·.type)=some t)(ht:P.underlying t=some (.array n e))(he:P.underlying e=some (.slice f))(hf:P.underlying f=some .string)
 (U:P.cellsOf e=1)(X:P.cellsOf f=1)(Y:P.cellsOf t=n)
 (hd:d=.agg (l.map λr=>.slice (r.map λb=>.lit (.string b)) []))(h:laidMet P ((F,I)::(name,d)::J) W)(i:Nat)(r:List (List UInt8))(hi:l[i]?=some r)(hr:0<r.length) :
 ∃b off cap,W.cell? ⟨g,i,none⟩=some (.slice (some ⟨b,off,none⟩) r.length cap)∧r.length<=cap∧∀j x,r[j]?=some x->W.cell? ⟨b,off+j,none⟩=some (.string ⟨x.toArray⟩):=by
 obtain⟨ps,⟨_,_,_,_,_,_,_,_,_,_,Z,_⟩,_⟩:=h;obtain⟨g',t',cs,fuel,p,q,ez,GJ,wX,o,_,_⟩:=Z;obtain rfl:=Yc (m.symm.trans ez);obtain rfl:=Yc (O.symm.trans GJ);rw[hd]at o;obtain⟨uB,q',ae⟩:=Zr5 ht U Y o i (.slice (r.map λb=>.lit (.string b)) []) (by rw[Yg,hi];rfl);obtain⟨a,cap,u,y,E⟩:=open_row he X ae;rw[Ym]at u y;have bj:W.cell? ⟨g,i,none⟩=some (.slice (some a) r.length cap):=by
  rw[World.var?_cell m wX i];have:=congrArg (·[0]?) u;simpa[List.getElem?_take,List.getElem?_drop]using this
 obtain⟨b,off,GK⟩:=a;have BA:GK=none:=by
  obtain⟨x,hx⟩:∃x,r[0]?=some x:=⟨r[0],Y6 hr⟩
  obtain⟨v,n,q,hc,_⟩:=E 0 _ Rh;simpa[Addr.add]using World.cell?_spot hc
 subst BA;refine⟨b,off,cap,bj,y,λj x hx=>?_⟩;obtain⟨v,n,q,hc,hr⟩:=E j _ Rh;rw[Zrj hf hr]at hc;rwa[show((⟨b,off,none⟩:Addr).add j)=⟨b,off+j,none⟩ by unfold Addr.add;split<;>simp_all]at hc
