import Derived.Test.YtkjdnecemhilpaaGreatDoorJ06
import Derived.Deep.Cut
set_option maxRecDepth 100000
set_option maxHeartbeats 20000000
set_option linter.all false
namespace Go.Proofs.YtkjdnecemhilpaaGreatDoor
open Go Go.RowKit Go.Proofs.Tryz Tryz
def Tok.cells(t:Tok):List Value:=[vI t.kind,.string t.text,vI t.n,vI t.at']
def Zu0(w:kV)(base:Nat)(v:Value)(e:Int)(p:Int):Prop:=
 ∃b,v=.iface 99 (vP b)/\base<=b/\w.heap[b]?=some (.cells #[vI e,vI p] 101 (0,0))
def Ztn(w:kV)(r:Except (Int×Nat) (List Tok))(e:Ending)(w':kV):Prop:=
 match r with
 | .ok l=>∃v,e=.returned (.tuple #[v,.nilIface])/\w'.ownsRow w.heap.size 97 4 v l.length (l.flatMap Tok.cells)
 | .error (c,p)=>∃x,e=.returned (.tuple #[.slice none 0 0,x])/\Zu0 w' w.heap.size x c p
def ScanAt.belowOf{w0 w1 w:kV}{sb a:Nat}{text:kB}(h:ScanAt w1 w sb text a)(g:kW w0 w1)(hs:w0.heap.size<=sb):kW w0 w:=
 ⟨h.os.trans g.os,h.tape.trans g.tape,h.output.trans g.output,Y4 g.size h.size,λk hk=>(h.block k (Y7 hk g.size) Qe).trans (g.block k hk)⟩
structure Mid(w1 w:kV)(sb tb:Nat)(text:kB)(a:Nat)(v:Value)(l:List Tok)(c:Array Value):Prop where
 scan:ScanAt w1 w sb text a
 own:w.ownsRow (sb+1) 97 4 v l.length (l.flatMap Tok.cells)
 blk:w.heap[tb]?=some (.cells c 97 (0,0))
 lt:sb<tb
 ge:w1.heap.size<=tb
 ne:v.ownBlock≠some tb
section
variable {w1 w w':kV}{sb tb a b:Nat}{text:kB}{v:Value}{l:List Tok}{c:Array Value}
theorem Mid.drew(m:Mid w1 w sb tb text a v l c):Mid w1 w.drew sb tb text a v l c:=⟨m.scan.drew,m.own.drew,m.blk,m.lt,m.ge,m.ne⟩
def Mid.row(m:Mid w1 w sb tb text a v l c){g:Nat}(h:v.ownBlock=some g):g<w.heap.size/\g≠sb/\g≠tb:=
 ⟨(m.own.lt g h).2,by have:=(m.own.lt g h).1;omega,λe=>m.ne (by rw[h,e])⟩
theorem Mid.tlt(m:Mid w1 w sb tb text a v l c):tb<w.heap.size:=(Y1.1 m.blk).1
def Mid.put(m:Mid w1 w sb tb text a v l c)(o:Nat)(x:Value):Mid w1 (w.setCell ⟨tb,o,none⟩ x) sb tb text a v l (c.setIfInBounds o x):=by
 have hs:(w.setCell ⟨tb,o,none⟩ x).heap.size=w.heap.size:=Yf ..;have far:∀k,k≠tb->(w.setCell ⟨tb,o,none⟩ x).heap[k]?=w.heap[k]?:=λk hk=>Y8 _ _ _ _ hk;have u:=m.lt;have y:=m.ge
 exact⟨⟨(far sb Qe).trans m.scan.blk,m.scan.os,m.scan.tape,m.scan.output,by rw[hs];exact m.scan.size,λk hk hn=>(far k Qe).trans (m.scan.block k hk hn)⟩,
  Z3 m.own λg p=>far g (m.row p).2.2,Zk _ m.blk,m.lt,m.ge,m.ne⟩
def Mid.set(m:Mid w1 w sb tb text a v l c){x:Int}(hx:x=b):Mid w1 (w.setCell ⟨sb,1,none⟩ (vI x)) sb tb text b v l c:=by
 have p:=m.lt;exact⟨m.scan.set' hx,Z3 m.own λg o=>Y8 _ _ _ _ (m.row o).2.1,(Y8 _ _ _ _ Qi).trans m.blk,m.lt,m.ge,m.ne⟩
def Mid.call(m:Mid w1 w sb tb text a v l c)(h:ScanAt w w' sb text b):Mid w1 w' sb tb text b v l c:=by
 have p:=m.lt;exact⟨m.scan.trans h,Z3 m.own λg o=>h.block g (m.row o).1 (m.row o).2.1,(h.block tb m.tlt Qe).trans m.blk,m.lt,m.ge,m.ne⟩
def Mid.same(m:Mid w1 w sb tb text a v l c)(h:kW w w'):Mid w1 w' sb tb text a v l c:=
 ⟨m.scan.below h,Z3 m.own λg o=>h.block g (m.row o).1,(h.block tb m.tlt).trans m.blk,m.lt,m.ge,m.ne⟩
theorem Mid.cell(m:Mid w1 w sb tb text a v l c)(i:Nat){x:Value}(h:c[i]?=some x):w.cell? ⟨tb,i,none⟩=some x:=by simp[vC,World.cell?,m.blk,h]
theorem Mid.fz(m:Mid w1 w sb tb text a v l c)(i:Nat):w.frozen? ⟨tb,i,none⟩=false:=by simp[World.frozen?,m.blk]
def Mid.new(m:ScanAt w1 w sb text a)(o:w.ownsRow (sb+1) 97 4 v l.length (l.flatMap Tok.cells))(c:Array Value):Mid w1 (w.alloc (.cells c 97)) sb w.heap.size text a v l c:=by
 have p:kW w (w.alloc (.cells c 97)):=(Y2 _ _).alloc (Y0 _) _;exact⟨m.below p,Z3 o λg u=>p.block g (o.lt g u).2,Yq w _,m.lt,m.size,λe=>by have:=(o.lt _ e).2;omega⟩
theorem Mid.name(m:Mid w1 w sb tb text a v l c):∃W,W=w/\Mid w1 W sb tb text a v l c:=⟨w,rfl,m⟩
def Mid.app{T:TypeId}{x:Array Value}(m:Mid w1 w sb tb text a v l c)(y:w1.heap.size=sb+1)(g:(w.alloc (.cells x T)).grownBy w' v.ownBlock):ScanAt w1 w' sb text a:=by
 have o:kW w (w.alloc (.cells x T)):=(Y2 _ _).alloc (Y0 _) _;have p:=m.scan.lt;have hs:=m.scan.size;have u:w.heap.size<=(w.alloc (.cells x T)).heap.size:=o.size;have far:∀k,k<w.heap.size->v.ownBlock≠some k->w'.heap[k]?=w.heap[k]?:=λk hk hn=>(g.block k Qe (λe=>hn e.symm)).trans (o.block k hk);have ho:∀k,k<=sb->v.ownBlock≠some k:=λk hk e=>by have:=(m.own.lt k e).1;omega
 exact⟨(far sb p (ho sb (Y0 _))).trans m.scan.blk,g.os.trans m.scan.os,g.tape.trans m.scan.tape,g.output.trans m.scan.output,Y4 hs (Y4 u g.size),λk hk hn=>(far k Qe (ho k Qe)).trans (m.scan.block k hk hn)⟩
end
def extract_drop(text:kB)(j:Nat):(text.extract j text.size).data.toList=text.data.toList.drop j:=by
 rw[ByteArray.data_extract,Array.toList_extract];simp[List.extract];rw[Ye Qm]
def pw:Nat->Int
 |0=>1
 |m+1=>10*pw m
theorem Aai:∀m,m<=9->pw m<=1000000000:=by decide
def Z51{w:kV}{base:Nat}{v:Value}{l:List Tok}{t:Tok}(h:w.ownsRow base 97 4 v (l.length+1) (l.flatMap Tok.cells++t.cells)):w.ownsRow base 97 4 v (l++[t]).length ((l++[t]).flatMap Tok.cells):=by
 simpa using h
def Z97{w:kV}{base o:Nat}{e:TypeId}{m:Nat}{v:Value}{n:Nat}{p:List Value}(hb:o<=base)(h:w.ownsRow base e m v n p):w.ownsRow o e m v n p:=by
 refine⟨h.1,?_⟩;rcases h.2 with hn|⟨g,cap,u,y,F,G⟩;·exact .inl hn
 .exact .inr ⟨g,cap,u,y,Y4 hb F,G⟩
def Zhc{w W:kV}{e p:Int}(h:kW w W)(W':kV)(hW:W'=(W.alloc (.cells #[vI e,vI p] 101)).drew\/W'=W.alloc (.cells #[vI e,vI p] 101):=by first|exact .inl rfl|exact .inr rfl) :
 (∃x,Ending.returned (.tuple #[.slice none 0 0,.iface 99 (vP W.heap.size)])=.returned (.tuple #[.slice none 0 0,x])/\Zu0 W' w.heap.size x e p)/\kW w W':=by
 have hs:=h.size;rcases hW with rfl|rfl;·exact⟨⟨_,rfl,W.heap.size,rfl,hs,Yq W _⟩,(h.alloc hs _).drew⟩
 .exact⟨⟨_,rfl,W.heap.size,rfl,hs,Yq W _⟩,h.alloc hs _⟩
def Words.below{w w':kV}(h:Words w)(m:kW w w'):Words w':=by
 intro j o;have hc:=h j o;have u:2<w.heap.size:=by
  rcases Nat.lt_or_ge 2 w.heap.size with g|g;·exact g
  .simp[vC,World.cell?,Array.getElem?_eq_none g]at hc
 exact(m.cell (p:=⟨2,j,none⟩) u).trans hc
theorem VD:(Tryz.prog.info? 97).map (λi=>(i.zero,i.size,i.bytes))=some (some (.agg #[vI 0,.string ⟨#[]⟩,vI 0,vI 0]),4,40):=by kernel_rfl
def Zcm(w:kV)(text:kB)(hm:text.size<=3000)(hW:Words w) :
 kC 11 #[.string text] w λe w'=>Ztn w (Vd text) e w'/\kW w w':=by
 obtain⟨R,hR⟩:=zX (Vd text)
 rw[<-hR];have HR:=lh hR;have HW:=lh hW;clear hR hW;go_enter func11,ntmps11
 go_wp2;obtain⟨sb,aM⟩:=zX w.heap.size
 obtain⟨w1,dU⟩:=zX (w.alloc (.cells #[.string text,vI 0] 93))
 rw[<-aM,<-dU];have S1:ScanAt w1 w1 sb text 0:=ScanAt.refl (by rw[dU,aM];exact Yq w _);have aQ:kW w w1:=Rc
 have bj:w1.heap.size=sb+1:=by rw[dU,aM];simp
 have hb0:w.heap.size<=sb:=Qe
 have HZ:=lh bj;have B1:=lh aQ;have hst:∃(i f:Nat) (l:List Tok) (v:Value),v=Value.slice none 0 0/\ScanAt w1 w1 sb text i/\w1.ownsRow (sb+1) 97 4 v l.length (l.flatMap Tok.cells)/\sZ text f i l=R/\text.size+1<=i+f/\i<=text.size/\l.length<=i:=
  ⟨0,text.size+1,[],_,rfl,S1,World.ownsRow_nil _ _ _ _,HR.o.symm,by omega,by omega,Y0 _⟩
 have ST:=lh hst;have cD:=lh aM;clear hst dU S1 aQ bj aM HR;go_loopw [5] (λv wr=>∃(i f:Nat) (l:List Tok) (v':Value),v'=v/\ScanAt w1 wr sb text i/\wr.ownsRow (sb+1) 97 4 v' l.length (l.flatMap Tok.cells)/\sZ text f i l=R/\text.size+1<=i+f/\i<=text.size/\l.length<=i) (λ_ wr=>text.size+1-(intOf ((wr.cell? ⟨sb,1,none⟩).getD .nilIface)).toNat)
 case atStart=>exact ST.o
 case round=>
  obtain⟨i,f,l,v,rfl,hS,hO,hq,hf,hi,hl⟩:=hrel;obtain⟨f,rfl⟩:∃g,f=g+1:=⟨f-1,by omega⟩
  have SC:=hS.c1;obtain⟨HC,SI,OI,HQ⟩:=gp (Zm4 hS.blk hi Qe) hS hO hq;clear hS hO hq ST;go_wp2_with fail
  refine HC.o.mono ?_;rintro e w2⟨j,hj,Cq,Ir,rfl,hS⟩;have Iu:w2.ownsRow (sb+1) 97 4 v l.length (l.flatMap Tok.cells):=Z3 OI.o λg hg=>hS.block g (OI.o.lt g hg).2 (by have:=(OI.o.lt g hg).1;omega);have S2:=SI.o.trans hS;have HJ:=lh hj;have O2:=lh Iu;have q1:=S2.c1;have Ed:=S2.lt;have S2:=lh S2;have Iv:=lh SC;clear HC SI SC OI hS Iu hj;go_upto_region 7 with(fail)
  have y:=Mid.new S2.o O2.o #[vI 0,.string ⟨#[]⟩,vI 0,vI j];obtain⟨w3,jk⟩:=zX (w2.alloc (.cells #[vI 0,.string ⟨#[]⟩,vI 0,vI j] 97))
  obtain⟨tb,xR⟩:=zX w2.heap.size
  rw[<-xR,<-jk]at y ⊢;have q0:=y.scan.c0;have q1:=y.scan.c1;have t0:=y.cell 0 rfl;have t1:=y.cell 1 rfl;have t2:=y.cell 2 rfl;have t3:=y.cell 3 rfl;have z0:=y.fz 0;have z1:=y.fz 1;have z2:=y.fz 2;have z3:=y.fz 3;have zs:=y.scan.fz 1;have eh:=y.lt;have cG:=y.tlt;have bZ:=y.scan.lt;have y:=lh y;have CI:=Iv;clear jk xR S2 O2 Iv Ed;obtain⟨i0,vw,aC,bj,bJ⟩:=info_parts VD;by_cases Iw:j=text.size
  .subst Iw;have bD:=lh (Zpe HQ.o HJ.o (Y0 _));obtain⟨Z,hw,M4⟩:=(y.o.put 0 (vI 6)).name;clear q0 q1 t0 t1 t2 t3 z0 z1 z2 z3 zs eh cG bZ;have q0:=y.o.scan.c0;have q1:=y.o.scan.c1;have t0:=y.o.cell 0 rfl;have t1:=y.o.cell 1 rfl;have t2:=y.o.cell 2 rfl;have t3:=y.o.cell 3 rfl;have z0:=y.o.fz 0;have z1:=y.o.fz 1;have z2:=y.o.fz 2;have z3:=y.o.fz 3;have zs:=y.o.scan.fz 1;have eh:=y.o.lt;have cG:=y.o.tlt;have bZ:=y.o.scan.lt;go_upto_region 9 with(fail)
   rw[<-hw];clear hw q0 q1 t0 t1 t2 t3 z0 z1 z2 z3 zs eh cG bZ;refine WK ?_;intro q0 q1 t0 t1 t2 t3 z0 z1 z2 z3 zs eh cG bZ;have M4:=lh M4
   go_wp2_with (at_builtin;go_must (refine wpList_append_lies _ rfl (.tmp 37) (.tmp 39) 46 rfl (sb+1) 97 i0 _ 4 40 underlying46 vw aC bj bJ rfl Qg v l.length (l.flatMap Tok.cells) rfl (M4.o.own.alloc _) _ 1 1 (Tok.cells ⟨6,ByteArray.empty,0,text.size⟩) rfl rfl (Ya (cs:=(Tok.cells ⟨6,ByteArray.empty,0,text.size⟩).toArray) (t:=97) (fr:=(0,0)) (Yq _ _)) QE Qg Qj Qe Qi _ rfl ?_);intro g cap w9 F I U Y;have HG:=lh I;have o8:=lh F;clear I F U Y)
   go_ret2
   rw[bD.o];exact⟨⟨_,rfl,Z97 (by have:=cD.o;omega) (Z51 o8.o)⟩,((M4.o.scan.belowOf B1.o hb0).alloc (by have:=M4.o.scan.size;have:=HZ.o;omega) _).grown HG.o (by have:=M4.o.scan.size;have:=HZ.o;have:=cD.o;simp;omega) (λk hk=>by have:=(M4.o.own.lt k hk).1;have:=cD.o;omega)⟩
  have aA:j<text.size:=Qe
  have aH:((j:Int)==(text.size:Int))=false:=Qi
  have jj:=Z53 (text:=text) aA;obtain⟨c,hc⟩:=zX (Z5 text j)
  rw[<-hc]at jj;obtain⟨u,hu⟩:=zX (text[j])
  rw[<-hu]at jj;have HU:=lh jj;have aw:(text[j].toNat:Int)=c:=by rw[<-hu];exact jj.symm
  have HC:=lh hc;obtain⟨Bl,xS⟩:=zX (uK c)
  have sr:Hid (∀w,kC 32 #[.int .u8 c] w λe w'=>e=.returned (.bool Bl)/\w=w'):=lh λw=>by rw[xS];exact(Zc6 w c).mono λe w' h=>⟨h.1,h.2.symm⟩
  have Ee:=lh xS;obtain⟨Bd,Ef⟩:=zX (mI c)
  have Eg:Hid (∀w,kC 34 #[.int .u8 c] w λe w'=>e=.returned (.bool Bd)/\w=w'):=lh λw=>by rw[Ef];exact(Zax w c).mono λe w' h=>⟨h.1,h.2.symm⟩
  have xT:=lh Ef;clear jj hc hu xS Ef Iw hm;cases Bl
  ·cases Bd
   ·have bR : Hid (uK (Z5 text j) = false) := lh (by rw [← HC.o]; exact Ee.o.symm);have Ei : Hid (mI (Z5 text j) = false) := lh (by rw [← HC.o]; exact xT.o.symm);by_cases Cy : c = 39
    .subst Cy;have zj:=Zjo w3 sb j text y.o.scan.blk aA Qe;obtain⟨⟨bs,ec,k⟩,hr⟩:∃r,r=CP text (j+1):=⟨_,rfl⟩
     have aD:=Zfk text (text.size+1-(j+1)) (j+1) [];rw[show Zy text (text.size+1-(j+1)) (j+1) []=CP text (j+1)from rfl,<-hr]at aD;rw[<-hr]at zj;have zj:=lh zj;have Ej:=lh hr.symm;clear hr;simp only at aD;go_wp2_with fail
     refine(sr.o _).mono ?_;rintro e Z⟨rfl,rfl⟩;go_wp2_with fail
     refine(Eg.o _).mono ?_;rintro e Z⟨rfl,rfl⟩;go_wp2_with fail
     refine zj.o.mono ?_;rintro e Z⟨rfl,hS⟩;have M4:=y.o.call hS;clear zj hS y q0 q1 t0 t1 t2 t3 z0 z1 z2 z3 zs eh cG bZ;refine WK ?_;intro q0 q1 t0 t1 t2 t3 z0 z1 z2 z3 zs eh cG bZ;have M4:=lh M4;rcases aD with rfl|rfl|rfl
     .have HT:Hid (j4 text j= .ok (⟨4,⟨bs.toArray⟩,0,j⟩,k)):=lh (Zlh HC.o.symm Ej.o);have M5:Mid w1 _ sb tb text k v l #[vI 4,.string ⟨bs.toArray⟩,vI 0,vI j]:=(M4.o.put 0 (vI 4)).put 1 (.string ⟨bs.toArray⟩);refine Zkh ?_;intro cB aT;go_upto_region 46 with(fail)
      obtain⟨wT,hw,MT⟩:=M5.name;rw[<-hw];clear hw;clear q0 q1 t0 t1 t2 t3 z0 z1 z2 z3 zs eh cG bZ;refine T3 ?_;intro q0 q1 t0 t1 t2 t3 z0 z1 z2 z3 zs eh cG bZ MT
      go_wp2_with (at_builtin;go_must (refine wpList_append_lies _ rfl (.tmp 192) (.tmp 194) 46 rfl (sb+1) 97 i0 _ 4 40 underlying46 vw aC bj bJ rfl Qg v l.length (l.flatMap Tok.cells) rfl (MT.o.own.alloc _) _ 1 1 (Tok.cells ⟨4,⟨bs.toArray⟩,0,j⟩) rfl rfl (Ya (cs:=(Tok.cells ⟨4,⟨bs.toArray⟩,0,j⟩).toArray) (t:=97) (fr:=(0,0)) (Yq _ _)) QE Qg Qj Qe Qi _ rfl ?_);intro g cap w9 F I U Y;have HG:=lh I;have o8:=lh F;clear I F U Y)
      have S9:=MT.o.app HZ.o HG.o;have S9:=lh S9;go_roundw
      case rel=>exact⟨k,f,l++[⟨4,⟨bs.toArray⟩,0,j⟩],_,rfl,S9.o,Z51 o8.o,Z6j HQ.o HJ.o aA HT.o,by omega,by omega,by simp;omega⟩
      case measure=>
       rw[S9.o.c1,CI.o];simp[intOf];omega
     .have HE:=lh (X' HQ.o HJ.o aA (Zkc HC.o.symm Ej.o));exact AbA
     .have HE:=lh (X' HQ.o HJ.o aA (Ziw HC.o.symm Ej.o));exact AbA
    have Is:(c==39)=false:=by simp[Cy]
    have Ek:Hid (Z5 text j≠39):=lh (by rw[<-HC.o];exact Cy);clear Cy;obtain⟨x1,dL⟩:=zX (text.extract j (j+1))
    have D9:j+1<=text.size:=Qe
    go_wp2_with fail
    refine(sr.o _).mono ?_;rintro e Z⟨rfl,rfl⟩;go_wp2_with fail
    refine(Eg.o _).mono ?_;rintro e Z⟨rfl,rfl⟩;go_wp2_with fail
    have lq:=lh dL;clear dL;have L0:IntKind.i64.wrap ((j:Int)+1)=(j:Int)+1:=Yv _ Qe;have xU:((j:Int)+1).toNat=j+1:=Qe
    have L1:(j:Int)+1<=text.size:=Qe
    have L2:0<=(j:Int)+1:=Qe
    have L3:(j:Int)<=(j:Int)+1:=Qe
    refine Z7 [0,2,4,6,8,10,12,14,16,18,20,22,25] [13,14] (λW=>vC W sb 1 (vI j)) q1 λ_=>?_;refine dS ?_
    iterate 12
     refine dq ?_
    refine Ze (λK hK=>?_);go_simp
    refine hK _ _ ((y.o.put 0 (vI 5)).drew.scan.c1) ?_;clear hK K;refine Z1 ?_;have M5:Mid w1 _ sb tb text j v l #[vI 5,.string (Bm text j 0),vI 0,vI j]:=((y.o.put 0 (vI 5)).put 1 (.string (text.extract j (j+1)))).drew;go_upto_region 12 with(fail)
    obtain⟨w5,hw,M5⟩:=M5.name;rw[<-hw];clear hw;clear q0 q1 t0 t1 t2 t3 z0 z1 z2 z3 zs eh cG bZ y L0 xU L1 L2 L3;refine Zw9 ?_;intro q0 q1 t0 t1 t2 t3 z0 z1 z2 z3 zs eh cG bZ;have M5:=lh M5;go_wp2;obtain⟨w6,jL⟩:=zX (w5.alloc (.cells #[.string ⟨#[61,61,61]⟩,.string ⟨#[38,38]⟩,.string ⟨#[124,124]⟩] 9))
    obtain⟨lb,Cz⟩:=zX w5.heap.size
    have pc:w6.heap[lb]?=some (.cells #[.string ⟨#[61,61,61]⟩,.string ⟨#[38,38]⟩,.string ⟨#[124,124]⟩] 9 (0,0)):=by rw[jL,Cz];exact Yq w5 _
    have M6:Mid w1 w6 sb tb text j v l #[vI 5,.string (Bm text j 0),vI 0,vI j]:=by rw[jL];exact M5.o.same ((Y2 _ _).alloc (Y0 _) _)
    have im:lb≠tb:=Qe
    rw[<-Cz,<-jL];have zk:∃m:Nat,Value.int .i64 0=(vI m)/\m<=3/\Mid w1 w6 sb tb text j v l #[vI 5,.string (Bm text j m),vI 0,vI j]/\w6.heap[lb]?=some (.cells #[.string ⟨#[61,61,61]⟩,.string ⟨#[38,38]⟩,.string ⟨#[124,124]⟩] 9 (0,0)):=⟨0,rfl,by omega,M6,pc⟩
    have Ix:=lh zk;have vy:=lh im;clear zk M6 pc jL Cz im M5 q0 q1 t0 t1 t2 t3 z0 z1 z2 z3 zs eh cG bZ;go_loopw [62] (λx xU=>∃m:Nat,x=(vI m)/\m<=3/\Mid w1 xU sb tb text j v l #[vI 5,.string (Bm text j m),vI 0,vI j]/\xU.heap[lb]?=some (.cells #[.string ⟨#[61,61,61]⟩,.string ⟨#[38,38]⟩,.string ⟨#[124,124]⟩] 9 (0,0))) (λx _=>3-(intOf x).toNat)
    case atStart=>exact Ix.o
    case round=>
     obtain⟨m,rfl,El,hM,pc⟩:=hrel;have M6:=lh hM;have l0:wr.cell? ⟨lb,0,none⟩=some (.string ⟨#[61,61,61]⟩):=R'
     have l1:wr.cell? ⟨lb,1,none⟩=some (.string ⟨#[38,38]⟩):=R'
     have l2:wr.cell? ⟨lb,2,none⟩=some (.string ⟨#[124,124]⟩):=R'
     have rx:=lh pc;clear pc Ix;refine Zxo ?_;intro q0 q1 t0 t1 t2 t3 z0 z1 z2 z3 zs eh cG bZ;clear hM;by_cases hm:m=3
     .subst hm;obtain⟨X,hX⟩:=zX (Bm text j 3)
      rw[<-hX]at t1 M6;obtain⟨z,hz⟩:=zX (Zp text j)
      have cE:=Zv5 text j aA;rw[<-hX,<-hz]at cE;obtain⟨Iy,OY,Cr⟩:=cE;have Iz:=lh Iy;have CA:=lh hz;obtain⟨ki,sh⟩:=zX (Lib.indexByte Zph u)
      have xV:=Zgp u;rw[<-sh,<-HU.o]at xV;have HI:Hid (kC 38 #[.string ⟨#[40,41,123,125,91,93,59,58,44,46,61,43,45,42,60,33]⟩,.int .u8 c] wr λe w'=>e=.returned (vI ki)/\wr=w'):=lh ((Tryz.strings_IndexByte _ _ wr).mono λe w' h=>⟨by rw[h.1,sh,HU.o];simp[Zph],h.2.symm⟩);have OZ:1<=z:=by rw[hz];unfold Zp;(repeat' split)<;>omega
      clear hX Iy hz sh;obtain⟨Bs,Em⟩:=zX (Uo c)
      rw[<-Em]at xV;have IA:=lh Em;clear Em;cases Bs
      .have oZ:ki<0:=by simpa using xV
       clear xV;by_cases zl:z=1
       .subst zl;have HE:=lh (X' HQ.o HJ.o aA (Zet bR.o Ei.o Ek.o ⟨CA.o.symm,by rw[<-HC.o];exact IA.o.symm⟩));go_wp2_with fail
        refine HI.o.mono ?_;rintro e w7⟨rfl,rfl⟩;exact tu0 M6
       .have En:((z:Int)==1)=false:=by simp;omega
        have HT:Hid (j4 text j=.ok (⟨5,X,0,j⟩,j+z)):=lh (by have h:=Zc4 bR.o Ei.o Ek.o (λh=>zl (CA.o.trans h.1));rw[<-CA.o,<-Iz.o]at h;exact h);go_wp2_with fail
        refine HI.o.mono ?_;rintro e w7⟨rfl,rfl⟩;go_wp2;refine Z7 [0,2,4,6,8,10,12] [7,8,9,10] (λW=>vC W sb 1 (vI j)/\vC W tb 1 (.string X)) ⟨q1,t1⟩ λ_=>?_;refine dS ?_
        iterate 7
         refine dq ?_
        refine Zyl ?_;intro M8;refine Zkh ?_;intro cB aT;go_upto_region 46 with(fail)
        obtain⟨wT,hw,MT⟩:=M8.name;rw[<-hw];clear hw;clear q0 q1 t0 t1 t2 t3 z0 z1 z2 z3 zs eh cG bZ;refine T3 ?_;intro q0 q1 t0 t1 t2 t3 z0 z1 z2 z3 zs eh cG bZ MT
        go_wp2_with (at_builtin;go_must (refine wpList_append_lies _ rfl (.tmp 192) (.tmp 194) 46 rfl (sb+1) 97 i0 _ 4 40 underlying46 vw aC bj bJ rfl Qg v l.length (l.flatMap Tok.cells) rfl (MT.o.own.alloc _) _ 1 1 (Tok.cells ⟨5,X,0,j⟩) rfl rfl (Ya (cs:=(Tok.cells ⟨5,X,0,j⟩).toArray) (t:=97) (fr:=(0,0)) (Yq _ _)) QE Qg Qj Qe Qi _ rfl ?_);intro g cap w9 F I U Y;have HG:=lh I;have o8:=lh F;clear I F U Y)
        exact Aaa
      .have oZ:¬ki<0:=by simpa using xV
       clear xV;have HT:Hid (j4 text j=.ok (⟨5,X,0,j⟩,j+z)):=lh (by have h:=Zc4 bR.o Ei.o Ek.o (λh=>by have h2:=h.2;rw[<-HC.o,<-IA.o]at h2;cases h2);rw[<-CA.o,<-Iz.o]at h;exact h);go_wp2_with fail
       refine HI.o.mono ?_;rintro e w7⟨rfl,rfl⟩;go_wp2;refine Z7 [0,2,4,6,8,10,12] [7,8,9,10] (λW=>vC W sb 1 (vI j)/\vC W tb 1 (.string X)) ⟨q1,t1⟩ λ_=>?_;refine dS ?_
       iterate 7
        refine dq ?_
       refine Zyl ?_;intro M8;refine Zkh ?_;intro cB aT;go_upto_region 46 with(fail)
       obtain⟨wT,hw,MT⟩:=M8.name;rw[<-hw];clear hw;clear q0 q1 t0 t1 t2 t3 z0 z1 z2 z3 zs eh cG bZ;refine T3 ?_;intro q0 q1 t0 t1 t2 t3 z0 z1 z2 z3 zs eh cG bZ MT
       go_wp2_with (at_builtin;go_must (refine wpList_append_lies _ rfl (.tmp 192) (.tmp 194) 46 rfl (sb+1) 97 i0 _ 4 40 underlying46 vw aC bj bJ rfl Qg v l.length (l.flatMap Tok.cells) rfl (MT.o.own.alloc _) _ 1 1 (Tok.cells ⟨5,X,0,j⟩) rfl rfl (Ya (cs:=(Tok.cells ⟨5,X,0,j⟩).toArray) (t:=97) (fr:=(0,0)) (Yq _ _)) QE Qg Qj Qe Qi _ rfl ?_);intro g cap w9 F I U Y;have HG:=lh I;have o8:=lh F;clear I F U Y)
       exact Aaa
     .have hp:∀m,Hid (kC 37 #[.string (text.extract j text.size),.string (sW m)] wr λe w'=>e= .returned (.bool (preB text j m))/\wr=w'):=λm=>lh ((Tryz.strings_HasPrefix _ _ wr).mono λe w' h=>⟨by rw[h.1];unfold preB Lib.hasPrefix;rw[extract_drop],h.2.symm⟩);have HP:=lh hp;clear hp;have zm:m=0\/m=1\/m=2:=by omega
      clear hm;rcases zm with rfl|rfl|rfl
      .obtain⟨Bp,p9⟩:=zX (preB text j 0)
       have tL:=HP.o 0;rw[<-p9]at tL;have tG:=lh p9;clear p9 HP;go_wp2_with fail
       refine tL.o.mono ?_;rintro e w7⟨rfl,rfl⟩;cases Bp
       .have O:Bm text j (0+1)=Bm text j 0:=by
         exact Zzp
        have HT:=lh O;clear O;go_wp2;go_roundw
        case rel=>exact⟨0+1,by go_num,by omega,by rw[HT.o];exact M6.o,rx.o⟩
        case measure=>simp[intOf]
       .have O:Bm text j (0+1)=sW 0:=by
         exact Zzp
        have HT:=lh O;clear O;go_wp2;go_roundw
        case rel=>exact⟨0+1,by go_num,by omega,by rw[HT.o];exact M6.o.put 1 (.string (sW 0)),(Y8 _ _ _ _ vy.o).trans rx.o⟩
        case measure=>simp[intOf]
      .obtain⟨Bp,p9⟩:=zX (preB text j 1)
       have tL:=HP.o 1;rw[<-p9]at tL;have tG:=lh p9;clear p9 HP;go_wp2_with fail
       refine tL.o.mono ?_;rintro e w7⟨rfl,rfl⟩;cases Bp
       .have O:Bm text j (1+1)=Bm text j 1:=by
         exact Zv8
        have HT:=lh O;clear O;go_wp2;go_roundw
        case rel=>exact⟨1+1,by go_num,by omega,by rw[HT.o];exact M6.o,rx.o⟩
        case measure=>simp[intOf]
       .have O:Bm text j (1+1)=sW 1:=by
         exact Zv8
        have HT:=lh O;clear O;go_wp2;go_roundw
        case rel=>exact⟨1+1,by go_num,by omega,by rw[HT.o];exact M6.o.put 1 (.string (sW 1)),(Y8 _ _ _ _ vy.o).trans rx.o⟩
        case measure=>simp[intOf]
      .obtain⟨Bp,p9⟩:=zX (preB text j 2)
       have tL:=HP.o 2;rw[<-p9]at tL;have tG:=lh p9;clear p9 HP;go_wp2_with fail
       refine tL.o.mono ?_;rintro e w7⟨rfl,rfl⟩;cases Bp
       .have O:Bm text j (2+1)=Bm text j 2:=by
         exact Zzl
        have HT:=lh O;clear O;go_wp2;go_roundw
        case rel=>exact⟨2+1,by go_num,by omega,by rw[HT.o];exact M6.o,rx.o⟩
        case measure=>simp[intOf]
       .have O:Bm text j (2+1)=sW 2:=by
         exact Zzl
        have HT:=lh O;clear O;go_wp2;go_roundw
        case rel=>exact⟨2+1,by go_num,by omega,by rw[HT.o];exact M6.o.put 1 (.string (sW 2)),(Y8 _ _ _ _ vy.o).trans rx.o⟩
        case measure=>simp[intOf]
   ·have dP := lh (Zm7 y.o.scan.blk Qe Qe);have bR : Hid (uK (Z5 text j) = false) := lh (by rw [← HC.o]; exact Ee.o.symm);have zo : Hid (mI (Z5 text j) = true) := lh (by rw [← HC.o]; exact xT.o.symm);go_wp2_with fail
    refine(sr.o _).mono ?_;rintro e Z⟨rfl,rfl⟩;go_wp2_with fail
    refine(Eg.o _).mono ?_;rintro e Z⟨rfl,rfl⟩;go_wp2_with fail
    refine dP.o.mono ?_;rintro e Z⟨k,hk,pS,bN,rfl,hS⟩;obtain⟨n,rfl⟩:∃n,k=j+n:=⟨k-j,by omega⟩
    have M4:=y.o.call hS;have HK:=lh hk;have sq:=lh (Zv mI text (text.size-j) j (Y0 _) Qe);have iW:1<=n:=by
     rcases Nat.lt_or_ge j (j+n)with h|h;·omega
     .have h3:=sq.o.2.2.2;rw[<-HK.o]at h3;have h4:=h3 Qe;rw[show j+n=j by omega,zo.o]at h4;cases h4
    have L4:Hid (∀m,m<n->mI (Z5 text (j+m))=true):=lh λm hm=>sq.o.2.2.1 _ Qe (by rw[<-HK.o];omega);clear dP hS hk y q0 q1 t0 t1 t2 t3 z0 z1 z2 z3 zs eh cG bZ sq;obtain⟨s,hs⟩:=zX (text.extract j (j+n))
    have zr:s.size=n:=by rw[hs,UJ text bN];omega
    have nH:Hid (∀m (h:m<s.size),(s[m].toNat:Int)=Z5 text (j+m)):=lh λm h=>by
     rw[<-Z53 h];subst hs;exact Zi text Qe bN
    rw[<-hs];have HS:=lh hs;clear hs;have gL:(s[0].toNat:Int)=c:=by rw[nH.o 0 Qe,HC.o];rfl
    refine WK ?_;intro q0 q1 t0 t1 t2 t3 z0 z1 z2 z3 zs eh cG bZ;have M4:=lh M4;by_cases lj:10<n
    .have HE:=lh (X' HQ.o HJ.o aA (Zcs bR.o zo.o HK.o Qe));exact Acd
    by_cases IB:1<n/\c=48
    .obtain⟨h1,rfl⟩:=IB;have HE:=lh (X' HQ.o HJ.o aA (Zcs bR.o zo.o HK.o QO));exact Acd
    have IC:Hid (¬(10<j+n-j\/(1<j+n-j/\Z5 text j=48))):=lh QO;have cS:(1<n/\(c==48)=false)\/¬1<n:=by
     by_cases h1:1<n;·exact .inl ⟨h1,by simp;omega⟩
     .exact .inr Qe
    clear IB;have ex:∃(m:Nat) (N:Int),Value.int .i64 0=(vI m)/\m<=n/\Mid w1 Z sb tb text (j+n) v l #[vI 0,.string ⟨#[]⟩,vI N,vI j]/\kY text (j+n) (n-m) (j+m) N=kY text (j+n) n j 0/\0<=N/\N<pw m:=
     ⟨0,0,rfl,by omega,M4.o,by simp,by omega,by simp[pw]⟩
    have Eo:=lh ex;clear ex M4;obtain⟨X,hX⟩:=zX (kY text (j+n) n j 0)
    rw[<-hX]at Eo;have HX:=lh hX;clear hX;rcases cS with⟨h1,L5⟩|h1
    all_goals
     go_wp2;clear q0 q1 t0 t1 t2 t3 z0 z1 z2 z3 zs eh cG bZ;go_loopw [146] (λx xU=>∃(m:Nat) (N:Int),x=(vI m)/\m<=n/\Mid w1 xU sb tb text (j+n) v l #[vI 0,.string ⟨#[]⟩,vI N,vI j]/\kY text (j+n) (n-m) (j+m) N=X/\0<=N/\N<pw m) (λx _=>20-(intOf x).toNat)
     case atStart=>exact Eo.o
     case round=>
      obtain⟨m,N,rfl,lI,hM,ID,O0,CB⟩:=hrel;have L6:1<=s.size:=Qe
      have M6:=lh hM;refine Zxo ?_;intro q0 q1 t0 t1 t2 t3 z0 z1 z2 z3 zs eh cG bZ;have Ep:=lh ID;clear hM ID Eo;by_cases L7:m<s.size
      .have O1:N<1000000000:=Int.lt_of_lt_of_le CB (Aai m Qe);have L8:=lh CB;obtain⟨d,hd⟩:=zX (Z5 text (j+m))
       have pd:(s[m].toNat:Int)=d:=by rw[nH.o m L7,hd]
       have tM:=L4.o m Qe;rw[<-hd]at tM;have L9:48<=d/\d<=57:=by simpa[mI]using tM
       obtain⟨O3,tN⟩:=L9;have Mc:=lh hd;clear hd tM CB;go_wp2_with fail
       refine Z7 [0,2,4,6,8,10,12,15] [8,9,10] (λW=>vC W tb 2 (vI N)) t2 λ_=>?_;refine dS ?_
       iterate 7
        refine dq ?_
       refine Ze (λK hK=>?_);go_simp
       refine hK _ _ t2 ?_;clear hK K;refine Z1 ?_;go_wp2;go_roundw
       case rel=>exact⟨m+1,10*N+(d-48),by go_num,by omega,(M6.o.put 2 (vI (10*N+(d-48)))).drew,by have h:=Ep.o;rw[Zmk Qe,<-Mc.o]at h;exact h,by omega,by have:=L8.o;simp only[pw];omega⟩
       case measure=>simp[intOf];omega
      .have Md:n=m:=by omega
       subst Md;have IE:N=kY text (j+n) (j+n-j) j 0:=by rw[Nat.add_sub_cancel_left,<-HX.o,<-Ep.o];exact Znp.symm
       have Es:=lh IE;clear IE CB;have J:Mid w1 _ sb tb text (j+n) v l #[vI 3,.string ⟨#[]⟩,vI N,vI j]:=M6.o.put 0 (vI 3);go_upto_region 37 with(fail)
       obtain⟨w7,hw,J⟩:=J.name;rw[<-hw];clear hw;clear q0 q1 t0 t1 t2 t3 z0 z1 z2 z3 zs eh cG bZ;have q0:=J.scan.c0;have q1:=J.scan.c1;have t0:=J.cell 0 rfl;have t1:=J.cell 1 rfl;have t2:=J.cell 2 rfl;have t3:=J.cell 3 rfl;have z0:=J.fz 0;have z1:=J.fz 1;have z2:=J.fz 2;have z3:=J.fz 3;have zs:=J.scan.fz 1;have eh:=J.lt;have cG:=J.tlt;have bZ:=J.scan.lt;have J:=lh J;by_cases eR:1000000000<N
       .have HE:=lh (X' HQ.o HJ.o aA (Zg8 bR.o zo.o HK.o IC.o (by rw[<-Es.o];exact eR)));exact tu0 J
       .have HT:Hid (j4 text j= .ok (⟨3,ByteArray.empty,N,j⟩,j+n)):=lh (by have h:=Zme bR.o zo.o HK.o IC.o (by rw[<-Es.o];exact eR);rw[<-Es.o]at h;exact h);refine Zkh ?_;intro cB aT;go_upto_region 46 with(fail)
        obtain⟨wT,hw,MT⟩:=J.o.name;rw[<-hw];clear hw;clear q0 q1 t0 t1 t2 t3 z0 z1 z2 z3 zs eh cG bZ;refine T3 ?_;intro q0 q1 t0 t1 t2 t3 z0 z1 z2 z3 zs eh cG bZ MT
        go_wp2_with (at_builtin;go_must (refine wpList_append_lies _ rfl (.tmp 192) (.tmp 194) 46 rfl (sb+1) 97 i0 _ 4 40 underlying46 vw aC bj bJ rfl Qg v l.length (l.flatMap Tok.cells) rfl (MT.o.own.alloc _) _ 1 1 (Tok.cells ⟨3,ByteArray.empty,N,j⟩) rfl rfl (Ya (cs:=(Tok.cells ⟨3,ByteArray.empty,N,j⟩).toArray) (t:=97) (fr:=(0,0)) (Yq _ _)) QE Qg Qj Qe Qi _ rfl ?_);intro g cap w9 F I U Y;have HG:=lh I;have o8:=lh F;clear I F U Y)
        have S9:=MT.o.app HZ.o HG.o;have S9:=lh S9;go_roundw
        case rel=>exact⟨j+n,f,l++[⟨3,ByteArray.empty,N,j⟩],_,rfl,S9.o,Z51 o8.o,Z6j HQ.o HJ.o aA HT.o,by omega,by omega,by simp;omega⟩
        case measure=>
         rw[S9.o.c1,CI.o];simp[intOf];omega
  .have dP:=lh (Zpw y.o.scan.blk Qe Qe);have IF:uK (Z5 text j)=true:=by rw[<-HC.o];exact Ee.o.symm
   have Et:=lh IF;clear IF;go_wp2_with fail
   refine(sr.o _).mono ?_;rintro e Z⟨rfl,rfl⟩;go_wp2_with fail
   refine dP.o.mono ?_;rintro e Z⟨k,hk,pS,bN,rfl,hS⟩;have M4:=y.o.call hS;have HK:=lh hk;clear dP hS hk y q0 q1 t0 t1 t2 t3 z0 z1 z2 z3 zs eh cG bZ;refine WK ?_;intro q0 q1 t0 t1 t2 t3 z0 z1 z2 z3 zs eh cG bZ;obtain⟨s,hs⟩:=zX (text.extract j k)
   have zr:s.size=k-j:=by rw[hs];exact UJ text bN
   rw[<-hs];have HS:=lh hs;have ss:=lh zr;clear hs zr;have M5:Mid w1 _ sb tb text k v l #[vI 1,.string s,vI 0,vI j]:=(M4.put 0 (vI 1)).put 1 (.string s);go_upto_region 23 with(fail)
   obtain⟨w5,hw,M5⟩:=M5.name;rw[<-hw];clear hw;clear M4 q0 q1 t0 t1 t2 t3 z0 z1 z2 z3 zs eh cG bZ;refine Zw9 ?_;intro q0 q1 t0 t1 t2 t3 z0 z1 z2 z3 zs eh cG bZ;obtain⟨Bw,mQ⟩:=zX (Uk s)
   have Me:Hid (kC 35 #[.string s] w5 λe w'=>e=.returned (.bool Bw)/\w5=w'):=lh (by rw[mQ];exact(Zjq w5 s (HW.o.below (M5.scan.belowOf B1.o hb0))).mono λe w' h=>⟨h.1,h.2.symm⟩);have Eu:=lh mQ;have M5:=lh M5;have ba:s.size=k-j:=ss.o;clear mQ;go_wp2_with fail
   refine Me.o.mono ?_;rintro e w6⟨rfl,rfl⟩;cases Bw
   .by_cases zh:20<k-j
    .have Mf:decide (((k-j:Nat):Int)>20)=true:=by simp;omega
     have HE:=lh (X' HQ.o HJ.o aA (Zkj Et.o HK.o Rx zh));exact tu0 M5
    .have HT:Hid (j4 text j= .ok (⟨1,s,0,j⟩,k)):=lh (by have h:=Zk8 Et.o HK.o Rx zh;rw[<-HS.o]at h;exact h);refine Zkh ?_;intro cB aT;go_upto_region 46 with(fail)
     obtain⟨wT,hw,MT⟩:=M5.o.name;rw[<-hw];clear hw;clear q0 q1 t0 t1 t2 t3 z0 z1 z2 z3 zs eh cG bZ;refine T3 ?_;intro q0 q1 t0 t1 t2 t3 z0 z1 z2 z3 zs eh cG bZ MT
     go_wp2_with (at_builtin;go_must (refine wpList_append_lies _ rfl (.tmp 192) (.tmp 194) 46 rfl (sb+1) 97 i0 _ 4 40 underlying46 vw aC bj bJ rfl Qg v l.length (l.flatMap Tok.cells) rfl (MT.o.own.alloc _) _ 1 1 (Tok.cells ⟨1,s,0,j⟩) rfl rfl (Ya (cs:=(Tok.cells ⟨1,s,0,j⟩).toArray) (t:=97) (fr:=(0,0)) (Yq _ _)) QE Qg Qj Qe Qi _ rfl ?_);intro g cap w9 F I U Y;have HG:=lh I;have o8:=lh F;clear I F U Y)
     have S9:=MT.o.app HZ.o HG.o;have S9:=lh S9;go_roundw
     case rel=>exact⟨k,f,l++[⟨1,s,0,j⟩],_,rfl,S9.o,Z51 o8.o,Z6j HQ.o HJ.o aA HT.o,by omega,by omega,by simp;omega⟩
     case measure=>
      rw[S9.o.c1,CI.o];simp[intOf];omega
   .have HT:Hid (j4 text j= .ok (⟨2,s,0,j⟩,k)):=lh (by have h:=Zip Et.o HK.o Rx;rw[<-HS.o]at h;exact h);have M6:Mid w1 _ sb tb text k v l #[vI 2,.string s,vI 0,vI j]:=M5.o.put 0 (vI 2);refine Zkh ?_;intro cB aT;go_upto_region 46 with(fail)
    obtain⟨wT,hw,MT⟩:=M6.name;rw[<-hw];clear hw;clear q0 q1 t0 t1 t2 t3 z0 z1 z2 z3 zs eh cG bZ;refine T3 ?_;intro q0 q1 t0 t1 t2 t3 z0 z1 z2 z3 zs eh cG bZ MT
    go_wp2_with (at_builtin;go_must (refine wpList_append_lies _ rfl (.tmp 192) (.tmp 194) 46 rfl (sb+1) 97 i0 _ 4 40 underlying46 vw aC bj bJ rfl Qg v l.length (l.flatMap Tok.cells) rfl (MT.o.own.alloc _) _ 1 1 (Tok.cells ⟨2,s,0,j⟩) rfl rfl (Ya (cs:=(Tok.cells ⟨2,s,0,j⟩).toArray) (t:=97) (fr:=(0,0)) (Yq _ _)) QE Qg Qj Qe Qi _ rfl ?_);intro g cap w9 F I U Y;have HG:=lh I;have o8:=lh F;clear I F U Y)
    have S9:=MT.o.app HZ.o HG.o;have S9:=lh S9;go_roundw
    case rel=>exact⟨k,f,l++[⟨2,s,0,j⟩],_,rfl,S9.o,Z51 o8.o,Z6j HQ.o HJ.o aA HT.o,by omega,by omega,by simp;omega⟩
    case measure=>
     rw[S9.o.c1,CI.o];simp[intOf];omega
