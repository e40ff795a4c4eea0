/- Package lex: Tokens, walked. -/
import Derived.Test.YtjikfacdcdiddaaGreatDoorJ06
import Derived.Deep.Cut
set_option linter.unusedSimpArgs false
set_option maxRecDepth 100000
set_option maxHeartbeats 20000000
namespace Go.Proofs.YtjikfacdcdiddaaGreatDoor
open Go Go.RowKit
def Tok.cells(t:Tok):List Value:=[vI t.kind,.string t.text,vI t.n,vI t.at']
def Zsh(w:World)(base:Nat)(v:Value)(e:Int)(p:Int):Prop:=
 ∃b,v=.iface 142 (vP b)∧base<=b∧w.heap[b]?=some (.cells #[vI e,vI p] 144 (0,0))
def Zrh(w:World)(r:Except (Int×Nat) (List Tok))(e:Ending)(w':World):Prop:=
 match r with
 | .ok l=>∃v,e=.returned (.tuple #[v,.nilIface])∧w'.ownsRow w.heap.size 141 4 v l.length (l.flatMap Tok.cells)
 | .error (c,p)=>∃x,e=.returned (.tuple #[.slice none 0 0,x])∧Zsh w' w.heap.size x c p
theorem ScanAt.belowOf{w0 w1 w:World}{sb a:Nat}{text:ByteArray}(h:ScanAt w1 w sb text a)(g:Below w0.heap.size w0 w1)(hs:w0.heap.size<=sb):Below w0.heap.size w0 w:=
 ⟨h.os.trans g.os,h.tape.trans g.tape,h.output.trans g.output,Y4 g.size h.size,λk hk=>(h.block k (Y7 hk g.size) O').trans (g.block k hk)⟩
structure Mid(w1 w:World)(sb tb:Nat)(text:ByteArray)(a:Nat)(v:Value)(l:List Tok)(c:Array Value):Prop where
 scan:ScanAt w1 w sb text a
 own:w.ownsRow (sb+1) 141 4 v l.length (l.flatMap Tok.cells)
 blk:w.heap[tb]?=some (.cells c 141 (0,0))
 lt:sb<tb
 ge:w1.heap.size<=tb
 ne:v.ownBlock≠some tb
section
variable {w1 w w':World}{sb tb a b:Nat}{text:ByteArray}{v:Value}{l:List Tok}{c:Array Value}
theorem Mid.drew(m:Mid w1 w sb tb text a v l c):Mid w1 w.drew sb tb text a v l c:=⟨m.scan.drew,m.own.drew,m.blk,m.lt,m.ge,m.ne⟩
theorem Mid.row(m:Mid w1 w sb tb text a v l c){g:Nat}(h:v.ownBlock=some g):g<w.heap.size∧g≠sb∧g≠tb:=
 ⟨(m.own.lt g h).2,by have:=(m.own.lt g h).1;omega,λe=>m.ne (by rw[h,e])⟩
theorem Mid.tlt(m:Mid w1 w sb tb text a v l c):tb<w.heap.size:=(Y1.1 m.blk).1
theorem Mid.put(m:Mid w1 w sb tb text a v l c)(o:Nat)(x:Value):Mid w1 (w.setCell ⟨tb,o,none⟩ x) sb tb text a v l (c.setIfInBounds o x):=by
 have hs:(w.setCell ⟨tb,o,none⟩ x).heap.size=w.heap.size:=Yf ..;have far:∀k,k≠tb->(w.setCell ⟨tb,o,none⟩ x).heap[k]?=w.heap[k]?:=λk hk=>Y8 _ _ _ _ hk;have u:=m.lt;have y:=m.ge
 exact⟨⟨(far sb O').trans m.scan.blk,m.scan.os,m.scan.tape,m.scan.output,by rw[hs];exact m.scan.size,λk hk hn=>(far k O').trans (m.scan.block k hk hn)⟩,
  Z2 m.own λg p=>far g (m.row p).2.2,Zh _ m.blk,m.lt,m.ge,m.ne⟩
theorem Mid.set(m:Mid w1 w sb tb text a v l c){x:Int}(hx:x=b):Mid w1 (w.setCell ⟨sb,1,none⟩ (vI x)) sb tb text b v l c:=by
 have p:=m.lt;exact⟨m.scan.set' hx,Z2 m.own λg o=>Y8 _ _ _ _ (m.row o).2.1,(Y8 _ _ _ _ Pe).trans m.blk,m.lt,m.ge,m.ne⟩
theorem Mid.call(m:Mid w1 w sb tb text a v l c)(h:ScanAt w w' sb text b):Mid w1 w' sb tb text b v l c:=by
 have p:=m.lt;exact⟨m.scan.trans h,Z2 m.own λg o=>h.block g (m.row o).1 (m.row o).2.1,(h.block tb m.tlt O').trans m.blk,m.lt,m.ge,m.ne⟩
theorem Mid.same(m:Mid w1 w sb tb text a v l c)(h:Below w.heap.size w w'):Mid w1 w' sb tb text a v l c:=
 ⟨m.scan.below h,Z2 m.own λg o=>h.block g (m.row o).1,(h.block tb m.tlt).trans m.blk,m.lt,m.ge,m.ne⟩
theorem Mid.cell(m:Mid w1 w sb tb text a v l c)(i:Nat){x:Value}(h:c[i]?=some x):w.cell? ⟨tb,i,none⟩=some x:=by simp[vC,World.cell?,m.blk,h]
theorem Mid.fz(m:Mid w1 w sb tb text a v l c)(i:Nat):w.frozen? ⟨tb,i,none⟩=false:=by simp[World.frozen?,m.blk]
theorem Mid.new(m:ScanAt w1 w sb text a)(o:w.ownsRow (sb+1) 141 4 v l.length (l.flatMap Tok.cells))(c:Array Value):Mid w1 (w.alloc (.cells c 141)) sb w.heap.size text a v l c:=by
 have p:Below w.heap.size w (w.alloc (.cells c 141)):=(Y2 _ _).alloc (Y0 _) _;exact⟨m.below p,Z2 o λg u=>p.block g (o.lt g u).2,heap_alloc_new w _,m.lt,m.size,λe=>by have:=(o.lt _ e).2;omega⟩
theorem Mid.name(m:Mid w1 w sb tb text a v l c):∃W,W=w∧Mid w1 W sb tb text a v l c:=⟨w,rfl,m⟩
theorem Mid.app{T:TypeId}{x:Array Value}(m:Mid w1 w sb tb text a v l c)(y:w1.heap.size=sb+1)(g:(w.alloc (.cells x T)).grownBy w' v.ownBlock):ScanAt w1 w' sb text a:=by
 have o:Below w.heap.size w (w.alloc (.cells x T)):=(Y2 _ _).alloc (Y0 _) _;have p:=m.scan.lt;have hs:=m.scan.size;have u:w.heap.size<=(w.alloc (.cells x T)).heap.size:=o.size;have far:∀k,k<w.heap.size->v.ownBlock≠some k->w'.heap[k]?=w.heap[k]?:=λk hk hn=>(g.block k O' (λe=>hn e.symm)).trans (o.block k hk);have ho:∀k,k<=sb->v.ownBlock≠some k:=λk hk e=>by have:=(m.own.lt k e).1;omega
 exact⟨(far sb p (ho sb (Y0 _))).trans m.scan.blk,g.os.trans m.scan.os,g.tape.trans m.scan.tape,g.output.trans m.scan.output,Y4 hs (Y4 u g.size),λk hk hn=>(far k O' (ho k O')).trans (m.scan.block k hk hn)⟩
end
theorem extract_drop(text:ByteArray)(j:Nat):(text.extract j text.size).data.toList=text.data.toList.drop j:=by
 rw[ByteArray.data_extract,Array.toList_extract];simp[List.extract];rw[Ye Pg]
def pw:Nat->Int
 |0=>1
 |m+1=>10*pw m
theorem Zxb:∀m,m<=9->pw m<=1000000000:=by decide
theorem WR{w:World}{base:Nat}{v:Value}{l:List Tok}{t:Tok}(h:w.ownsRow base 141 4 v (l.length+1) (l.flatMap Tok.cells++t.cells)):w.ownsRow base 141 4 v (l++[t]).length ((l++[t]).flatMap Tok.cells):=by
 simpa using h
theorem Z8u{w:World}{base o:Nat}{e:TypeId}{m:Nat}{v:Value}{n:Nat}{p:List Value}(hb:o<=base)(h:w.ownsRow base e m v n p):w.ownsRow o e m v n p:=by
 refine⟨h.1,?_⟩;rcases h.2 with hn|⟨g,cap,u,y,E,F⟩;·exact .inl hn
 .exact .inr ⟨g,cap,u,y,Y4 hb E,F⟩
theorem Yq{w W:World}{e p:Int}(h:Below w.heap.size w W)(W':World)(hW:W'=(W.alloc (.cells #[vI e,vI p] 144)).drew∨W'=W.alloc (.cells #[vI e,vI p] 144):=by first|exact .inl rfl|exact .inr rfl) :
 (∃x,Ending.returned (.tuple #[.slice none 0 0,.iface 142 (vP W.heap.size)])=.returned (.tuple #[.slice none 0 0,x])∧Zsh W' w.heap.size x e p)∧Below w.heap.size w W':=by
 have hs:=h.size;rcases hW with rfl|rfl;·exact⟨⟨_,rfl,W.heap.size,rfl,hs,heap_alloc_new W _⟩,(h.alloc hs _).drew⟩
 .exact⟨⟨_,rfl,W.heap.size,rfl,hs,heap_alloc_new W _⟩,h.alloc hs _⟩
theorem Words.below{w w':World}(h:Words w)(m:Below w.heap.size w w'):Words w':=by
 intro j o;have hc:=h j o;have u:2<w.heap.size:=by
  rcases Nat.lt_or_ge 2 w.heap.size with g|g;·exact g
  .simp[vC,World.cell?,Array.getElem?_eq_none g]at hc
 exact(m.cell (p:=⟨2,j,none⟩) u).trans hc
theorem Tryz.infoTok:(Tryz.prog.info? 141).map (λi=>(i.zero,i.size,i.bytes))=some (some (.agg #[vI 0,.string ⟨#[]⟩,vI 0,vI 0]),4,40):=by kernel_rfl
theorem Zbf(w:World)(text:ByteArray)(hm:text.size<=3000)(hW:Words w) :
 Calls Tryz.prog 25 #[.string text] w λe w'=>Zrh w (Wu text) e w'∧Below w.heap.size w w':=by
 obtain⟨R,hR⟩:=zX (Wu text)
 rw[<-hR];have HR:=lh hR;have HW:=lh hW;clear hR hW;go_enter Tryz.func25,Tryz.ntmps25
 go_wp2;obtain⟨sb,aN⟩:=zX w.heap.size
 obtain⟨w1,eh⟩:=zX (w.alloc (.cells #[.string text,vI 0] 137))
 rw[<-aN,<-eh];have S1:ScanAt w1 w1 sb text 0:=ScanAt.refl (by rw[eh,aN];exact heap_alloc_new w _);have aL:Below w.heap.size w w1:=Qi
 have bo:w1.heap.size=sb+1:=by rw[eh,aN];simp
 have fA:w.heap.size<=sb:=O'
 have HZ:=lh bo;have B1:=lh aL;have hst:∃(i f:Nat) (l:List Tok) (v:Value),v=Value.slice none 0 0∧ScanAt w1 w1 sb text i∧w1.ownsRow (sb+1) 141 4 v l.length (l.flatMap Tok.cells)∧vZ text f i l=R∧text.size+1<=i+f∧i<=text.size∧l.length<=i:=
  ⟨0,text.size+1,[],_,rfl,S1,World.ownsRow_nil _ _ _ _,HR.o.symm,by omega,by omega,Y0 _⟩
 have ST:=lh hst;have cJ:=lh aN;clear hst eh S1 aL bo aN HR;go_loopw [5] (λv wr=>∃(i f:Nat) (l:List Tok) (v':Value),v'=v∧ScanAt w1 wr sb text i∧wr.ownsRow (sb+1) 141 4 v' l.length (l.flatMap Tok.cells)∧vZ text f i l=R∧text.size+1<=i+f∧i<=text.size∧l.length<=i) (λ_ wr=>text.size+1-(intOf ((wr.cell? ⟨sb,1,none⟩).getD .nilIface)).toNat)
 case atStart=>exact ST.o
 case round=>
  obtain⟨i,f,l,v,rfl,hS,hO,hq,hf,hi,hl⟩:=hrel;obtain⟨f,rfl⟩:∃g,f=g+1:=⟨f-1,by omega⟩
  have SC:=hS.c1;have HC:=lh (Zjz hS.blk hi O');have SI:=lh hS;have OI:=lh hO;have HQ:=lh hq;clear hS hO hq ST;go_wp2_with fail
  refine HC.o.mono ?_;rintro e w2⟨j,hj,BL,Hc,rfl,hS⟩;have Hf:w2.ownsRow (sb+1) 141 4 v l.length (l.flatMap Tok.cells):=Z2 OI.o λg hg=>hS.block g (OI.o.lt g hg).2 (by have:=(OI.o.lt g hg).1;omega);have S2:=SI.o.trans hS;have HJ:=lh hj;have O2:=lh Hf;have q1:=S2.c1;have DE:=S2.lt;have S2:=lh S2;have Hg:=lh SC;clear HC SI SC OI hS Hf hj;go_upto_region 7 with(fail)
  have y:=Mid.new S2.o O2.o #[vI 0,.string ⟨#[]⟩,vI 0,vI j];obtain⟨w3,kF⟩:=zX (w2.alloc (.cells #[vI 0,.string ⟨#[]⟩,vI 0,vI j] 141))
  obtain⟨tb,Hh⟩:=zX w2.heap.size
  rw[<-Hh,<-kF]at y ⊢;have q0:=y.scan.c0;have q1:=y.scan.c1;have t0:=y.cell 0 rfl;have t1:=y.cell 1 rfl;have t2:=y.cell 2 rfl;have t3:=y.cell 3 rfl;have z0:=y.fz 0;have z1:=y.fz 1;have z2:=y.fz 2;have z3:=y.fz 3;have zs:=y.scan.fz 1;have eN:=y.lt;have cW:=y.tlt;have cf:=y.scan.lt;have y:=lh y;have CI:=Hg;clear kF Hh S2 O2 Hg DE;obtain⟨i0,uZ,aD,bo,bT⟩:=info_parts Tryz.infoTok;by_cases Hi:j=text.size
  .subst Hi;have bD:=lh (Znt HQ.o HJ.o (Y0 _));obtain⟨Z,hw,M4⟩:=(y.o.put 0 (vI 6)).name;clear q0 q1 t0 t1 t2 t3 z0 z1 z2 z3 zs eN cW cf;have q0:=y.o.scan.c0;have q1:=y.o.scan.c1;have t0:=y.o.cell 0 rfl;have t1:=y.o.cell 1 rfl;have t2:=y.o.cell 2 rfl;have t3:=y.o.cell 3 rfl;have z0:=y.o.fz 0;have z1:=y.o.fz 1;have z2:=y.o.fz 2;have z3:=y.o.fz 3;have zs:=y.o.scan.fz 1;have eN:=y.o.lt;have cW:=y.o.tlt;have cf:=y.o.scan.lt;go_upto_region 9 with(fail)
   rw[<-hw];clear hw q0 q1 t0 t1 t2 t3 z0 z1 z2 z3 zs eN cW cf;refine Ud ?_;intro q0 q1 t0 t1 t2 t3 z0 z1 z2 z3 zs eN cW cf;have M4:=lh M4
   go_wp2_with (at_builtin;go_must (refine wpList_append_lies _ rfl (.tmp 37) (.tmp 39) 79 rfl (sb+1) 141 i0 _ 4 40 Tryz.underlying79 uZ aD bo bT rfl Pa v l.length (l.flatMap Tok.cells) rfl (M4.o.own.alloc _) _ 1 1 (Tok.cells ⟨6,ByteArray.empty,0,text.size⟩) rfl rfl (Ya (cs:=(Tok.cells ⟨6,ByteArray.empty,0,text.size⟩).toArray) (t:=141) (fr:=(0,0)) (heap_alloc_new _ _)) PA Pa Pc O' Pe _ rfl ?_);intro g cap w9 E F U Y;have HG:=lh F;have oZ:=lh E;clear F E U Y)
   go_ret2
   rw[bD.o];exact⟨⟨_,rfl,Z8u (by have:=cJ.o;omega) (WR oZ.o)⟩,((M4.o.scan.belowOf B1.o fA).alloc (by have:=M4.o.scan.size;have:=HZ.o;omega) _).grown HG.o (by have:=M4.o.scan.size;have:=HZ.o;have:=cJ.o;simp;omega) (λk hk=>by have:=(M4.o.own.lt k hk).1;have:=cJ.o;omega)⟩
  have aA:j<text.size:=O'
  have aK:((j:Int)==(text.size:Int))=false:=Pe
  have j9:=ZC (text:=text) aA;obtain⟨c,hc⟩:=zX (Z5 text j)
  rw[<-hc]at j9;obtain⟨u,hu⟩:=zX (text[j])
  rw[<-hu]at j9;have HU:=lh j9;have ax:(text[j].toNat:Int)=c:=by rw[<-hu];exact j9.symm
  have HC:=lh hc;obtain⟨Bl,xA⟩:=zX (vT c)
  have sj:Hid (∀w,Calls Tryz.prog 55 #[.int .u8 c] w λe w'=>e=.returned (.bool Bl)∧w=w'):=lh λw=>by rw[xA];exact(Zbw w c).mono λe w' h=>⟨h.1,h.2.symm⟩
  have DG:=lh xA;obtain⟨Bd,DI⟩:=zX (oG c)
  have DJ:Hid (∀w,Calls Tryz.prog 57 #[.int .u8 c] w λe w'=>e=.returned (.bool Bd)∧w=w'):=lh λw=>by rw[DI];exact(Z9d w c).mono λe w' h=>⟨h.1,h.2.symm⟩
  have xB:=lh DI;clear j9 hc hu xA DI Hi hm;cases Bl
  ·cases Bd
   ·have bQ : Hid (vT (Z5 text j) = false) := lh (by rw [← HC.o]; exact DG.o.symm);have DK : Hid (oG (Z5 text j) = false) := lh (by rw [← HC.o]; exact xB.o.symm);by_cases BV : c = 39
    .subst BV;have yV:=Zja w3 sb j text y.o.scan.blk aA O';obtain⟨⟨bs,ec,k⟩,hr⟩:∃r,r=GF text (j+1):=⟨_,rfl⟩
     have aw:=Zda text (text.size+1-(j+1)) (j+1) [];rw[show tM text (text.size+1-(j+1)) (j+1) []=GF text (j+1)from rfl,<-hr]at aw;rw[<-hr]at yV;have yV:=lh yV;have DL:=lh hr.symm;clear hr;simp only at aw;go_wp2_with fail
     refine(sj.o _).mono ?_;rintro e Z⟨rfl,rfl⟩;go_wp2_with fail
     refine(DJ.o _).mono ?_;rintro e Z⟨rfl,rfl⟩;go_wp2_with fail
     refine yV.o.mono ?_;rintro e Z⟨rfl,hS⟩;have M4:=y.o.call hS;clear yV hS y q0 q1 t0 t1 t2 t3 z0 z1 z2 z3 zs eN cW cf;refine Ud ?_;intro q0 q1 t0 t1 t2 t3 z0 z1 z2 z3 zs eN cW cf;have M4:=lh M4;rcases aw with rfl|rfl|rfl
     .have HT:Hid (kV text j= .ok (⟨4,⟨bs.toArray⟩,0,j⟩,k)):=lh (Zkl HC.o.symm DL.o);have M5:Mid w1 _ sb tb text k v l #[vI 4,.string ⟨bs.toArray⟩,vI 0,vI j]:=(M4.o.put 0 (vI 4)).put 1 (.string ⟨bs.toArray⟩);refine WO ?_;intro ct aR;go_upto_region 46 with(fail)
      obtain⟨wT,hw,MT⟩:=M5.name;rw[<-hw];clear hw;clear q0 q1 t0 t1 t2 t3 z0 z1 z2 z3 zs eN cW cf;refine R7 ?_;intro q0 q1 t0 t1 t2 t3 z0 z1 z2 z3 zs eN cW cf MT
      go_wp2_with (at_builtin;go_must (refine wpList_append_lies _ rfl (.tmp 192) (.tmp 194) 79 rfl (sb+1) 141 i0 _ 4 40 Tryz.underlying79 uZ aD bo bT rfl Pa v l.length (l.flatMap Tok.cells) rfl (MT.o.own.alloc _) _ 1 1 (Tok.cells ⟨4,⟨bs.toArray⟩,0,j⟩) rfl rfl (Ya (cs:=(Tok.cells ⟨4,⟨bs.toArray⟩,0,j⟩).toArray) (t:=141) (fr:=(0,0)) (heap_alloc_new _ _)) PA Pa Pc O' Pe _ rfl ?_);intro g cap w9 E F U Y;have HG:=lh F;have oZ:=lh E;clear F E U Y)
      have S9:=MT.o.app HZ.o HG.o;have S9:=lh S9;go_roundw
      case rel=>exact⟨k,f,l++[⟨4,⟨bs.toArray⟩,0,j⟩],_,rfl,S9.o,WR oZ.o,Z62 HQ.o HJ.o aA HT.o,by omega,by omega,by simp;omega⟩
      case measure=>
       rw[S9.o.c1,CI.o];simp[intOf];omega
     .have HE:=lh (Wc HQ.o HJ.o aA (Ziv HC.o.symm DL.o));exact Xr
     .have HE:=lh (Wc HQ.o HJ.o aA (Zhb HC.o.symm DL.o));exact Xr
    have Hd:(c==39)=false:=by simp[BV]
    have DM:Hid (Z5 text j≠39):=lh (by rw[<-HC.o];exact BV);clear BV;obtain⟨x1,dP⟩:=zX (text.extract j (j+1))
    have DA:j+1<=text.size:=O'
    go_wp2_with fail
    refine(sj.o _).mono ?_;rintro e Z⟨rfl,rfl⟩;go_wp2_with fail
    refine(DJ.o _).mono ?_;rintro e Z⟨rfl,rfl⟩;go_wp2_with fail
    have lg:=lh dP;clear dP;have Lb:IntKind.i64.wrap ((j:Int)+1)=(j:Int)+1:=IntWalk.i64_in _ O';have xC:((j:Int)+1).toNat=j+1:=O'
    have Lc:(j:Int)+1<=text.size:=O'
    have Ld:0<=(j:Int)+1:=O'
    have Le:(j:Int)<=(j:Int)+1:=O'
    refine Z8 [0,2,4,6,8,10,12,14,16,18,20,22,25] [13,14] (λW=>vC W sb 1 (vI j)) q1 λ_=>?_;refine dW ?_
    iterate 12
     refine dV ?_
    refine Z6 (λK hK=>?_);go_simp
    refine hK _ _ ((y.o.put 0 (vI 5)).drew.scan.c1) ?_;clear hK K;refine Z0 ?_;have M5:Mid w1 _ sb tb text j v l #[vI 5,.string (zd text j 0),vI 0,vI j]:=((y.o.put 0 (vI 5)).put 1 (.string (text.extract j (j+1)))).drew;go_upto_region 12 with(fail)
    obtain⟨w5,hw,M5⟩:=M5.name;rw[<-hw];clear hw;clear q0 q1 t0 t1 t2 t3 z0 z1 z2 z3 zs eN cW cf y Lb xC Lc Ld Le;refine Ztu ?_;intro q0 q1 t0 t1 t2 t3 z0 z1 z2 z3 zs eN cW cf;have M5:=lh M5;go_wp2;obtain⟨w6,ka⟩:=zX (w5.alloc (.cells #[.string ⟨#[61,61,61]⟩,.string ⟨#[38,38]⟩,.string ⟨#[124,124]⟩] 9))
    obtain⟨lb,BX⟩:=zX w5.heap.size
    have o6:w6.heap[lb]?=some (.cells #[.string ⟨#[61,61,61]⟩,.string ⟨#[38,38]⟩,.string ⟨#[124,124]⟩] 9 (0,0)):=by rw[ka,BX];exact heap_alloc_new w5 _
    have J:Mid w1 w6 sb tb text j v l #[vI 5,.string (zd text j 0),vI 0,vI j]:=by rw[ka];exact M5.o.same ((Y2 _ _).alloc (Y0 _) _)
    have iq:lb≠tb:=O'
    rw[<-BX,<-ka];have yW:∃m:Nat,Value.int .i64 0=(vI m)∧m<=3∧Mid w1 w6 sb tb text j v l #[vI 5,.string (zd text j m),vI 0,vI j]∧w6.heap[lb]?=some (.cells #[.string ⟨#[61,61,61]⟩,.string ⟨#[38,38]⟩,.string ⟨#[124,124]⟩] 9 (0,0)):=⟨0,rfl,by omega,J,o6⟩
    have Hj:=lh yW;have va:=lh iq;clear yW J o6 ka BX iq M5 q0 q1 t0 t1 t2 t3 z0 z1 z2 z3 zs eN cW cf;go_loopw [62] (λx xC=>∃m:Nat,x=(vI m)∧m<=3∧Mid w1 xC sb tb text j v l #[vI 5,.string (zd text j m),vI 0,vI j]∧xC.heap[lb]?=some (.cells #[.string ⟨#[61,61,61]⟩,.string ⟨#[38,38]⟩,.string ⟨#[124,124]⟩] 9 (0,0))) (λx _=>3-(intOf x).toNat)
    case atStart=>exact Hj.o
    case round=>
     obtain⟨m,rfl,DN,hM,o6⟩:=hrel;have J:=lh hM;have l0:vC wr lb 0 (.string ⟨#[61,61,61]⟩):=Q0
     have l1:vC wr lb 1 (.string ⟨#[38,38]⟩):=Q0
     have l2:vC wr lb 2 (.string ⟨#[124,124]⟩):=Q0
     have rh:=lh o6;clear o6 Hj;refine Zu3 ?_;intro q0 q1 t0 t1 t2 t3 z0 z1 z2 z3 zs eN cW cf;clear hM;by_cases hm:m=3
     .subst hm;obtain⟨X,hX⟩:=zX (zd text j 3)
      rw[<-hX]at t1 J;obtain⟨z,hz⟩:=zX (Zs text j)
      have cL:=Zru text j aA;rw[<-hX,<-hz]at cL;obtain⟨Hk,N0,BM⟩:=cL;have Hl:=lh Hk;have BY:=lh hz;obtain⟨ki,rY⟩:=zX (Lib.indexByte Zop u)
      have xD:=Zf4 u;rw[<-rY,<-HU.o]at xD;have HI:Hid (Calls Tryz.prog 61 #[.string ⟨#[40,41,123,125,91,93,59,58,44,46,61,43,45,42,60,33]⟩,.int .u8 c] wr λe w'=>e=.returned (vI ki)∧wr=w'):=lh ((Tryz.strings_IndexByte _ _ wr).mono λe w' h=>⟨by rw[h.1,rY,HU.o];simp[Zop],h.2.symm⟩);have N1:1<=z:=by rw[hz];unfold Zs;(repeat' split)<;>omega
      clear hX Hk hz rY;obtain⟨Bs,DO⟩:=zX (SS c)
      rw[<-DO]at xD;have Hm:=lh DO;clear DO;cases Bs
      .have nu:ki<0:=by simpa using xD
       clear xD;by_cases yX:z=1
       .subst yX;have HE:=lh (Wc HQ.o HJ.o aA (Zdu bQ.o DK.o DM.o ⟨BY.o.symm,by rw[<-HC.o];exact Hm.o.symm⟩));go_wp2_with fail
        refine HI.o.mono ?_;rintro e w7⟨rfl,rfl⟩;go_wp2;refine Z8 [0,2,4,10,7,8] [6] (λW=>vC W tb 3 (vI j)) t3 λ_=>?_;refine dW ?_
        iterate 4
         refine dV ?_
        refine Zn8 ?_
        iterate 1
         refine dV ?_
        refine Z0 ?_;go_wp2;go_ret2
        rw[HE.o];exact Yq (J.o.scan.belowOf B1.o fA) _
       .have DP:((z:Int)==1)=false:=by simp;omega
        have HT:Hid (kV text j=.ok (⟨5,X,0,j⟩,j+z)):=lh (by have h:=Zbx bQ.o DK.o DM.o (λh=>yX (BY.o.trans h.1));rw[<-BY.o,<-Hl.o]at h;exact h);go_wp2_with fail
        refine HI.o.mono ?_;rintro e w7⟨rfl,rfl⟩;go_wp2;refine Z8 [0,2,4,6,8,10,12] [7,8,9,10] (λW=>vC W sb 1 (vI j)∧vC W tb 1 (.string X)) ⟨q1,t1⟩ λ_=>?_;refine dW ?_
        iterate 7
         refine dV ?_
        refine Z0 ?_;have M8:Mid w1 _ sb tb text (j+z) v l #[vI 5,.string X,vI 0,vI j]:=(J.o.set (b:=j+z) (x:=(j:Int)+z) O').drew;refine WO ?_;intro ct aR;go_upto_region 46 with(fail)
        obtain⟨wT,hw,MT⟩:=M8.name;rw[<-hw];clear hw;clear q0 q1 t0 t1 t2 t3 z0 z1 z2 z3 zs eN cW cf;refine R7 ?_;intro q0 q1 t0 t1 t2 t3 z0 z1 z2 z3 zs eN cW cf MT
        go_wp2_with (at_builtin;go_must (refine wpList_append_lies _ rfl (.tmp 192) (.tmp 194) 79 rfl (sb+1) 141 i0 _ 4 40 Tryz.underlying79 uZ aD bo bT rfl Pa v l.length (l.flatMap Tok.cells) rfl (MT.o.own.alloc _) _ 1 1 (Tok.cells ⟨5,X,0,j⟩) rfl rfl (Ya (cs:=(Tok.cells ⟨5,X,0,j⟩).toArray) (t:=141) (fr:=(0,0)) (heap_alloc_new _ _)) PA Pa Pc O' Pe _ rfl ?_);intro g cap w9 E F U Y;have HG:=lh F;have oZ:=lh E;clear F E U Y)
        exact ZH
      .have nu:¬ki<0:=by simpa using xD
       clear xD;have HT:Hid (kV text j=.ok (⟨5,X,0,j⟩,j+z)):=lh (by have h:=Zbx bQ.o DK.o DM.o (λh=>by have h2:=h.2;rw[<-HC.o,<-Hm.o]at h2;cases h2);rw[<-BY.o,<-Hl.o]at h;exact h);go_wp2_with fail
       refine HI.o.mono ?_;rintro e w7⟨rfl,rfl⟩;go_wp2;refine Z8 [0,2,4,6,8,10,12] [7,8,9,10] (λW=>vC W sb 1 (vI j)∧vC W tb 1 (.string X)) ⟨q1,t1⟩ λ_=>?_;refine dW ?_
       iterate 7
        refine dV ?_
       refine Z0 ?_;have M8:Mid w1 _ sb tb text (j+z) v l #[vI 5,.string X,vI 0,vI j]:=(J.o.set (b:=j+z) (x:=(j:Int)+z) O').drew;refine WO ?_;intro ct aR;go_upto_region 46 with(fail)
       obtain⟨wT,hw,MT⟩:=M8.name;rw[<-hw];clear hw;clear q0 q1 t0 t1 t2 t3 z0 z1 z2 z3 zs eN cW cf;refine R7 ?_;intro q0 q1 t0 t1 t2 t3 z0 z1 z2 z3 zs eN cW cf MT
       go_wp2_with (at_builtin;go_must (refine wpList_append_lies _ rfl (.tmp 192) (.tmp 194) 79 rfl (sb+1) 141 i0 _ 4 40 Tryz.underlying79 uZ aD bo bT rfl Pa v l.length (l.flatMap Tok.cells) rfl (MT.o.own.alloc _) _ 1 1 (Tok.cells ⟨5,X,0,j⟩) rfl rfl (Ya (cs:=(Tok.cells ⟨5,X,0,j⟩).toArray) (t:=141) (fr:=(0,0)) (heap_alloc_new _ _)) PA Pa Pc O' Pe _ rfl ?_);intro g cap w9 E F U Y;have HG:=lh F;have oZ:=lh E;clear F E U Y)
       exact ZH
     .have hp:∀m,Hid (Calls Tryz.prog 60 #[.string (text.extract j text.size),.string (rD m)] wr λe w'=>e= .returned (.bool (preB text j m))∧wr=w'):=λm=>lh ((Tryz.strings_HasPrefix _ _ wr).mono λe w' h=>⟨by rw[h.1];unfold preB Lib.hasPrefix;rw[extract_drop],h.2.symm⟩);have HP:=lh hp;clear hp;have yY:m=0∨m=1∨m=2:=by omega
      clear hm;rcases yY with rfl|rfl|rfl
      .obtain⟨Bp,pU⟩:=zX (preB text j 0)
       have tH:=HP.o 0;rw[<-pU]at tH;have tD:=lh pU;clear pU HP;go_wp2_with fail
       refine tH.o.mono ?_;rintro e w7⟨rfl,rfl⟩;cases Bp
       .have O:zd text j (0+1)=zd text j 0:=by
         exact Zw4
        have HT:=lh O;clear O;go_wp2;go_roundw
        case rel=>exact⟨0+1,by go_num,by omega,by rw[HT.o];exact J.o,rh.o⟩
        case measure=>simp[intOf]
       .have O:zd text j (0+1)=rD 0:=by
         exact Zw4
        have HT:=lh O;clear O;go_wp2;go_roundw
        case rel=>exact⟨0+1,by go_num,by omega,by rw[HT.o];exact J.o.put 1 (.string (rD 0)),(Y8 _ _ _ _ va.o).trans rh.o⟩
        case measure=>simp[intOf]
      .obtain⟨Bp,pU⟩:=zX (preB text j 1)
       have tH:=HP.o 1;rw[<-pU]at tH;have tD:=lh pU;clear pU HP;go_wp2_with fail
       refine tH.o.mono ?_;rintro e w7⟨rfl,rfl⟩;cases Bp
       .have O:zd text j (1+1)=zd text j 1:=by
         exact Ztk
        have HT:=lh O;clear O;go_wp2;go_roundw
        case rel=>exact⟨1+1,by go_num,by omega,by rw[HT.o];exact J.o,rh.o⟩
        case measure=>simp[intOf]
       .have O:zd text j (1+1)=rD 1:=by
         exact Ztk
        have HT:=lh O;clear O;go_wp2;go_roundw
        case rel=>exact⟨1+1,by go_num,by omega,by rw[HT.o];exact J.o.put 1 (.string (rD 1)),(Y8 _ _ _ _ va.o).trans rh.o⟩
        case measure=>simp[intOf]
      .obtain⟨Bp,pU⟩:=zX (preB text j 2)
       have tH:=HP.o 2;rw[<-pU]at tH;have tD:=lh pU;clear pU HP;go_wp2_with fail
       refine tH.o.mono ?_;rintro e w7⟨rfl,rfl⟩;cases Bp
       .have O:zd text j (2+1)=zd text j 2:=by
         exact Zso
        have HT:=lh O;clear O;go_wp2;go_roundw
        case rel=>exact⟨2+1,by go_num,by omega,by rw[HT.o];exact J.o,rh.o⟩
        case measure=>simp[intOf]
       .have O:zd text j (2+1)=rD 2:=by
         exact Zso
        have HT:=lh O;clear O;go_wp2;go_roundw
        case rel=>exact⟨2+1,by go_num,by omega,by rw[HT.o];exact J.o.put 1 (.string (rD 2)),(Y8 _ _ _ _ va.o).trans rh.o⟩
        case measure=>simp[intOf]
   ·have dU := lh (Zlq y.o.scan.blk O' O');have bQ : Hid (vT (Z5 text j) = false) := lh (by rw [← HC.o]; exact DG.o.symm);have yZ : Hid (oG (Z5 text j) = true) := lh (by rw [← HC.o]; exact xB.o.symm);go_wp2_with fail
    refine(sj.o _).mono ?_;rintro e Z⟨rfl,rfl⟩;go_wp2_with fail
    refine(DJ.o _).mono ?_;rintro e Z⟨rfl,rfl⟩;go_wp2_with fail
    refine dU.o.mono ?_;rintro e Z⟨k,hk,pK,bO,rfl,hS⟩;obtain⟨n,rfl⟩:∃n,k=j+n:=⟨k-j,by omega⟩
    have M4:=y.o.call hS;have HK:=lh hk;have si:=lh (Uy oG text (text.size-j) j (Y0 _) O');have iY:1<=n:=by
     rcases Nat.lt_or_ge j (j+n)with h|h;·omega
     .have h3:=si.o.2.2.2;rw[<-HK.o]at h3;have h4:=h3 O';rw[show j+n=j by omega,yZ.o]at h4;cases h4
    have Lf:Hid (∀m,m<n->oG (Z5 text (j+m))=true):=lh λm hm=>si.o.2.2.1 _ O' (by rw[<-HK.o];omega);clear dU hS hk y q0 q1 t0 t1 t2 t3 z0 z1 z2 z3 zs eN cW cf si;obtain⟨s,hs⟩:=zX (text.extract j (j+n))
    have y6:s.size=n:=by rw[hs,S' text bO];omega
    have nB:Hid (∀m (h:m<s.size),(s[m].toNat:Int)=Z5 text (j+m)):=lh λm h=>by
     rw[<-ZC h];subst hs;exact Zi text O' bO
    rw[<-hs];have HS:=lh hs;clear hs;have gW:(s[0].toNat:Int)=c:=by rw[nB.o 0 O',HC.o];rfl
    refine Ud ?_;intro q0 q1 t0 t1 t2 t3 z0 z1 z2 z3 zs eN cW cf;have M4:=lh M4;by_cases nR:10<n
    .have HE:=lh (Wc HQ.o HJ.o aA (Zbs bQ.o yZ.o HK.o O'));exact ZA
    by_cases Hn:1<n∧c=48
    .obtain⟨h1,rfl⟩:=Hn;have HE:=lh (Wc HQ.o HJ.o aA (Zbs bQ.o yZ.o HK.o PM));exact ZA
    have Ho:Hid (¬(10<j+n-j∨(1<j+n-j∧Z5 text j=48))):=lh PM;have dr:(1<n∧(c==48)=false)∨¬1<n:=by
     by_cases h1:1<n;·exact .inl ⟨h1,by simp;omega⟩
     .exact .inr O'
    clear Hn;have eC:∃(m:Nat) (N:Int),Value.int .i64 0=(vI m)∧m<=n∧Mid w1 Z sb tb text (j+n) v l #[vI 0,.string ⟨#[]⟩,vI N,vI j]∧mE text (j+n) (n-m) (j+m) N=mE text (j+n) n j 0∧0<=N∧N<pw m:=
     ⟨0,0,rfl,by omega,M4.o,by simp,by omega,by simp[pw]⟩
    have DR:=lh eC;clear eC M4;obtain⟨X,hX⟩:=zX (mE text (j+n) n j 0)
    rw[<-hX]at DR;have HX:=lh hX;clear hX;rcases dr with⟨h1,Lg⟩|h1
    all_goals
     go_wp2;clear q0 q1 t0 t1 t2 t3 z0 z1 z2 z3 zs eN cW cf;go_loopw [146] (λx xC=>∃(m:Nat) (N:Int),x=(vI m)∧m<=n∧Mid w1 xC sb tb text (j+n) v l #[vI 0,.string ⟨#[]⟩,vI N,vI j]∧mE text (j+n) (n-m) (j+m) N=X∧0<=N∧N<pw m) (λx _=>20-(intOf x).toNat)
     case atStart=>exact DR.o
     case round=>
      obtain⟨m,N,rfl,lE,hM,Hp,N6,BZ⟩:=hrel;have Lh:1<=s.size:=O'
      have J:=lh hM;refine Zu3 ?_;intro q0 q1 t0 t1 t2 t3 z0 z1 z2 z3 zs eN cW cf;have DS:=lh Hp;clear hM Hp DR;by_cases Li:m<s.size
      .have N7:N<1000000000:=Int.lt_of_lt_of_le BZ (Zxb m O');have Lj:=lh BZ;obtain⟨d,hd⟩:=zX (Z5 text (j+m))
       have o7:(s[m].toNat:Int)=d:=by rw[nB.o m Li,hd]
       have DT:=Lf.o m O';rw[<-hd]at DT;have Lk:48<=d∧d<=57:=by simpa[oG]using DT
       obtain⟨N8,Hq⟩:=Lk;have Ll:=lh hd;clear hd DT BZ;go_wp2_with fail
       refine Z8 [0,2,4,6,8,10,12,15] [8,9,10] (λW=>vC W tb 2 (vI N)) t2 λ_=>?_;refine dW ?_
       iterate 7
        refine dV ?_
       refine Z6 (λK hK=>?_);go_simp
       refine hK _ _ t2 ?_;clear hK K;refine Z0 ?_;go_wp2;go_roundw
       case rel=>exact⟨m+1,10*N+(d-48),by go_num,by omega,(J.o.put 2 (vI (10*N+(d-48)))).drew,by have h:=DS.o;rw[Zjm O',<-Ll.o]at h;exact h,by omega,by have:=Lj.o;simp only[pw];omega⟩
       case measure=>simp[intOf];omega
      .have Lm:n=m:=by omega
       subst Lm;have Hr:N=mE text (j+n) (j+n-j) j 0:=by rw[Nat.add_sub_cancel_left,<-HX.o,<-DS.o];exact Zmb.symm
       have DU:=lh Hr;clear Hr BZ;have I:Mid w1 _ sb tb text (j+n) v l #[vI 3,.string ⟨#[]⟩,vI N,vI j]:=J.o.put 0 (vI 3);go_upto_region 37 with(fail)
       obtain⟨w7,hw,I⟩:=I.name;rw[<-hw];clear hw;clear q0 q1 t0 t1 t2 t3 z0 z1 z2 z3 zs eN cW cf;have q0:=I.scan.c0;have q1:=I.scan.c1;have t0:=I.cell 0 rfl;have t1:=I.cell 1 rfl;have t2:=I.cell 2 rfl;have t3:=I.cell 3 rfl;have z0:=I.fz 0;have z1:=I.fz 1;have z2:=I.fz 2;have z3:=I.fz 3;have zs:=I.scan.fz 1;have eN:=I.lt;have cW:=I.tlt;have cf:=I.scan.lt;have I:=lh I;by_cases fe:1000000000<N
       .have HE:=lh (Wc HQ.o HJ.o aA (Zfo bQ.o yZ.o HK.o Ho.o (by rw[<-DU.o];exact fe)));go_wp2;refine Z8 [0,2,4,10,7,8] [6] (λW=>vC W tb 3 (vI j)) t3 λ_=>?_;refine dW ?_
        iterate 4
         refine dV ?_
        refine Zn8 ?_
        iterate 1
         refine dV ?_
        refine Z0 ?_;go_wp2;go_ret2
        rw[HE.o];exact Yq (I.o.scan.belowOf B1.o fA) _
       .have HT:Hid (kV text j= .ok (⟨3,ByteArray.empty,N,j⟩,j+n)):=lh (by have h:=Zkg bQ.o yZ.o HK.o Ho.o (by rw[<-DU.o];exact fe);rw[<-DU.o]at h;exact h);refine WO ?_;intro ct aR;go_upto_region 46 with(fail)
        obtain⟨wT,hw,MT⟩:=I.o.name;rw[<-hw];clear hw;clear q0 q1 t0 t1 t2 t3 z0 z1 z2 z3 zs eN cW cf;refine R7 ?_;intro q0 q1 t0 t1 t2 t3 z0 z1 z2 z3 zs eN cW cf MT
        go_wp2_with (at_builtin;go_must (refine wpList_append_lies _ rfl (.tmp 192) (.tmp 194) 79 rfl (sb+1) 141 i0 _ 4 40 Tryz.underlying79 uZ aD bo bT rfl Pa v l.length (l.flatMap Tok.cells) rfl (MT.o.own.alloc _) _ 1 1 (Tok.cells ⟨3,ByteArray.empty,N,j⟩) rfl rfl (Ya (cs:=(Tok.cells ⟨3,ByteArray.empty,N,j⟩).toArray) (t:=141) (fr:=(0,0)) (heap_alloc_new _ _)) PA Pa Pc O' Pe _ rfl ?_);intro g cap w9 E F U Y;have HG:=lh F;have oZ:=lh E;clear F E U Y)
        have S9:=MT.o.app HZ.o HG.o;have S9:=lh S9;go_roundw
        case rel=>exact⟨j+n,f,l++[⟨3,ByteArray.empty,N,j⟩],_,rfl,S9.o,WR oZ.o,Z62 HQ.o HJ.o aA HT.o,by omega,by omega,by simp;omega⟩
        case measure=>
         rw[S9.o.c1,CI.o];simp[intOf];omega
  .have dU:=lh (Zou y.o.scan.blk O' O');have Hs:vT (Z5 text j)=true:=by rw[<-HC.o];exact DG.o.symm
   have DV:=lh Hs;clear Hs;go_wp2_with fail
   refine(sj.o _).mono ?_;rintro e Z⟨rfl,rfl⟩;go_wp2_with fail
   refine dU.o.mono ?_;rintro e Z⟨k,hk,pK,bO,rfl,hS⟩;have M4:=y.o.call hS;have HK:=lh hk;clear dU hS hk y q0 q1 t0 t1 t2 t3 z0 z1 z2 z3 zs eN cW cf;refine Ud ?_;intro q0 q1 t0 t1 t2 t3 z0 z1 z2 z3 zs eN cW cf;obtain⟨s,hs⟩:=zX (text.extract j k)
   have y6:s.size=k-j:=by rw[hs];exact S' text bO
   rw[<-hs];have HS:=lh hs;have sm:=lh y6;clear hs y6;have M5:Mid w1 _ sb tb text k v l #[vI 1,.string s,vI 0,vI j]:=(M4.put 0 (vI 1)).put 1 (.string s);go_upto_region 23 with(fail)
   obtain⟨w5,hw,M5⟩:=M5.name;rw[<-hw];clear hw;clear M4 q0 q1 t0 t1 t2 t3 z0 z1 z2 z3 zs eN cW cf;refine Ztu ?_;intro q0 q1 t0 t1 t2 t3 z0 z1 z2 z3 zs eN cW cf;obtain⟨Bw,kE⟩:=zX (Sq s)
   have Ln:Hid (Calls Tryz.prog 58 #[.string s] w5 λe w'=>e=.returned (.bool Bw)∧w5=w'):=lh (by rw[kE];exact(Zh9 w5 s (HW.o.below (M5.scan.belowOf B1.o fA))).mono λe w' h=>⟨h.1,h.2.symm⟩);have DW:=lh kE;have M5:=lh M5;have be:s.size=k-j:=sm.o;clear kE;go_wp2_with fail
   refine Ln.o.mono ?_;rintro e w6⟨rfl,rfl⟩;cases Bw
   .by_cases yT:20<k-j
    .have Lp:decide (((k-j:Nat):Int)>20)=true:=by simp;omega
     have HE:=lh (Wc HQ.o HJ.o aA (Ziw DV.o HK.o Qy yT));go_wp2;refine Z8 [0,2,4,10,7,8] [6] (λW=>vC W tb 3 (vI j)) t3 λ_=>?_;refine dW ?_
     iterate 4
      refine dV ?_
     refine Zn8 ?_
     iterate 1
      refine dV ?_
     refine Z0 ?_;go_wp2;go_ret2
     rw[HE.o];exact Yq (M5.o.scan.belowOf B1.o fA) _
    .have HT:Hid (kV text j= .ok (⟨1,s,0,j⟩,k)):=lh (by have h:=Zhw DV.o HK.o Qy yT;rw[<-HS.o]at h;exact h);refine WO ?_;intro ct aR;go_upto_region 46 with(fail)
     obtain⟨wT,hw,MT⟩:=M5.o.name;rw[<-hw];clear hw;clear q0 q1 t0 t1 t2 t3 z0 z1 z2 z3 zs eN cW cf;refine R7 ?_;intro q0 q1 t0 t1 t2 t3 z0 z1 z2 z3 zs eN cW cf MT
     go_wp2_with (at_builtin;go_must (refine wpList_append_lies _ rfl (.tmp 192) (.tmp 194) 79 rfl (sb+1) 141 i0 _ 4 40 Tryz.underlying79 uZ aD bo bT rfl Pa v l.length (l.flatMap Tok.cells) rfl (MT.o.own.alloc _) _ 1 1 (Tok.cells ⟨1,s,0,j⟩) rfl rfl (Ya (cs:=(Tok.cells ⟨1,s,0,j⟩).toArray) (t:=141) (fr:=(0,0)) (heap_alloc_new _ _)) PA Pa Pc O' Pe _ rfl ?_);intro g cap w9 E F U Y;have HG:=lh F;have oZ:=lh E;clear F E U Y)
     have S9:=MT.o.app HZ.o HG.o;have S9:=lh S9;go_roundw
     case rel=>exact⟨k,f,l++[⟨1,s,0,j⟩],_,rfl,S9.o,WR oZ.o,Z62 HQ.o HJ.o aA HT.o,by omega,by omega,by simp;omega⟩
     case measure=>
      rw[S9.o.c1,CI.o];simp[intOf];omega
   .have HT:Hid (kV text j= .ok (⟨2,s,0,j⟩,k)):=lh (by have h:=Zim DV.o HK.o Qy;rw[<-HS.o]at h;exact h);have J:Mid w1 _ sb tb text k v l #[vI 2,.string s,vI 0,vI j]:=M5.o.put 0 (vI 2);refine WO ?_;intro ct aR;go_upto_region 46 with(fail)
    obtain⟨wT,hw,MT⟩:=J.name;rw[<-hw];clear hw;clear q0 q1 t0 t1 t2 t3 z0 z1 z2 z3 zs eN cW cf;refine R7 ?_;intro q0 q1 t0 t1 t2 t3 z0 z1 z2 z3 zs eN cW cf MT
    go_wp2_with (at_builtin;go_must (refine wpList_append_lies _ rfl (.tmp 192) (.tmp 194) 79 rfl (sb+1) 141 i0 _ 4 40 Tryz.underlying79 uZ aD bo bT rfl Pa v l.length (l.flatMap Tok.cells) rfl (MT.o.own.alloc _) _ 1 1 (Tok.cells ⟨2,s,0,j⟩) rfl rfl (Ya (cs:=(Tok.cells ⟨2,s,0,j⟩).toArray) (t:=141) (fr:=(0,0)) (heap_alloc_new _ _)) PA Pa Pc O' Pe _ rfl ?_);intro g cap w9 E F U Y;have HG:=lh F;have oZ:=lh E;clear F E U Y)
    have S9:=MT.o.app HZ.o HG.o;have S9:=lh S9;go_roundw
    case rel=>exact⟨k,f,l++[⟨2,s,0,j⟩],_,rfl,S9.o,WR oZ.o,Z62 HQ.o HJ.o aA HT.o,by omega,by omega,by simp;omega⟩
    case measure=>
     rw[S9.o.c1,CI.o];simp[intOf];omega
