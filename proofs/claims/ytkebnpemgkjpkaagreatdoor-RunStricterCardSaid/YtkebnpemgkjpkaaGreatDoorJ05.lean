import Derived.Test.YtkebnpemgkjpkaaGreatDoorJ02
import Derived.Test.YtkebnpemgkjpkaaGreatDoorJ04
import Derived.Deep.Cut
set_option maxRecDepth 100000
set_option maxHeartbeats 20000000
set_option linter.all false
namespace Go.Proofs.YtkebnpemgkjpkaaGreatDoor
open Go Go.RowKit Go.Proofs.Tryz Tryz
def Tok.cells(t:Tok):List Value:=[vI t.kind,.string t.text,vI t.n,vI t.at']
def Zt2(w:kV)(base:Nat)(v:Value)(e:Int)(p:Int):Prop:=
 ∃b,v=.iface 140 (vP b)/\base<=b/\w.heap[b]?=some (.cells #[vI e,vI p] 142 (0,0))
def Zvg(w:kV)(r:Except (Int×Nat) (List Tok))(e:Ending)(w':kV):Prop:=
 match r with
 | .ok l=>∃v,e=.returned (.tuple #[v,.nilIface])/\w'.ownsRow w.heap.size 139 4 v l.length (l.flatMap Tok.cells)
 | .error (c,p)=>∃x,e=.returned (.tuple #[.slice none 0 0,x])/\Zt2 w' w.heap.size x c p
def ScanAt.belowOf{w0 w1 w:kV}{sb a:Nat}{text:kB}(h:ScanAt w1 w sb text a)(g:kW w0 w1)(hs:w0.heap.size<=sb):kW w0 w:=
 ⟨h.os.trans g.os,h.tape.trans g.tape,h.output.trans g.output,Y4 g.size h.size,λk hk=>(h.block k (Y7 hk g.size) Px).trans (g.block k hk)⟩
structure Mid(w1 w:kV)(sb tb:Nat)(text:kB)(a:Nat)(v:Value)(l:List Tok)(c:Array Value):Prop where
 scan:ScanAt w1 w sb text a
 own:w.ownsRow (sb+1) 139 4 v l.length (l.flatMap Tok.cells)
 blk:w.heap[tb]?=some (.cells c 139 (0,0))
 lt:sb<tb
 ge:w1.heap.size<=tb
 ne:v.ownBlock≠some tb
section
variable {w1 w w':kV}{sb tb a b:Nat}{text:kB}{v:Value}{l:List Tok}{c:Array Value}
theorem Mid.drew(m:Mid w1 w sb tb text a v l c):Mid w1 w.drew sb tb text a v l c:=⟨m.scan.drew,m.own.drew,m.blk,m.lt,m.ge,m.ne⟩
def Mid.row(m:Mid w1 w sb tb text a v l c){g:Nat}(h:v.ownBlock=some g):g<w.heap.size/\g≠sb/\g≠tb:=
 ⟨(m.own.lt g h).2,by have:=(m.own.lt g h).1;omega,λe=>m.ne (by rw[h,e])⟩
theorem Mid.tlt(m:Mid w1 w sb tb text a v l c):tb<w.heap.size:=(Y1.1 m.blk).1
def Mid.put(m:Mid w1 w sb tb text a v l c)(o:Nat)(x:Value):Mid w1 (w.setCell ⟨tb,o,none⟩ x) sb tb text a v l (c.setIfInBounds o x):=by
 have hs:(w.setCell ⟨tb,o,none⟩ x).heap.size=w.heap.size:=Yf ..;have far:∀k,k≠tb->(w.setCell ⟨tb,o,none⟩ x).heap[k]?=w.heap[k]?:=λk hk=>Y8 _ _ _ _ hk;have u:=m.lt;have y:=m.ge
 exact⟨⟨(far sb Px).trans m.scan.blk,m.scan.os,m.scan.tape,m.scan.output,by rw[hs];exact m.scan.size,λk hk hn=>(far k Px).trans (m.scan.block k hk hn)⟩,
  Z3 m.own λg p=>far g (m.row p).2.2,Zj _ m.blk,m.lt,m.ge,m.ne⟩
def Mid.set(m:Mid w1 w sb tb text a v l c){x:Int}(hx:x=b):Mid w1 (w.setCell ⟨sb,1,none⟩ (vI x)) sb tb text b v l c:=by
 have u:=m.lt;exact⟨m.scan.set' hx,Z3 m.own λg p=>Y8 _ _ _ _ (m.row p).2.1,(Y8 _ _ _ _ PB).trans m.blk,m.lt,m.ge,m.ne⟩
def Mid.call(m:Mid w1 w sb tb text a v l c)(h:ScanAt w w' sb text b):Mid w1 w' sb tb text b v l c:=by
 have u:=m.lt;exact⟨m.scan.trans h,Z3 m.own λg p=>h.block g (m.row p).1 (m.row p).2.1,(h.block tb m.tlt Px).trans m.blk,m.lt,m.ge,m.ne⟩
def Mid.same(m:Mid w1 w sb tb text a v l c)(h:kW w w'):Mid w1 w' sb tb text a v l c:=
 ⟨m.scan.below h,Z3 m.own λg p=>h.block g (m.row p).1,(h.block tb m.tlt).trans m.blk,m.lt,m.ge,m.ne⟩
theorem Mid.cell(m:Mid w1 w sb tb text a v l c)(i:Nat){x:Value}(h:c[i]?=some x):w.cell? ⟨tb,i,none⟩=some x:=by simp[vC,World.cell?,m.blk,h]
theorem Mid.fz(m:Mid w1 w sb tb text a v l c)(i:Nat):w.frozen? ⟨tb,i,none⟩=false:=by simp[World.frozen?,m.blk]
def Mid.new(m:ScanAt w1 w sb text a)(p:w.ownsRow (sb+1) 139 4 v l.length (l.flatMap Tok.cells))(c:Array Value):Mid w1 (w.alloc (.cells c 139)) sb w.heap.size text a v l c:=by
 have u:kW w (w.alloc (.cells c 139)):=(Y2 _ _).alloc (Y0 _) _;exact⟨m.below u,Z3 p λg y=>u.block g (p.lt g y).2,Yq w _,m.lt,m.size,λe=>by have:=(p.lt _ e).2;omega⟩
theorem Mid.name(m:Mid w1 w sb tb text a v l c):∃W,W=w/\Mid w1 W sb tb text a v l c:=⟨w,rfl,m⟩
def Mid.app{T:TypeId}{x:Array Value}(m:Mid w1 w sb tb text a v l c)(F:w1.heap.size=sb+1)(g:(w.alloc (.cells x T)).grownBy w' v.ownBlock):ScanAt w1 w' sb text a:=by
 have p:kW w (w.alloc (.cells x T)):=(Y2 _ _).alloc (Y0 _) _;have u:=m.scan.lt;have hs:=m.scan.size;have y:w.heap.size<=(w.alloc (.cells x T)).heap.size:=p.size;have far:∀k,k<w.heap.size->v.ownBlock≠some k->w'.heap[k]?=w.heap[k]?:=λk hk hn=>(g.block k Px (λe=>hn e.symm)).trans (p.block k hk);have ho:∀k,k<=sb->v.ownBlock≠some k:=λk hk e=>by have:=(m.own.lt k e).1;omega
 exact⟨(far sb u (ho sb (Y0 _))).trans m.scan.blk,g.os.trans m.scan.os,g.tape.trans m.scan.tape,g.output.trans m.scan.output,Y4 hs (Y4 y g.size),λk hk hn=>(far k Px (ho k Px)).trans (m.scan.block k hk hn)⟩
end
def extract_drop(text:kB)(j:Nat):(text.extract j text.size).data.toList=text.data.toList.drop j:=by
 rw[ByteArray.data_extract,Array.toList_extract];simp[List.extract];rw[Ye PE]
def pw:Nat->Int
 |0=>1
 |m+1=>10*pw m
theorem Acn:∀m,m<=9->pw m<=1000000000:=by decide
def Z55{w:kV}{base:Nat}{v:Value}{l:List Tok}{t:Tok}(h:w.ownsRow base 139 4 v (l.length+1) (l.flatMap Tok.cells++t.cells)):w.ownsRow base 139 4 v (l++[t]).length ((l++[t]).flatMap Tok.cells):=by
 simpa using h
def Z9f{w:kV}{base p:Nat}{e:TypeId}{m:Nat}{v:Value}{n:Nat}{xs:List Value}(hb:p<=base)(h:w.ownsRow base e m v n xs):w.ownsRow p e m v n xs:=by
 refine⟨h.1,?_⟩;rcases h.2 with hn|⟨g,cap,u,h1,y,F⟩;·exact .inl hn
 .exact .inr ⟨g,cap,u,h1,Y4 hb y,F⟩
def Zhw{w W:kV}{e p:Int}(h:kW w W)(W':kV)(hW:W'=(W.alloc (.cells #[vI e,vI p] 142)).drew\/W'=W.alloc (.cells #[vI e,vI p] 142):=by first|exact .inl rfl|exact .inr rfl) :
 (∃x,Ending.returned (.tuple #[.slice none 0 0,.iface 140 (vP W.heap.size)])=.returned (.tuple #[.slice none 0 0,x])/\Zt2 W' w.heap.size x e p)/\kW w W':=by
 have hs:=h.size;rcases hW with rfl|rfl;·exact⟨⟨_,rfl,W.heap.size,rfl,hs,Yq W _⟩,(h.alloc hs _).drew⟩
 .exact⟨⟨_,rfl,W.heap.size,rfl,hs,Yq W _⟩,h.alloc hs _⟩
def Words.below{w w':kV}(h:Words w)(m:kW w w'):Words w':=by
 intro j u;have hc:=h j u;have y:2<w.heap.size:=by
  rcases Nat.lt_or_ge 2 w.heap.size with g|g;·exact g
  .simp[vC,World.cell?,Array.getElem?_eq_none g]at hc
 exact(m.cell (p:=⟨2,j,none⟩) y).trans hc
theorem V7:(Tryz.prog.info? 139).map (λi=>(i.zero,i.size,i.bytes))=some (some (.agg #[vI 0,.string ⟨#[]⟩,vI 0,vI 0]),4,40):=by kernel_rfl
def Zcm(w:kV)(text:kB)(hm:text.size<=3000)(hW:Words w) :
 kC 27 #[.string text] w λe w'=>Zvg w (Xz text) e w'/\kW w w':=by
 obtain⟨R,hR⟩:=zX (Xz text)
 rw[<-hR];have HR:=lh hR;have HW:=lh hW;clear hR hW;go_enter func27,ntmps27
 go_wp2;obtain⟨sb,aK⟩:=zX w.heap.size
 obtain⟨w1,dD⟩:=zX (w.alloc (.cells #[.string text,vI 0] 135))
 rw[<-aK,<-dD];have S1:ScanAt w1 w1 sb text 0:=ScanAt.refl (by rw[dD,aK];exact Yq w _);have aO:kW w w1:=Ql
 have bo:w1.heap.size=sb+1:=by rw[dD,aK];simp
 have hb0:w.heap.size<=sb:=Px
 have HZ:=lh bo;have B1:=lh aO;have hst:∃(i f:Nat) (l:List Tok) (v:Value),v=Value.slice none 0 0/\ScanAt w1 w1 sb text i/\w1.ownsRow (sb+1) 139 4 v l.length (l.flatMap Tok.cells)/\sL text f i l=R/\text.size+1<=i+f/\i<=text.size/\l.length<=i:=
  ⟨0,text.size+1,[],_,rfl,S1,World.ownsRow_nil _ _ _ _,HR.o.symm,by omega,by omega,Y0 _⟩
 have ST:=lh hst;have cE:=lh aK;clear hst dD S1 aO bo aK HR;go_loopw [5] (λv wr=>∃(i f:Nat) (l:List Tok) (v':Value),v'=v/\ScanAt w1 wr sb text i/\wr.ownsRow (sb+1) 139 4 v' l.length (l.flatMap Tok.cells)/\sL text f i l=R/\text.size+1<=i+f/\i<=text.size/\l.length<=i) (λ_ wr=>text.size+1-(intOf ((wr.cell? ⟨sb,1,none⟩).getD .nilIface)).toNat)
 case atStart=>exact ST.o
 case round=>
  obtain⟨i,f,l,v,rfl,hS,hO,hq,hf,hi,hl⟩:=hrel;obtain⟨f,rfl⟩:∃g,f=g+1:=⟨f-1,by omega⟩
  have SC:=hS.c1;obtain⟨HC,SI,OI,HQ⟩:=en (Zn8 hS.blk hi Px) hS hO hq;clear hS hO hq ST;go_wp2_with fail
  refine HC.o.mono ?_;rintro e w2⟨j,hj,BZ,Ht,rfl,hS⟩;have Hw:w2.ownsRow (sb+1) 139 4 v l.length (l.flatMap Tok.cells):=Z3 OI.o λg hg=>hS.block g (OI.o.lt g hg).2 (by have:=(OI.o.lt g hg).1;omega);have S2:=SI.o.trans hS;have HJ:=lh hj;have O2:=lh Hw;have q1:=S2.c1;have DL:=S2.lt;have S2:=lh S2;have Hx:=lh SC;clear HC SI SC OI hS Hw hj;go_upto_region 7 with(fail)
  have y:=Mid.new S2.o O2.o #[vI 0,.string ⟨#[]⟩,vI 0,vI j];obtain⟨w3,kq⟩:=zX (w2.alloc (.cells #[vI 0,.string ⟨#[]⟩,vI 0,vI j] 139))
  obtain⟨tb,Hz⟩:=zX w2.heap.size
  rw[<-Hz,<-kq]at y ⊢;have q0:=y.scan.c0;have q1:=y.scan.c1;have t0:=y.cell 0 rfl;have t1:=y.cell 1 rfl;have t2:=y.cell 2 rfl;have t3:=y.cell 3 rfl;have z0:=y.fz 0;have z1:=y.fz 1;have z2:=y.fz 2;have z3:=y.fz 3;have zs:=y.scan.fz 1;have ee:=y.lt;have cR:=y.tlt;have bV:=y.scan.lt;have y:=lh y;have CI:=Hx;clear kq Hz S2 O2 Hx DL;obtain⟨i0,uX,aC,bo,bQ⟩:=info_parts V7;by_cases H5:j=text.size
  .subst H5;have bA:=lh (Zpt HQ.o HJ.o (Y0 _));obtain⟨Z,hw,M4⟩:=(y.o.put 0 (vI 6)).name;clear q0 q1 t0 t1 t2 t3 z0 z1 z2 z3 zs ee cR bV;have q0:=y.o.scan.c0;have q1:=y.o.scan.c1;have t0:=y.o.cell 0 rfl;have t1:=y.o.cell 1 rfl;have t2:=y.o.cell 2 rfl;have t3:=y.o.cell 3 rfl;have z0:=y.o.fz 0;have z1:=y.o.fz 1;have z2:=y.o.fz 2;have z3:=y.o.fz 3;have zs:=y.o.scan.fz 1;have ee:=y.o.lt;have cR:=y.o.tlt;have bV:=y.o.scan.lt;go_upto_region 9 with(fail)
   rw[<-hw];clear hw q0 q1 t0 t1 t2 t3 z0 z1 z2 z3 zs ee cR bV;refine VW ?_;intro q0 q1 t0 t1 t2 t3 z0 z1 z2 z3 zs ee cR bV;have M4:=lh M4
   go_wp2_with (at_builtin;go_must (refine wpList_append_lies _ rfl (.tmp 37) (.tmp 39) 78 rfl (sb+1) 139 i0 _ 4 40 underlying78 uX aC bo bQ rfl Py v l.length (l.flatMap Tok.cells) rfl (M4.o.own.alloc _) _ 1 1 (Tok.cells ⟨6,ByteArray.empty,0,text.size⟩) rfl rfl (Ya (cs:=(Tok.cells ⟨6,ByteArray.empty,0,text.size⟩).toArray) (t:=139) (fr:=(0,0)) (Yq _ _)) PZ Py PA Px PB _ rfl ?_);intro g cap w9 F I U Y;have HG:=lh I;have o7:=lh F;clear I F U Y)
   go_ret2
   rw[bA.o];exact⟨⟨_,rfl,Z9f (by have:=cE.o;omega) (Z55 o7.o)⟩,((M4.o.scan.belowOf B1.o hb0).alloc (by have:=M4.o.scan.size;have:=HZ.o;omega) _).grown HG.o (by have:=M4.o.scan.size;have:=HZ.o;have:=cE.o;simp;omega) (λk hk=>by have:=(M4.o.own.lt k hk).1;have:=cE.o;omega)⟩
  have ay:j<text.size:=Px
  have aG:((j:Int)==(text.size:Int))=false:=PB
  have jU:=Z4y (text:=text) ay;obtain⟨c,hc⟩:=zX (Z5 text j)
  rw[<-hc]at jU;obtain⟨u,hu⟩:=zX (text[j])
  rw[<-hu]at jU;have HU:=lh jU;have aA:(text[j].toNat:Int)=c:=by rw[<-hu];exact jU.symm
  have HC:=lh hc;obtain⟨Bl,xB⟩:=zX (uZ c)
  have si:Hid (∀w,kC 56 #[.int .u8 c] w λe w'=>e=.returned (.bool Bl)/\w=w'):=lh λw=>by rw[xB];exact(Zca w c).mono λe w' h=>⟨h.1,h.2.symm⟩
  have DM:=lh xB;obtain⟨Bd,DN⟩:=zX (mE c)
  have DO:Hid (∀w,kC 58 #[.int .u8 c] w λe w'=>e=.returned (.bool Bd)/\w=w'):=lh λw=>by rw[DN];exact(Zbh w c).mono λe w' h=>⟨h.1,h.2.symm⟩
  have xC:=lh DN;clear jU hc hu xB DN H5 hm;cases Bl
  ·cases Bd
   ·have bM : Hid (uZ (Z5 text j) = false) := lh (by rw [← HC.o]; exact DM.o.symm);have DP : Hid (mE (Z5 text j) = false) := lh (by rw [← HC.o]; exact xC.o.symm);by_cases Ca : c = 39
    .subst Ca;have yH:=Zk3 w3 sb j text y.o.scan.blk ay Px;obtain⟨⟨bs,ec,k⟩,hr⟩:∃r,r=BN text (j+1):=⟨_,rfl⟩
     have au:=Zfn text (text.size+1-(j+1)) (j+1) [];rw[show Zo text (text.size+1-(j+1)) (j+1) []=BN text (j+1)from rfl,<-hr]at au;rw[<-hr]at yH;have yH:=lh yH;have DR:=lh hr.symm;clear hr;simp only at au;go_wp2_with fail
     refine(si.o _).mono ?_;rintro e Z⟨rfl,rfl⟩;go_wp2_with fail
     refine(DO.o _).mono ?_;rintro e Z⟨rfl,rfl⟩;go_wp2_with fail
     refine yH.o.mono ?_;rintro e Z⟨rfl,hS⟩;have M4:=y.o.call hS;clear yH hS y q0 q1 t0 t1 t2 t3 z0 z1 z2 z3 zs ee cR bV;refine VW ?_;intro q0 q1 t0 t1 t2 t3 z0 z1 z2 z3 zs ee cR bV;have M4:=lh M4;rcases au with rfl|rfl|rfl
     .have HT:Hid (iq text j= .ok (⟨4,⟨bs.toArray⟩,0,j⟩,k)):=lh (Zmf HC.o.symm DR.o);have M5:Mid w1 _ sb tb text k v l #[vI 4,.string ⟨bs.toArray⟩,vI 0,vI j]:=(M4.o.put 0 (vI 4)).put 1 (.string ⟨bs.toArray⟩);refine Zl8 ?_;intro cC aR;go_upto_region 46 with(fail)
      obtain⟨wT,hw,MT⟩:=M5.name;rw[<-hw];clear hw;clear q0 q1 t0 t1 t2 t3 z0 z1 z2 z3 zs ee cR bV;refine Tg ?_;intro q0 q1 t0 t1 t2 t3 z0 z1 z2 z3 zs ee cR bV MT
      go_wp2_with (at_builtin;go_must (refine wpList_append_lies _ rfl (.tmp 192) (.tmp 194) 78 rfl (sb+1) 139 i0 _ 4 40 underlying78 uX aC bo bQ rfl Py v l.length (l.flatMap Tok.cells) rfl (MT.o.own.alloc _) _ 1 1 (Tok.cells ⟨4,⟨bs.toArray⟩,0,j⟩) rfl rfl (Ya (cs:=(Tok.cells ⟨4,⟨bs.toArray⟩,0,j⟩).toArray) (t:=139) (fr:=(0,0)) (Yq _ _)) PZ Py PA Px PB _ rfl ?_);intro g cap w9 F I U Y;have HG:=lh I;have o7:=lh F;clear I F U Y)
      have S9:=MT.o.app HZ.o HG.o;have S9:=lh S9;go_roundw
      case rel=>exact⟨k,f,l++[⟨4,⟨bs.toArray⟩,0,j⟩],_,rfl,S9.o,Z55 o7.o,Z6d HQ.o HJ.o ay HT.o,by omega,by omega,by simp;omega⟩
      case measure=>
       rw[S9.o.c1,CI.o];simp[intOf];omega
     .have HE:=lh (YF HQ.o HJ.o ay (Zl2 HC.o.symm DR.o));exact AbD
     .have HE:=lh (YF HQ.o HJ.o ay (Zkb HC.o.symm DR.o));exact AbD
    have Hu:(c==39)=false:=by simp[Ca]
    have DS:Hid (Z5 text j≠39):=lh (by rw[<-HC.o];exact Ca);clear Ca;obtain⟨x1,dI⟩:=zX (text.extract j (j+1))
    have DD:j+1<=text.size:=Px
    go_wp2_with fail
    refine(si.o _).mono ?_;rintro e Z⟨rfl,rfl⟩;go_wp2_with fail
    refine(DO.o _).mono ?_;rintro e Z⟨rfl,rfl⟩;go_wp2_with fail
    have lg:=lh dI;clear dI;have Lk:IntKind.i64.wrap ((j:Int)+1)=(j:Int)+1:=IntWalk.i64_in _ Px;have xD:((j:Int)+1).toNat=j+1:=Px
    have Ll:(j:Int)+1<=text.size:=Px
    have Lm:0<=(j:Int)+1:=Px
    have Ln:(j:Int)<=(j:Int)+1:=Px
    refine Z7 [0,2,4,6,8,10,12,14,16,18,20,22,25] [13,14] (λW=>vC W sb 1 (vI j)) q1 λ_=>?_;refine dU ?_
    iterate 12
     refine fa ?_
    refine Ze (λK hK=>?_);go_simp
    refine hK _ _ ((y.o.put 0 (vI 5)).drew.scan.c1) ?_;clear hK K;refine Z0 ?_;have M5:Mid w1 _ sb tb text j v l #[vI 5,.string (D4 text j 0),vI 0,vI j]:=((y.o.put 0 (vI 5)).put 1 (.string (text.extract j (j+1)))).drew;go_upto_region 12 with(fail)
    obtain⟨w5,hw,M5⟩:=M5.name;rw[<-hw];clear hw;clear q0 q1 t0 t1 t2 t3 z0 z1 z2 z3 zs ee cR bV y Lk xD Ll Lm Ln;refine Yy ?_;intro q0 q1 t0 t1 t2 t3 z0 z1 z2 z3 zs ee cR bV;have M5:=lh M5;go_wp2;obtain⟨w6,lE⟩:=zX (w5.alloc (.cells #[.string ⟨#[61,61,61]⟩,.string ⟨#[38,38]⟩,.string ⟨#[124,124]⟩] 9))
    obtain⟨lb,Cb⟩:=zX w5.heap.size
    have pd:w6.heap[lb]?=some (.cells #[.string ⟨#[61,61,61]⟩,.string ⟨#[38,38]⟩,.string ⟨#[124,124]⟩] 9 (0,0)):=by rw[lE,Cb];exact Yq w5 _
    have M6:Mid w1 w6 sb tb text j v l #[vI 5,.string (D4 text j 0),vI 0,vI j]:=by rw[lE];exact M5.o.same ((Y2 _ _).alloc (Y0 _) _)
    have ij:lb≠tb:=Px
    rw[<-Cb,<-lE];have yI:∃m:Nat,Value.int .i64 0=(vI m)/\m<=3/\Mid w1 w6 sb tb text j v l #[vI 5,.string (D4 text j m),vI 0,vI j]/\w6.heap[lb]?=some (.cells #[.string ⟨#[61,61,61]⟩,.string ⟨#[38,38]⟩,.string ⟨#[124,124]⟩] 9 (0,0)):=⟨0,rfl,by omega,M6,pd⟩
    have H6:=lh yI;have uY:=lh ij;clear yI M6 pd lE Cb ij M5 q0 q1 t0 t1 t2 t3 z0 z1 z2 z3 zs ee cR bV;go_loopw [62] (λx xD=>∃m:Nat,x=(vI m)/\m<=3/\Mid w1 xD sb tb text j v l #[vI 5,.string (D4 text j m),vI 0,vI j]/\xD.heap[lb]?=some (.cells #[.string ⟨#[61,61,61]⟩,.string ⟨#[38,38]⟩,.string ⟨#[124,124]⟩] 9 (0,0))) (λx _=>3-(intOf x).toNat)
    case atStart=>exact H6.o
    case round=>
     obtain⟨m,rfl,DT,hM,pd⟩:=hrel;have M6:=lh hM;have l0:wr.cell? ⟨lb,0,none⟩=some (.string ⟨#[61,61,61]⟩):=Rt
     have l1:wr.cell? ⟨lb,1,none⟩=some (.string ⟨#[38,38]⟩):=Rt
     have l2:wr.cell? ⟨lb,2,none⟩=some (.string ⟨#[124,124]⟩):=Rt
     have rr:=lh pd;clear pd H6;refine Xq ?_;intro q0 q1 t0 t1 t2 t3 z0 z1 z2 z3 zs ee cR bV;clear hM;by_cases hm:m=3
     .subst hm;obtain⟨X,hX⟩:=zX (D4 text j 3)
      rw[<-hX]at t1 M6;obtain⟨z,hz⟩:=zX (Zl text j)
      have cF:=Zte text j ay;rw[<-hX,<-hz]at cF;obtain⟨H7,Ot,Cc⟩:=cF;have H9:=lh H7;have Cd:=lh hz;obtain⟨ki,sg⟩:=zX (Lib.indexByte Zpv u)
      have xE:=Zgv u;rw[<-sg,<-HU.o]at xE;have HI:Hid (kC 62 #[.string ⟨#[40,41,123,125,91,93,59,58,44,46,61,43,45,42,60,33]⟩,.int .u8 c] wr λe w'=>e=.returned (vI ki)/\wr=w'):=lh ((Tryz.strings_IndexByte _ _ wr).mono λe w' h=>⟨by rw[h.1,sg,HU.o];simp[Zpv],h.2.symm⟩);have Ou:1<=z:=by rw[hz];unfold Zl;(repeat' split)<;>omega
      clear hX H7 hz sg;obtain⟨Bs,DU⟩:=zX (Ua c)
      rw[<-DU]at xE;have Ia:=lh DU;clear DU;cases Bs
      .have oY:ki<0:=by simpa using xE
       clear xE;by_cases yJ:z=1
       .subst yJ;have HE:=lh (YF HQ.o HJ.o ay (Zfc bM.o DP.o DS.o ⟨Cd.o.symm,by rw[<-HC.o];exact Ia.o.symm⟩));go_wp2_with fail
        refine HI.o.mono ?_;rintro e w7⟨rfl,rfl⟩;exact tu0 M6
       .have DV:((z:Int)==1)=false:=by simp;omega
        have HT:Hid (iq text j=.ok (⟨5,X,0,j⟩,j+z)):=lh (by have h:=Zc1 bM.o DP.o DS.o (λh=>yJ (Cd.o.trans h.1));rw[<-Cd.o,<-H9.o]at h;exact h);go_wp2_with fail
        refine HI.o.mono ?_;rintro e w7⟨rfl,rfl⟩;go_wp2;refine Z7 [0,2,4,6,8,10,12] [7,8,9,10] (λW=>vC W sb 1 (vI j)/\vC W tb 1 (.string X)) ⟨q1,t1⟩ λ_=>?_;refine dU ?_
        iterate 7
         refine fa ?_
        refine Zwq ?_;intro M8;refine Zl8 ?_;intro cC aR;go_upto_region 46 with(fail)
        obtain⟨wT,hw,MT⟩:=M8.name;rw[<-hw];clear hw;clear q0 q1 t0 t1 t2 t3 z0 z1 z2 z3 zs ee cR bV;refine Tg ?_;intro q0 q1 t0 t1 t2 t3 z0 z1 z2 z3 zs ee cR bV MT
        go_wp2_with (at_builtin;go_must (refine wpList_append_lies _ rfl (.tmp 192) (.tmp 194) 78 rfl (sb+1) 139 i0 _ 4 40 underlying78 uX aC bo bQ rfl Py v l.length (l.flatMap Tok.cells) rfl (MT.o.own.alloc _) _ 1 1 (Tok.cells ⟨5,X,0,j⟩) rfl rfl (Ya (cs:=(Tok.cells ⟨5,X,0,j⟩).toArray) (t:=139) (fr:=(0,0)) (Yq _ _)) PZ Py PA Px PB _ rfl ?_);intro g cap w9 F I U Y;have HG:=lh I;have o7:=lh F;clear I F U Y)
        exact Abm
      .have oY:¬ki<0:=by simpa using xE
       clear xE;have HT:Hid (iq text j=.ok (⟨5,X,0,j⟩,j+z)):=lh (by have h:=Zc1 bM.o DP.o DS.o (λh=>by have h2:=h.2;rw[<-HC.o,<-Ia.o]at h2;cases h2);rw[<-Cd.o,<-H9.o]at h;exact h);go_wp2_with fail
       refine HI.o.mono ?_;rintro e w7⟨rfl,rfl⟩;go_wp2;refine Z7 [0,2,4,6,8,10,12] [7,8,9,10] (λW=>vC W sb 1 (vI j)/\vC W tb 1 (.string X)) ⟨q1,t1⟩ λ_=>?_;refine dU ?_
       iterate 7
        refine fa ?_
       refine Zwq ?_;intro M8;refine Zl8 ?_;intro cC aR;go_upto_region 46 with(fail)
       obtain⟨wT,hw,MT⟩:=M8.name;rw[<-hw];clear hw;clear q0 q1 t0 t1 t2 t3 z0 z1 z2 z3 zs ee cR bV;refine Tg ?_;intro q0 q1 t0 t1 t2 t3 z0 z1 z2 z3 zs ee cR bV MT
       go_wp2_with (at_builtin;go_must (refine wpList_append_lies _ rfl (.tmp 192) (.tmp 194) 78 rfl (sb+1) 139 i0 _ 4 40 underlying78 uX aC bo bQ rfl Py v l.length (l.flatMap Tok.cells) rfl (MT.o.own.alloc _) _ 1 1 (Tok.cells ⟨5,X,0,j⟩) rfl rfl (Ya (cs:=(Tok.cells ⟨5,X,0,j⟩).toArray) (t:=139) (fr:=(0,0)) (Yq _ _)) PZ Py PA Px PB _ rfl ?_);intro g cap w9 F I U Y;have HG:=lh I;have o7:=lh F;clear I F U Y)
       exact Abm
     .have hp:∀m,Hid (kC 61 #[.string (text.extract j text.size),.string (sN m)] wr λe w'=>e= .returned (.bool (preB text j m))/\wr=w'):=λm=>lh ((Tryz.strings_HasPrefix _ _ wr).mono λe w' h=>⟨by rw[h.1];unfold preB Lib.hasPrefix;rw[extract_drop],h.2.symm⟩);have HP:=lh hp;clear hp;have yK:m=0\/m=1\/m=2:=by omega
      clear hm;rcases yK with rfl|rfl|rfl
      .obtain⟨Bp,pZ⟩:=zX (preB text j 0)
       have tF:=HP.o 0;rw[<-pZ]at tF;have tB:=lh pZ;clear pZ HP;go_wp2_with fail
       refine tF.o.mono ?_;rintro e w7⟨rfl,rfl⟩;cases Bp
       .have O:D4 text j (0+1)=D4 text j 0:=by
         exact WZ
        have HT:=lh O;clear O;go_wp2;go_roundw
        case rel=>exact⟨0+1,by go_num,by omega,by rw[HT.o];exact M6.o,rr.o⟩
        case measure=>simp[intOf]
       .have O:D4 text j (0+1)=sN 0:=by
         exact WZ
        have HT:=lh O;clear O;go_wp2;go_roundw
        case rel=>exact⟨0+1,by go_num,by omega,by rw[HT.o];exact M6.o.put 1 (.string (sN 0)),(Y8 _ _ _ _ uY.o).trans rr.o⟩
        case measure=>simp[intOf]
      .obtain⟨Bp,pZ⟩:=zX (preB text j 1)
       have tF:=HP.o 1;rw[<-pZ]at tF;have tB:=lh pZ;clear pZ HP;go_wp2_with fail
       refine tF.o.mono ?_;rintro e w7⟨rfl,rfl⟩;cases Bp
       .have O:D4 text j (1+1)=D4 text j 1:=by
         exact Zxb
        have HT:=lh O;clear O;go_wp2;go_roundw
        case rel=>exact⟨1+1,by go_num,by omega,by rw[HT.o];exact M6.o,rr.o⟩
        case measure=>simp[intOf]
       .have O:D4 text j (1+1)=sN 1:=by
         exact Zxb
        have HT:=lh O;clear O;go_wp2;go_roundw
        case rel=>exact⟨1+1,by go_num,by omega,by rw[HT.o];exact M6.o.put 1 (.string (sN 1)),(Y8 _ _ _ _ uY.o).trans rr.o⟩
        case measure=>simp[intOf]
      .obtain⟨Bp,pZ⟩:=zX (preB text j 2)
       have tF:=HP.o 2;rw[<-pZ]at tF;have tB:=lh pZ;clear pZ HP;go_wp2_with fail
       refine tF.o.mono ?_;rintro e w7⟨rfl,rfl⟩;cases Bp
       .have O:D4 text j (2+1)=D4 text j 2:=by
         exact X1
        have HT:=lh O;clear O;go_wp2;go_roundw
        case rel=>exact⟨2+1,by go_num,by omega,by rw[HT.o];exact M6.o,rr.o⟩
        case measure=>simp[intOf]
       .have O:D4 text j (2+1)=sN 2:=by
         exact X1
        have HT:=lh O;clear O;go_wp2;go_roundw
        case rel=>exact⟨2+1,by go_num,by omega,by rw[HT.o];exact M6.o.put 1 (.string (sN 2)),(Y8 _ _ _ _ uY.o).trans rr.o⟩
        case measure=>simp[intOf]
   ·have dQ := lh (Zlu y.o.scan.blk Px Px);have bM : Hid (uZ (Z5 text j) = false) := lh (by rw [← HC.o]; exact DM.o.symm);have yL : Hid (mE (Z5 text j) = true) := lh (by rw [← HC.o]; exact xC.o.symm);go_wp2_with fail
    refine(si.o _).mono ?_;rintro e Z⟨rfl,rfl⟩;go_wp2_with fail
    refine(DO.o _).mono ?_;rintro e Z⟨rfl,rfl⟩;go_wp2_with fail
    refine dQ.o.mono ?_;rintro e Z⟨k,hk,pU,bO,rfl,hS⟩;obtain⟨n,rfl⟩:∃n,k=j+n:=⟨k-j,by omega⟩
    have M4:=y.o.call hS;have HK:=lh hk;have sh:=lh (TQ mE text (text.size-j) j (Y0 _) Px);have iR:1<=n:=by
     rcases Nat.lt_or_ge j (j+n)with h|h;·omega
     .have h3:=sh.o.2.2.2;rw[<-HK.o]at h3;have h4:=h3 Px;rw[show j+n=j by omega,yL.o]at h4;cases h4
    have Lp:Hid (∀m,m<n->mE (Z5 text (j+m))=true):=lh λm hm=>sh.o.2.2.1 _ Px (by rw[<-HK.o];omega);clear dQ hS hk y q0 q1 t0 t1 t2 t3 z0 z1 z2 z3 zs ee cR bV sh;obtain⟨s,hs⟩:=zX (text.extract j (j+n))
    have yM:s.size=n:=by rw[hs,UF text bO];omega
    have ny:Hid (∀m (h:m<s.size),(s[m].toNat:Int)=Z5 text (j+m)):=lh λm h=>by
     rw[<-Z4y h];subst hs;exact Zk text Px bO
    rw[<-hs];have HS:=lh hs;clear hs;have gL:(s[0].toNat:Int)=c:=by rw[ny.o 0 Px,HC.o];rfl
    refine VW ?_;intro q0 q1 t0 t1 t2 t3 z0 z1 z2 z3 zs ee cR bV;have M4:=lh M4;by_cases nU:10<n
    .have HE:=lh (YF HQ.o HJ.o ay (Zce bM.o yL.o HK.o Px));exact Aa7
    by_cases Ib:1<n/\c=48
    .obtain⟨h1,rfl⟩:=Ib;have HE:=lh (YF HQ.o HJ.o ay (Zce bM.o yL.o HK.o Qh));exact Aa7
    have Ic:Hid (¬(10<j+n-j\/(1<j+n-j/\Z5 text j=48))):=lh Qh;have df:(1<n/\(c==48)=false)\/¬1<n:=by
     by_cases h1:1<n;·exact .inl ⟨h1,by simp;omega⟩
     .exact .inr Px
    clear Ib;have eu:∃(m:Nat) (N:Int),Value.int .i64 0=(vI m)/\m<=n/\Mid w1 Z sb tb text (j+n) v l #[vI 0,.string ⟨#[]⟩,vI N,vI j]/\iw text (j+n) (n-m) (j+m) N=iw text (j+n) n j 0/\0<=N/\N<pw m:=
     ⟨0,0,rfl,by omega,M4.o,by simp,by omega,by simp[pw]⟩
    have DW:=lh eu;clear eu M4;obtain⟨X,hX⟩:=zX (iw text (j+n) n j 0)
    rw[<-hX]at DW;have HX:=lh hX;clear hX;rcases df with⟨h1,Lq⟩|h1
    all_goals
     go_wp2;clear q0 q1 t0 t1 t2 t3 z0 z1 z2 z3 zs ee cR bV;go_loopw [146] (λx xD=>∃(m:Nat) (N:Int),x=(vI m)/\m<=n/\Mid w1 xD sb tb text (j+n) v l #[vI 0,.string ⟨#[]⟩,vI N,vI j]/\iw text (j+n) (n-m) (j+m) N=X/\0<=N/\N<pw m) (λx _=>20-(intOf x).toNat)
     case atStart=>exact DW.o
     case round=>
      obtain⟨m,N,rfl,lG,hM,Id,Ov,Ce⟩:=hrel;have Lr:1<=s.size:=Px
      have M6:=lh hM;refine Xq ?_;intro q0 q1 t0 t1 t2 t3 z0 z1 z2 z3 zs ee cR bV;have DX:=lh Id;clear hM Id DW;by_cases Ls:m<s.size
      .have Ow:N<1000000000:=Int.lt_of_lt_of_le Ce (Acn m Px);have Lt:=lh Ce;obtain⟨d,hd⟩:=zX (Z5 text (j+m))
       have pe:(s[m].toNat:Int)=d:=by rw[ny.o m Ls,hd]
       have DY:=Lp.o m Px;rw[<-hd]at DY;have Lu:48<=d/\d<=57:=by simpa[mE]using DY
       obtain⟨Ox,rO⟩:=Lu;have Lv:=lh hd;clear hd DY Ce;go_wp2_with fail
       refine Z7 [0,2,4,6,8,10,12,15] [8,9,10] (λW=>vC W tb 2 (vI N)) t2 λ_=>?_;refine dU ?_
       iterate 7
        refine fa ?_
       refine Ze (λK hK=>?_);go_simp
       refine hK _ _ t2 ?_;clear hK K;refine Z0 ?_;go_wp2;go_roundw
       case rel=>exact⟨m+1,10*N+(d-48),by go_num,by omega,(M6.o.put 2 (vI (10*N+(d-48)))).drew,by have h:=DX.o;rw[Zm5 Px,<-Lv.o]at h;exact h,by omega,by have:=Lt.o;simp only[pw];omega⟩
       case measure=>simp[intOf];omega
      .have Lw:n=m:=by omega
       subst Lw;have Ie:N=iw text (j+n) (j+n-j) j 0:=by rw[Nat.add_sub_cancel_left,<-HX.o,<-DX.o];exact Zo2.symm
       have DZ:=lh Ie;clear Ie Ce;have J:Mid w1 _ sb tb text (j+n) v l #[vI 3,.string ⟨#[]⟩,vI N,vI j]:=M6.o.put 0 (vI 3);go_upto_region 37 with(fail)
       obtain⟨w7,hw,J⟩:=J.name;rw[<-hw];clear hw;clear q0 q1 t0 t1 t2 t3 z0 z1 z2 z3 zs ee cR bV;have q0:=J.scan.c0;have q1:=J.scan.c1;have t0:=J.cell 0 rfl;have t1:=J.cell 1 rfl;have t2:=J.cell 2 rfl;have t3:=J.cell 3 rfl;have z0:=J.fz 0;have z1:=J.fz 1;have z2:=J.fz 2;have z3:=J.fz 3;have zs:=J.scan.fz 1;have ee:=J.lt;have cR:=J.tlt;have bV:=J.scan.lt;have J:=lh J;by_cases eP:1000000000<N
       .have HE:=lh (YF HQ.o HJ.o ay (Zfz bM.o yL.o HK.o Ic.o (by rw[<-DZ.o];exact eP)));exact tu0 J
       .have HT:Hid (iq text j= .ok (⟨3,ByteArray.empty,N,j⟩,j+n)):=lh (by have h:=Zoj bM.o yL.o HK.o Ic.o (by rw[<-DZ.o];exact eP);rw[<-DZ.o]at h;exact h);refine Zl8 ?_;intro cC aR;go_upto_region 46 with(fail)
        obtain⟨wT,hw,MT⟩:=J.o.name;rw[<-hw];clear hw;clear q0 q1 t0 t1 t2 t3 z0 z1 z2 z3 zs ee cR bV;refine Tg ?_;intro q0 q1 t0 t1 t2 t3 z0 z1 z2 z3 zs ee cR bV MT
        go_wp2_with (at_builtin;go_must (refine wpList_append_lies _ rfl (.tmp 192) (.tmp 194) 78 rfl (sb+1) 139 i0 _ 4 40 underlying78 uX aC bo bQ rfl Py v l.length (l.flatMap Tok.cells) rfl (MT.o.own.alloc _) _ 1 1 (Tok.cells ⟨3,ByteArray.empty,N,j⟩) rfl rfl (Ya (cs:=(Tok.cells ⟨3,ByteArray.empty,N,j⟩).toArray) (t:=139) (fr:=(0,0)) (Yq _ _)) PZ Py PA Px PB _ rfl ?_);intro g cap w9 F I U Y;have HG:=lh I;have o7:=lh F;clear I F U Y)
        have S9:=MT.o.app HZ.o HG.o;have S9:=lh S9;go_roundw
        case rel=>exact⟨j+n,f,l++[⟨3,ByteArray.empty,N,j⟩],_,rfl,S9.o,Z55 o7.o,Z6d HQ.o HJ.o ay HT.o,by omega,by omega,by simp;omega⟩
        case measure=>
         rw[S9.o.c1,CI.o];simp[intOf];omega
  .have dQ:=lh (Zqn y.o.scan.blk Px Px);have If:uZ (Z5 text j)=true:=by rw[<-HC.o];exact DM.o.symm
   have D2:=lh If;clear If;go_wp2_with fail
   refine(si.o _).mono ?_;rintro e Z⟨rfl,rfl⟩;go_wp2_with fail
   refine dQ.o.mono ?_;rintro e Z⟨k,hk,pU,bO,rfl,hS⟩;have M4:=y.o.call hS;have HK:=lh hk;clear dQ hS hk y q0 q1 t0 t1 t2 t3 z0 z1 z2 z3 zs ee cR bV;refine VW ?_;intro q0 q1 t0 t1 t2 t3 z0 z1 z2 z3 zs ee cR bV;obtain⟨s,hs⟩:=zX (text.extract j k)
   have yM:s.size=k-j:=by rw[hs];exact UF text bO
   rw[<-hs];have HS:=lh hs;have sj:=lh yM;clear hs yM;have M5:Mid w1 _ sb tb text k v l #[vI 1,.string s,vI 0,vI j]:=(M4.put 0 (vI 1)).put 1 (.string s);go_upto_region 23 with(fail)
   obtain⟨w5,hw,M5⟩:=M5.name;rw[<-hw];clear hw;clear M4 q0 q1 t0 t1 t2 t3 z0 z1 z2 z3 zs ee cR bV;refine Yy ?_;intro q0 q1 t0 t1 t2 t3 z0 z1 z2 z3 zs ee cR bV;obtain⟨Bw,mH⟩:=zX (Ud s)
   have Lx:Hid (kC 59 #[.string s] w5 λe w'=>e=.returned (.bool Bw)/\w5=w'):=lh (by rw[mH];exact(Zj2 w5 s (HW.o.below (M5.scan.belowOf B1.o hb0))).mono λe w' h=>⟨h.1,h.2.symm⟩);have D3:=lh mH;have M5:=lh M5;have aZ:s.size=k-j:=sj.o;clear mH;go_wp2_with fail
   refine Lx.o.mono ?_;rintro e w6⟨rfl,rfl⟩;cases Bw
   .by_cases yD:20<k-j
    .have Ly:decide (((k-j:Nat):Int)>20)=true:=by simp;omega
     have HE:=lh (YF HQ.o HJ.o ay (Zji D2.o HK.o Q0 yD));exact tu0 M5
    .have HT:Hid (iq text j= .ok (⟨1,s,0,j⟩,k)):=lh (by have h:=Zjb D2.o HK.o Q0 yD;rw[<-HS.o]at h;exact h);refine Zl8 ?_;intro cC aR;go_upto_region 46 with(fail)
     obtain⟨wT,hw,MT⟩:=M5.o.name;rw[<-hw];clear hw;clear q0 q1 t0 t1 t2 t3 z0 z1 z2 z3 zs ee cR bV;refine Tg ?_;intro q0 q1 t0 t1 t2 t3 z0 z1 z2 z3 zs ee cR bV MT
     go_wp2_with (at_builtin;go_must (refine wpList_append_lies _ rfl (.tmp 192) (.tmp 194) 78 rfl (sb+1) 139 i0 _ 4 40 underlying78 uX aC bo bQ rfl Py v l.length (l.flatMap Tok.cells) rfl (MT.o.own.alloc _) _ 1 1 (Tok.cells ⟨1,s,0,j⟩) rfl rfl (Ya (cs:=(Tok.cells ⟨1,s,0,j⟩).toArray) (t:=139) (fr:=(0,0)) (Yq _ _)) PZ Py PA Px PB _ rfl ?_);intro g cap w9 F I U Y;have HG:=lh I;have o7:=lh F;clear I F U Y)
     have S9:=MT.o.app HZ.o HG.o;have S9:=lh S9;go_roundw
     case rel=>exact⟨k,f,l++[⟨1,s,0,j⟩],_,rfl,S9.o,Z55 o7.o,Z6d HQ.o HJ.o ay HT.o,by omega,by omega,by simp;omega⟩
     case measure=>
      rw[S9.o.c1,CI.o];simp[intOf];omega
   .have HT:Hid (iq text j= .ok (⟨2,s,0,j⟩,k)):=lh (by have h:=Zka D2.o HK.o Q0;rw[<-HS.o]at h;exact h);have M6:Mid w1 _ sb tb text k v l #[vI 2,.string s,vI 0,vI j]:=M5.o.put 0 (vI 2);refine Zl8 ?_;intro cC aR;go_upto_region 46 with(fail)
    obtain⟨wT,hw,MT⟩:=M6.name;rw[<-hw];clear hw;clear q0 q1 t0 t1 t2 t3 z0 z1 z2 z3 zs ee cR bV;refine Tg ?_;intro q0 q1 t0 t1 t2 t3 z0 z1 z2 z3 zs ee cR bV MT
    go_wp2_with (at_builtin;go_must (refine wpList_append_lies _ rfl (.tmp 192) (.tmp 194) 78 rfl (sb+1) 139 i0 _ 4 40 underlying78 uX aC bo bQ rfl Py v l.length (l.flatMap Tok.cells) rfl (MT.o.own.alloc _) _ 1 1 (Tok.cells ⟨2,s,0,j⟩) rfl rfl (Ya (cs:=(Tok.cells ⟨2,s,0,j⟩).toArray) (t:=139) (fr:=(0,0)) (Yq _ _)) PZ Py PA Px PB _ rfl ?_);intro g cap w9 F I U Y;have HG:=lh I;have o7:=lh F;clear I F U Y)
    have S9:=MT.o.app HZ.o HG.o;have S9:=lh S9;go_roundw
    case rel=>exact⟨k,f,l++[⟨2,s,0,j⟩],_,rfl,S9.o,Z55 o7.o,Z6d HQ.o HJ.o ay HT.o,by omega,by omega,by simp;omega⟩
    case measure=>
     rw[S9.o.c1,CI.o];simp[intOf];omega
