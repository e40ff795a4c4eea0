import Derived.Test.YtkjdnecemhilpaaGreatDoorJ05
import Derived.Shelf.Strings.Prefix
set_option maxRecDepth 100000
set_option maxHeartbeats 20000000
set_option linter.all false
namespace Go.Proofs.YtkjdnecemhilpaaGreatDoor
open Go Go.RowKit Go.Proofs.Tryz Tryz
def ScanAt.bfr{w0 w w':kV}{sb b B a:Nat}{text:kB}{p v g:Value}{m:List Value}(h:ScanAt w0 w sb text a)(hb:BAt B w b p v m)(hs:sb<B)(o:w0.heap.size<=B)(f:BFr w w' b v g):ScanAt w0 w' sb text a:=by
 have hr:∀k,k<B->v.ownBlock≠some k:=λk hk e=>by have:=(hb.own.lt k e).1;omega
 have u:=hb.le
 exact⟨(f.block sb h.lt Qe (hr sb hs)).trans h.blk,f.os.trans h.os,f.tape.trans h.tape,f.output.trans h.output,Y4 h.size f.size,
  λk hk hn=>(f.block k (Y7 hk h.size) Qe (hr k Qe)).trans (h.block k hk hn)⟩
def BAt.set{B:Nat}{w:kV}{b sb:Nat}{p v:Value}{m:List Value}(h:BAt B w b p v m)(hs:sb<B)(x:Value):BAt B (w.setCell ⟨sb,1,none⟩ x) b p v m:=by
 have u:=h.le;exact⟨(Y8 _ _ _ _ Qi).trans h.blk,h.ptr,Z3 h.own λg o=>Y8 _ _ _ _ (by have:=(h.own.lt g o).1;simp;omega),h.ne,h.le⟩
theorem BAt.drew{B:Nat}{w:kV}{b:Nat}{p v:Value}{g:List Value}(h:BAt B w b p v g):BAt B w.drew b p v g:=⟨h.blk,h.ptr,h.own,h.ne,h.le⟩
def BAt.new(w:kV):BAt w.heap.size (w.alloc (.cells #[.pointer none,.slice none 0 0] 157)) w.heap.size (.pointer none) (.slice none 0 0) []:=
 ⟨Yq w _,.inl rfl,World.ownsRow_nil _ _ _ _,by simp[Value.ownBlock],Y0 _⟩
def Z7v(B:Nat)(w:kV)(b:Nat)(p v:Value)(g:List Value)(c:Int)(h:BAt B w b p v g)(hn:g.length<1099511627776) :
 kC 69 #[vP b,.int .u8 c] w λe w'=>e=.returned .nilIface/\∃m,BAt B w' b (vP b) m (g++[.int .u8 c])/\BFr w w' b v m:=by
 rcases h.ptr with rfl|rfl;·exact Z9v B w b v g c h hn
 .exact Zbk B w b v g c h hn
def ScanAt.set'{w0 w:kV}{sb a b:Nat}{text:kB}{x:Int}(h:ScanAt w0 w sb text a)(hx:x=b):ScanAt w0 (w.setCell ⟨sb,1,none⟩ (vI x)) sb text b:=by
 subst hx;exact h.set b
def ScanAt.c1'{w0 w:kV}{sb a:Nat}{text:kB}{x:Int}(h:ScanAt w0 w sb text a)(hx:x=a):w.cell? ⟨sb,1,none⟩=some (vI x):=by
 subst hx;exact h.c1
def ScanAt.belowB{w0 w w':kV}{B sb a:Nat}{text:kB}(h:ScanAt w0 w sb text a)(hs:sb<B)(m:w0.heap.size<=B)(g:Below B w w'):ScanAt w0 w' sb text a:=
 ⟨(g.block sb hs).trans h.blk,g.os.trans h.os,g.tape.trans h.tape,g.output.trans h.output,Y4 h.size g.size,λk hk hn=>(g.block k (Y7 hk m)).trans (h.block k hk hn)⟩
def Zky(c:Int)(u:UInt8)(I:(u.toNat:Int)=c):(Va c=none/\Lib.indexByte [110,39,92] c.toNat.toUInt8=-1)\/(c=110/\Va c=some 10/\Lib.indexByte [110,39,92] c.toNat.toUInt8=0)\/(c=39/\Va c=some 39/\Lib.indexByte [110,39,92] c.toNat.toUInt8=1)\/(c=92/\Va c=some 92/\Lib.indexByte [110,39,92] c.toNat.toUInt8=2):=by
 subst I;have hx:((u.toNat:Int)).toNat.toUInt8=u:=Qm
 rw[hx];by_cases g:u=110;·subst g;exact .inr (.inl ⟨rfl,rfl,rfl⟩)
 by_cases m:u=39;·subst m;exact .inr (.inr (.inl ⟨rfl,rfl,rfl⟩))
 by_cases o:u=92;·subst o;exact .inr (.inr (.inr ⟨rfl,rfl,rfl⟩))
 refine .inl ⟨?_,?_⟩
 .have p:¬(u.toNat:Int)=110:=λh=>g (UInt8.toNat_inj.1 Qi);have y:¬(u.toNat:Int)=39:=λh=>m (UInt8.toNat_inj.1 Qi);have F:¬(u.toNat:Int)=92:=λh=>o (UInt8.toNat_inj.1 Qi);unfold Va;rw[Y3 p,Y3 y,Y3 F]
 .have p:((110:UInt8)==u)=false:=by simpa using λh=>g h.symm
  have y:((39:UInt8)==u)=false:=by simpa using λh=>m h.symm
  have F:((92:UInt8)==u)=false:=by simpa using λh=>o h.symm
  simp[Lib.indexByte,p,y,F]
def Zjo(w:kV)(sb a:Nat)(text:kB)(h:w.heap[sb]?=some (.cells #[.string text,vI a] 93 (0,0)))(ha:a<text.size)(hm:text.size<=1000000) :
 kC 36 #[vP sb] w λe w'=>e=.returned (.tuple #[.string ⟨(CP text (a+1)).1.toArray⟩,vI (CP text (a+1)).2.1,vI (CP text (a+1)).2.2])/\ScanAt w w' sb text (CP text (a+1)).2.2:=by
 obtain⟨R,m⟩:=zX (CP text (a+1))
 rw[<-m];have HR:=lh m;clear m;have S0:=lh (ScanAt.refl h);have U:sb<w.heap.size:=(Y1.1 h).1;have B0:=lh (BAt.new w);have S1:=lh (S0.o.below (w':=w.alloc (.cells #[.pointer none,.slice none 0 0] 157)) ((Y2 _ _).alloc (Y0 _) _));have c0:=S1.o.c0;have c1:=S1.o.c1;have z1:=S1.o.fz 1;clear h;go_enter func36,ntmps36
 go_wp2;have X:=lh ((S0.o.set (a+1)).below (w':=(w.setCell ⟨sb,1,none⟩ (vI ((a:Int)+1))).alloc (.cells #[.pointer none,.slice none 0 0] 157)) ((Y2 _ _).alloc (Y0 _) _));have ba:(w.setCell ⟨sb,1,none⟩ (vI ((a:Int)+1))).heap.size=w.heap.size:=Yf ..;have b2:=BAt.new (w.setCell ⟨sb,1,none⟩ (vI ((a:Int)+1)));rw[ba]at b2;have B2:=lh b2;clear b2 ba;clear S1 B0 c0 c1 z1
 go_loopw [] (λwr=>∃(i f:Nat) (y:List UInt8) (p v:Value),ScanAt w wr sb text i/\BAt w.heap.size wr w.heap.size p v (Lib.byteCells y)/\Zy text f i y=R/\text.size+1<=i+f/\i<=text.size/\y.length<=i) (λwr=>text.size+1-(intOf ((wr.cell? ⟨sb,1,none⟩).getD .nilIface)).toNat)
 case atStart=>exact⟨a+1,text.size+1-(a+1),[],_,_,X.o,B2.o,HR.o.symm,by omega,by omega,by simp⟩
 case round=>
  obtain⟨i,f,y,p,v,hS,hB,hq,hf,hi,hl⟩:=hrel;have q0:=hS.c0;have q1:=hS.c1;have z1:=hS.fz 1;obtain⟨SI,BI,Y⟩:=ds hS hB hq;obtain⟨f,rfl⟩:∃g,f=g+1:=⟨f-1,by omega⟩
  clear hS hB hq X B2;by_cases aA:i<text.size
  .have hd:decide (text.size<=i)=false:=by simp;omega
   have F:=Z53 (text:=text) aA;obtain⟨c,hc⟩:=zX (Z5 text i)
   rw[<-hc]at F;by_cases gU:c=10
   .subst gU;have m:R=([],3,i):=by rw[<-Y.o];simp[Zy,<-hc]
    have aw:=F.symm;have bD:=lh m;clear F m hc;exact Abt
   have Ea:(c==10)=false:=by simp[gU]
   have aG:(Lib.byteCells y).length=y.length:=by simp[Lib.byteCells]
   have bR:=lh aG;clear aG;by_cases Cx:c=39
   .subst Cx;have m:R=if 500<y.length then([],4,i+1)else(y,0,i+1):=by rw[<-Y.o];simp[Zy,<-hc];omega
    have aw:=F.symm;have bD:=lh m;clear F m hc gU Ea;have z1:=SI.o.drew.drew.fz 1;go_wp2_with fail
    refine Z7 [0,2,4,6,8,10,12,14,16,18,20,22,24,26,28,30,32,34,36] [19,20,21] (λW=>vC W sb 0 (.string text)/\vC W sb 1 (vI i)) ⟨q0,q1⟩ λ_=>?_;refine dS ?_
    iterate 19
     refine dq ?_
    refine Z1 ?_;go_wp2;refine Z7 [0,2,4,6,8,10,12,14] [8,9] (λW=>vC W sb 0 (.string text)/\vC W sb 1 (vI i)) ⟨q0,q1⟩ λ_=>?_;refine dS ?_
    iterate 8
     refine dq ?_
    refine Z1 ?_;go_wp2_with fail
    have u:=(SI.o.set' (b:=i+1) (x:=(i:Int)+1) Qe).drew.drew;have O:=(BI.o.set U (vI ((i:Int)+1))).drew.drew;have HL:=Zuc O;rw[bR.o]at HL;have HL:=lh HL;have iq:=u.c1' (x:=(i:Int)+1) Qe;have LX:=u.lt;have O:=lh O;have u:=lh u;refine HL.o.mono ?_;rintro e w1⟨rfl,hw⟩;rw[<-hw]at O u iq LX;clear hw HL z1 q0 q1;by_cases h5:500<y.length
    .go_wp2;refine Z7 [0,2,4,6,8,10] [6] (λW=>W.cell? ⟨sb,1,none⟩=some (vI ((i:Int)+1))) iq λ_=>?_;refine dS ?_
     iterate 6
      refine dq ?_
     refine Z1 ?_;go_wp2;go_ret3
     rw[bD.o,Y5 h5];exact⟨rfl,u.o.drew⟩
    .go_wp2;refine Z7 [2,4,6,8,1,10,12] [7] (λW=>W.cell? ⟨sb,1,none⟩=some (vI ((i:Int)+1))) iq λ_=>?_;refine dS ?_
     iterate 4
      refine dq ?_
     refine Ze (λK hK=>?_);go_simp
     refine(Zju y O.o.drew (by have:=(Y1.1 O.o.blk).1;simp;omega)).mono ?_;rintro e w2⟨rfl,hB⟩;have X:=u.o.drew.belowB U (Y0 _) hB;refine hK _ _ (X.c1' Qe) ?_;have X:=lh X;clear hK K hB
     iterate 2
      refine dq ?_
     refine Z1 ?_;go_wp2;go_ret3
     rw[bD.o,Y3 h5];exact⟨rfl,X.o⟩
   have Is:(c==39)=false:=by simp[Cx]
   by_cases Eb:c=92
   .subst Eb;have aw:=F.symm;clear F gU Ea Cx Is;have HC:=lh hc;clear hc;go_wp2_with fail
    refine Z7 [0,2,4,6,8,10,12,14,16,18,20,22,24,26,28,30,32,34,36] [19,20,21] (λW=>vC W sb 0 (.string text)/\vC W sb 1 (vI i)) ⟨q0,q1⟩ λ_=>?_;refine dS ?_
    iterate 19
     refine dq ?_
    refine Z1 ?_;go_wp2;refine Z7 [0,2,4,6,8,10,12,14] [8,9] (λW=>vC W sb 0 (.string text)/\vC W sb 1 (vI i)) ⟨q0,q1⟩ λ_=>?_;refine dS ?_
    iterate 8
     refine dq ?_
    refine Z1 ?_;go_wp2_with fail
    have u:=(SI.o.set' (b:=i+1) (x:=(i:Int)+1) Qe).drew.drew;have O:=(BI.o.set U (vI ((i:Int)+1))).drew.drew;obtain⟨w1,hw⟩:=zX ((wr.setCell ⟨sb,1,none⟩ (vI ((i:Int)+1))).drew.drew)
    rw[<-hw]at O u ⊢;have p0:=u.c0;have p1:=u.c1' (x:=(i:Int)+1) Qe;have pz:=u.fz 1;have O:=lh O;have u:=lh u;clear hw q0 q1 z1 aw;by_cases h4:i+1<text.size
    .have F:=Z53 (text:=text) h4;have LY:decide ((i:Int)+1<text.size)=true:=by simp;omega
     obtain⟨k,hk⟩:∃k,k=Lib.indexByte [110,39,92] ((text[i+1].toNat:Int)).toNat.toUInt8:=⟨_,rfl⟩
     have vq:=Zky (Z5 text (i+1)) text[i+1] F.symm;rw[F,<-hk]at vq;have HX:Hid (∀w,kC 38 #[.string ⟨#[110,39,92]⟩,.int .u8 (text[i+1].toNat:Int)] w λe w'=>e=.returned (vI k)/\w'=w):=
      lh λw=>(Tryz.strings_IndexByte ⟨#[110,39,92]⟩ (text[i+1].toNat:Int) w).mono λe w' h=>⟨by rw[hk];exact h.1,h.2⟩
     have It:=lh F;have HE:=lh vq;clear F vq hk;go_wp2_with fail
     refine Z7 [0,2,4,6,8,10,12,14,16] [9] (λW=>vC W sb 0 (.string text)/\W.cell? ⟨sb,1,none⟩=some (vI ((i:Int)+1))) ⟨p0,p1⟩ λ_=>?_;refine dS ?_
     iterate 9
      refine dq ?_
     refine Z1 ?_;go_wp2;refine Z7 [0,2,4,6,8,10,12,14] [8,9,10] (λW=>vC W sb 0 (.string text)/\W.cell? ⟨sb,1,none⟩=some (vI ((i:Int)+1))) ⟨p0,p1⟩ λ_=>?_;refine dS ?_
     iterate 8
      refine dq ?_
     refine Z1 ?_;go_wp2_with fail
     refine(HX.o _).mono ?_;rintro e w2⟨rfl,hw⟩;have zi:=O.o.drew.drew;have Z:=u.o.drew.drew;rw[<-hw]at zi Z;have om:=Z.c1' (x:=(i:Int)+1) Qe;have LZ:=Z.fz 1;have zi:=lh zi;have Z:=lh Z;clear hw O u p0 p1 pz HX;have fin:∀(x:UInt8),Hid (Va (text[i+1].toNat:Int)=some x)->Zy text f (i+2) (y++[x])=R:=by
      intro x hx;rw[<-Y.o];simp only[Zy];rw[Y3 QO,Y3 QO,Y5 HC.o.symm,Y5 h4,It.o,hx.o]
     have ct:=lh fin;have Ec:Hid ((Lib.byteCells y).length<1099511627776):=lh (by rw[bR.o];omega);clear fin;rcases HE.o with⟨he,rfl⟩|⟨_,he,rfl⟩|⟨_,he,rfl⟩|⟨_,he,rfl⟩
     .have m:R=([],3,i+1):=by
       rw[<-Y.o];simp only[Zy];rw[Y3 QO,Y3 QO,Y5 HC.o.symm,Y5 h4,It.o,he]
      have bD:=lh m;clear m he HE;go_wp2;refine Z7 [0,2,4,6,8,10] [6] (λW=>W.cell? ⟨sb,1,none⟩=some (vI ((i:Int)+1))) om λ_=>?_;refine dS ?_
      iterate 6
       refine dq ?_
      refine Z1 ?_;go_wp2;go_ret3
      rw[bD.o];exact⟨rfl,Z.o.drew⟩
     all_goals
      have FI:=lh (ct.o _ (lh he));clear he HE ct;go_wp2_with fail
      refine(Z7v _ _ _ _ _ _ _ zi.o Ec.o).mono ?_;rintro e w3⟨rfl,v',I,bh⟩;have J:=Z.o.bfr zi.o U (Y0 _) bh;have r1:=J.c1' (x:=(i:Int)+1) Qe;have rz:=J.fz 1;have B3:=lh I;have J:=lh J;clear I bh om LZ;go_wp2;go_roundw
      case rel=>exact⟨i+2,f,_,_,_,J.o.set' Qe,(by rw[Lib.byteCells,Yl];exact B3.o.set U _),FI.o,by omega,by omega,by simp;omega⟩
      case measure=>
       have e1:=(J.o.set' (b:=i+2) (x:=(i:Int)+1+1) Qe).c1;exact Zzr
    .have LY:decide ((i:Int)+1<text.size)=false:=by simp;omega
     have m:R=([],3,i+1):=by
      rw[<-Y.o];simp only[Zy];rw[Y3 QO,Y3 QO,Y5 HC.o.symm,Y3 h4]
     have bD:=lh m;clear m;go_wp2_with fail
     refine Z7 [0,2,4,6,8,10,12,14,16] [9] (λW=>vC W sb 0 (.string text)/\W.cell? ⟨sb,1,none⟩=some (vI ((i:Int)+1))) ⟨p0,p1⟩ λ_=>?_;refine dS ?_
     iterate 9
      refine dq ?_
     refine Z1 ?_;go_wp2;refine Z7 [0,2,4,6,8,10] [6] (λW=>W.cell? ⟨sb,1,none⟩=some (vI ((i:Int)+1))) p1 λ_=>?_;refine dS ?_
     iterate 6
      refine dq ?_
     refine Z1 ?_;go_wp2;go_ret3
     rw[bD.o];exact⟨rfl,u.o.drew.drew⟩
   have OX:(c==92)=false:=by simp[Eb]
   have FI:Hid (Zy text f (i+1) (y++[text.data.getD i 0])=R):=by
    refine lh ?_;rw[<-Y.o];simp only[Zy];rw[Y3 Sy,Y3 Sy,Y3 Sy]
   have Ec:Hid ((Lib.byteCells y).length<1099511627776):=lh (by rw[bR.o];omega);have pQ:Hid (Lib.byteCells y++[.int .u8 c]=Lib.byteCells (y++[text.data.getD i 0])):=lh (by rw[Lib.byteCells,Lib.byteCells,Yl,hc];rfl);have aw:=F.symm;clear F hc gU Cx Eb;go_wp2_with fail
   refine Z7 [0,2,4,6,8,10,12,14,16,18,20,22,24,26,28,30,32,34,36] [19,20,21] (λW=>vC W sb 0 (.string text)/\vC W sb 1 (vI i)) ⟨q0,q1⟩ λ_=>?_;refine dS ?_
   iterate 19
    refine dq ?_
   refine Z1 ?_;go_wp2;refine Z7 [0,2,4,6,8,10,12,14] [8,9] (λW=>vC W sb 0 (.string text)/\vC W sb 1 (vI i)) ⟨q0,q1⟩ λ_=>?_;refine dS ?_
   iterate 8
    refine dq ?_
   refine Z1 ?_;go_wp2_with fail
   refine(Z7v _ _ _ _ _ _ c BI.o.drew.drew Ec.o).mono ?_;rintro e w3⟨rfl,v',I,bh⟩;have J:=SI.o.drew.drew.bfr BI.o.drew.drew U (Y0 _) bh;rw[pQ.o]at I;have r1:=J.c1;have rz:=J.fz 1;have B3:=lh I;have J:=lh J;clear I bh q0 q1 z1;go_wp2;go_roundw
   case rel=>exact⟨i+1,f,_,_,_,J.o.set' Qe,B3.o.set U _,FI.o,by omega,by omega,by simp;omega⟩
   case measure=>
    have e1:=(J.o.set' (b:=i+1) (x:=(i:Int)+1) Qe).c1;exact Zzr
  .have bq:(text.size:Int)<=i:=by omega
   have dI:text.size<=i:=Qe
   have m:R=([],3,i):=by rw[<-Y.o];simp[Zy,show text.size<=i by omega]
   have bD:=lh m;clear m;exact Abt
def Z6j{text:kB}{f i j k:Nat}{l:List Tok}{t:Tok}{R:Except (Int×Nat) (List Tok)}(h:sZ text (f+1) i l=R)(g:j=Zf Zt text (text.size-i) i)(m:j<text.size)
 (ht:j4 text j=.ok (t,k)):sZ text f k (l++[t])=R:=by
 rw[<-h];simp only[sZ];rw[<-g,Y3 Qe,ht]
def X'{text:kB}{f i j:Nat}{l:List Tok}{e:Int×Nat}{R:Except (Int×Nat) (List Tok)}(h:sZ text (f+1) i l=R)(g:j=Zf Zt text (text.size-i) i)(m:j<text.size)
 (ht:j4 text j=.error e):R=.error e:=by
 rw[<-h];simp only[sZ];rw[<-g,Y3 Qe,ht]
def Zpe{text:kB}{f i j:Nat}{l:List Tok}{R:Except (Int×Nat) (List Tok)}(h:sZ text (f+1) i l=R)(g:j=Zf Zt text (text.size-i) i)(m:text.size<=j):R=.ok (l++[⟨6,ByteArray.empty,0,j⟩]):=by
 rw[<-h];simp only[sZ];rw[<-g,Y5 m]
def Zfk(text:kB):∀(f i:Nat) (g:List UInt8),(Zy text f i g).2.1=0\/(Zy text f i g).2.1=3\/(Zy text f i g).2.1=4:=by
 intro f;induction f with
 |zero=>intro i g;simp[Zy]
 |succ f o=>
   intro i g;simp only[Zy];by_cases p:text.size<=i\/Z5 text i=10;·rw[Y5 p];simp
   rw[Y3 p];by_cases u:Z5 text i=39
   .rw[Y5 u];by_cases m:500<g.length;·rw[Y5 m];simp
    .rw[Y3 m];simp
   rw[Y3 u];by_cases m:Z5 text i=92
   .rw[Y5 m];by_cases y:i+1<text.size
    .rw[Y5 y];cases Va (Z5 text (i+1))with
     |none=>simp
     |some e=>exact o _ _
    .rw[Y3 y];simp
   .rw[Y3 m];exact o _ _
section
variable {text:kB}{j k:Nat}
def Zip(hl:uK (Z5 text j)=true)(hk:k=Zf wV text (text.size-j) j)(hw:Uk (text.extract j k)=true):j4 text j=.ok (⟨2,text.extract j k,0,j⟩,k):=by
 subst hk;unfold j4;rw[Y5 hl];simp only;rw[Y5 hw]
def Zk8(hl:uK (Z5 text j)=true)(hk:k=Zf wV text (text.size-j) j)(hw:Uk (text.extract j k)=false)(h:¬20<k-j):j4 text j=.ok (⟨1,text.extract j k,0,j⟩,k):=by
 subst hk;unfold j4;rw[Y5 hl];simp only;rw[Y3 (by simp[hw]),Y3 h]
def Zkj(hl:uK (Z5 text j)=true)(hk:k=Zf wV text (text.size-j) j)(hw:Uk (text.extract j k)=false)(h:20<k-j):j4 text j=.error (4,j):=by
 subst hk;unfold j4;rw[Y5 hl];simp only;rw[Y3 (by simp[hw]),Y5 h]
def Zme(hl:uK (Z5 text j)=false)(hd:mI (Z5 text j)=true)(hk:k=Zf mI text (text.size-j) j)(g:¬(10<k-j\/(1<k-j/\Z5 text j=48)))(m:¬1000000000<kY text k (k-j) j 0) :
 j4 text j=.ok (⟨3,ByteArray.empty,kY text k (k-j) j 0,j⟩,k):=by
 subst hk;unfold j4;rw[Y3 SD,Y5 hd];simp only;rw[Y3 g,Y3 m]
def Zcs(hl:uK (Z5 text j)=false)(hd:mI (Z5 text j)=true)(hk:k=Zf mI text (text.size-j) j)(g:10<k-j\/(1<k-j/\Z5 text j=48)):j4 text j=.error (3,j):=by
 subst hk;unfold j4;rw[Y3 SD,Y5 hd];simp only;rw[Y5 g]
def Zg8(hl:uK (Z5 text j)=false)(hd:mI (Z5 text j)=true)(hk:k=Zf mI text (text.size-j) j)(g:¬(10<k-j\/(1<k-j/\Z5 text j=48)))(m:1000000000<kY text k (k-j) j 0):j4 text j=.error (2,j):=by
 subst hk;unfold j4;rw[Y3 SD,Y5 hd];simp only;rw[Y3 g,Y5 m]
def Zlh{g:List UInt8}(hq:Z5 text j=39)(hr:CP text (j+1)=(g,0,k)):j4 text j=.ok (⟨4,⟨g.toArray⟩,0,j⟩,k):=by
 exact Zuq
def Ziw{g:List UInt8}(hq:Z5 text j=39)(hr:CP text (j+1)=(g,4,k)):j4 text j=.error (4,j):=by
 exact Zuq
def Zkc{g:List UInt8}(hq:Z5 text j=39)(hr:CP text (j+1)=(g,3,k)):j4 text j=.error (3,k):=by
 exact Zuq
def Zc4(hl:uK (Z5 text j)=false)(hd:mI (Z5 text j)=false)(hq:Z5 text j≠39)(hs:¬(Zp text j=1/\Uo (Z5 text j)=false)):j4 text j=.ok (⟨5,text.extract j (j+Zp text j),0,j⟩,j+Zp text j):=by
 unfold j4;rw[Y3 SD,Y3 (by simp[hd]),Y3 hq,Y3 hs]
def Zet(hl:uK (Z5 text j)=false)(hd:mI (Z5 text j)=false)(hq:Z5 text j≠39)(hs:Zp text j=1/\Uo (Z5 text j)=false):j4 text j=.error (3,j):=by
 unfold j4;rw[Y3 SD,Y3 (by simp[hd]),Y3 hq,Y5 hs]
def Zmk{n m:Nat}{N:Int}(h:m<n):kY text (j+n) (n-m) (j+m) N=kY text (j+n) (n-(m+1)) (j+m+1) (10*N+(Z5 text (j+m)-48)):=by
 obtain⟨g,o⟩:∃g,n-m=g+1:=⟨n-m-1,by omega⟩
 rw[o,show n-(m+1)=g by omega];simp only[kY];rw[Y5 Qe]
theorem Znp{n:Nat}{N:Int}:kY text (j+n) (n-n) (j+n) N=N:=by rw[Nat.sub_self];rfl
end
def YY(text:kB)(j:Nat)(u:UInt8)(p:List UInt8)(m:u≠0):(u::p).isPrefixOf (text.data.toList.drop j)=(decide (Z5 text j=u.toNat)&&p.isPrefixOf (text.data.toList.drop (j+1))):=by
 by_cases h:j<text.size
 .have g:j<text.data.toList.length:=by simpa using h
  rw[Yt g,List.isPrefixOf_cons_cons];congr 1
  have hb:Z5 text j=(text.data.toList[j].toNat:Int):=by
   have o:j<text.data.size:=h;unfold Z5 Array.getD;rw[dif_pos o];rfl
  rw[hb,Bool.eq_iff_iff];simp only[beq_iff_eq,decide_eq_true_eq];constructor;·intro e;rw[e]
  .intro e;exact(UInt8.toNat_inj.1 Qe).symm
 .have g:text.data.toList.length<=j:=by simpa using h
  rw[List.drop_eq_nil_of_le g,Z4c Qe];have:u.toNat≠0:=λe=>m (UInt8.toNat_inj.1 (by simpa using e));have y:¬(0:Int)=u.toNat:=Qe
  simp[y]
def sW:Nat->kB
 |0=>⟨#[61,61,61]⟩
 |1=>⟨#[38,38]⟩
 |_=>⟨#[124,124]⟩
def preB(text:kB)(j m:Nat):Bool:=(sW m).data.toList.isPrefixOf (text.data.toList.drop j)
def Bm(text:kB)(j:Nat):Nat->kB
 |0=>text.extract j (j+1)
 |m+1=>if preB text j m then sW m else Bm text j m
def AcN(text:kB)(j:Nat):preB text j 0=true↔Z5 text j=61/\Z5 text (j+1)=61/\Z5 text (j+2)=61:=by
 unfold preB;rw[show(sW 0).data.toList=[61,61,61]from rfl,YY _ _ _ _ Qg,YY _ _ _ _ Qg,YY _ _ _ _ Qg];simp
def AcB(text:kB)(j:Nat):preB text j 1=true↔Z5 text j=38/\Z5 text (j+1)=38:=by
 unfold preB;rw[show(sW 1).data.toList=[38,38]from rfl,YY _ _ _ _ Qg,YY _ _ _ _ Qg];simp
def AcD(text:kB)(j:Nat):preB text j 2=true↔Z5 text j=124/\Z5 text (j+1)=124:=by
 unfold preB;rw[show(sW 2).data.toList=[124,124]from rfl,YY _ _ _ _ Qg,YY _ _ _ _ Qg];simp
theorem ZH{text:kB}{i:Nat}{u:UInt8}(h:Z5 text i=u.toNat):text.data.getD i 0=u:=UInt8.toNat_inj.1 (by unfold Z5 at h;omega)
def Z6o(text:kB)(j n:Nat)(h:j+n<=text.size):text.extract j (j+n)=⟨((List.range n).map λi=>text.data.getD (j+i) 0).toArray⟩:=by
 apply ByteArray.ext;apply Array.ext
 .have :(text.extract j (j+n)).data.size=n:=by change(text.extract j (j+n)).size=n;rw[ByteArray.size_extract];omega
  rw[this];simp
 .intro i g o;have e:(text.extract j (j+n)).data.size=n:=by change(text.extract j (j+n)).size=n;rw[ByteArray.size_extract];omega
  have m:=getD_extract text (j:=j) (k:=j+n) (i:=i) Qe h;have h5:(text.extract j (j+n)).data.getD i 0=(text.extract j (j+n)).data[i]:=by simp only[Array.getD,dif_pos g];rfl
  rw[<-h5,m];simp
def Zv5(text:kB)(j:Nat)(h:j<text.size):Bm text j 3=text.extract j (j+Zp text j)/\(Bm text j 3).size=Zp text j/\j+Zp text j<=text.size:=by
 have y:∀n,j+n<=text.size->(text.extract j (j+n)).size=n:=λn hn=>by rw[ByteArray.size_extract];omega
 have F:=AcN text j;have I:=AcB text j;have J:=AcD text j;simp only[Bm];by_cases m:preB text j 2=true
 .have hb:=J.1 m;have hl:=Z5e (text:=text) (i:=j+1) Qe;have g:Zp text j=2:=by simp[Zp,hb]
  rw[Y5 m,g,Z6o text j 2 Qe];have b0:=ZH (u:=124) hb.1;have b1:=ZH (u:=124) hb.2;refine Zzg ?_;rfl
 ·rw [Y3 m];by_cases o : preB text j 1 = true
  .have hb:=I.1 o;have hl:=Z5e (text:=text) (i:=j+1) Qe;have g:Zp text j=2:=by simp[Zp,hb]
   rw[Y5 o,g,Z6o text j 2 Qe];have b0:=ZH (u:=38) hb.1;have b1:=ZH (u:=38) hb.2;refine Zzg ?_;rfl
  .rw[Y3 o];by_cases p:preB text j 0=true
   .have hb:=F.1 p;have hl:=Z5e (text:=text) (i:=j+2) Qe;have g:Zp text j=3:=by simp[Zp,hb]
    rw[Y5 p,g,Z6o text j 3 Qe];have b0:=ZH (u:=61) hb.1;have b1:=ZH (u:=61) hb.2.1;have b2:=ZH (u:=61) hb.2.2;refine⟨?_,rfl,by omega⟩;simp only[List.range_succ,List.range_zero,List.nil_append,List.map_append,List.map_cons,List.map_nil,Nat.add_zero,b0,b1,b2];rfl
   .rw[Y3 p];have g:Zp text j=1:=by
     unfold Zp;rw[Y3 (λx=>p (F.2 x)),Y3 (λx=>o (I.2 x)),Y3 (λx=>m (J.2 x))]
    rw[g];exact⟨rfl,y 1 Qe,by omega⟩
def Zph:List UInt8:=[40,41,123,125,91,93,59,58,44,46,61,43,45,42,60,33]
def Zgp(u:UInt8):decide (Lib.indexByte Zph u<0)=!Uo u.toNat:=by
 have g:∀n:Fin 256,decide (Lib.indexByte Zph (UInt8.ofNat n.val)<0)=!Uo ((UInt8.ofNat n.val).toNat:Int):=by decide+kernel
 have h:=g ⟨u.toNat,by have:=u.toNat_lt;omega⟩;simpa using h
end Go.Proofs.YtkjdnecemhilpaaGreatDoor
namespace Go.Proofs
def Tryz.lays99_ren:Go.Shelf.Ren:=⟨fun|99=>37|206=>70|n=>n,fun|9=>9|4=>4|3=>3|n=>n,fun|n=>n⟩
def Tryz.lays99:Go.Proofs.Lays.n99 Tryz.prog Tryz.lays99_ren:={
 mixed:=by kernel_rfl
 f99:=Tryz.func37.trans (congrArg some (by kernel_rfl))
 f206:=Tryz.func70.trans (congrArg some (by kernel_rfl))
 t3:=Tryz.underlying3
 a3:=Tryz.isAgg3
 z3:=Tryz.sizeOf3
 v3:=Tryz.zeroValue3
 t4:=Tryz.underlying4
 a4:=Tryz.isAgg4
 z4:=Tryz.sizeOf4
 v4:=Tryz.zeroValue4
 t9:=Tryz.underlying9
 a9:=Tryz.isAgg9
 z9:=Tryz.sizeOf9
 v9:=Tryz.zeroValue9}
open Go.RowKit Go.Lib in
theorem Tryz.strings_HasPrefix(s p:ByteArray)(w:World) :
 Calls Tryz.prog 37 #[.string s,.string p] w λe w'=>e=.returned (.bool (Lib.hasPrefix s.data.toList p.data.toList))/\w'=w:=Any.strings_HasPrefix Tryz.lays99 s p w
end Go.Proofs
