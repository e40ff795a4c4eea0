/- Package lex: quoted, walked. -/
import Derived.Test.YtjikfacdcdiddaaGreatDoorJ05
import Derived.Lib.Bytealg
import Derived.Shelf.Strings.Prefix
set_option maxRecDepth 100000
set_option maxHeartbeats 20000000
namespace Go.Proofs.YtjikfacdcdiddaaGreatDoor
open Go Go.RowKit
theorem Z7y(B:Nat)(w:World)(b:Nat)(p v:Value)(g:List Value)(c:Int)(h:BAt B w b p v g)(hn:g.length<1099511627776) :
 Calls Tryz.prog 91 #[vP b,.int .u8 c] w λe w'=>e=.returned .nilIface∧∃m,BAt B w' b (vP b) m (g++[.int .u8 c])∧BFr w w' b v m:=by
 rcases h.ptr with rfl|rfl;·exact Z9u B w b v g c h hn
 .exact Zay B w b v g c h hn
theorem ScanAt.set'{w0 w:World}{sb a b:Nat}{text:ByteArray}{x:Int}(h:ScanAt w0 w sb text a)(hx:x=b):ScanAt w0 (w.setCell ⟨sb,1,none⟩ (vI x)) sb text b:=by
 subst hx;exact h.set b
theorem ScanAt.c1'{w0 w:World}{sb a:Nat}{text:ByteArray}{x:Int}(h:ScanAt w0 w sb text a)(hx:x=a):vC w sb 1 (vI x):=by
 subst hx;exact h.c1
theorem ScanAt.belowB{w0 w w':World}{B sb a:Nat}{text:ByteArray}(h:ScanAt w0 w sb text a)(hs:sb<B)(m:w0.heap.size<=B)(g:Below B w w'):ScanAt w0 w' sb text a:=
 ⟨(g.block sb hs).trans h.blk,g.os.trans h.os,g.tape.trans h.tape,g.output.trans h.output,Y4 h.size g.size,λk hk hn=>(g.block k (Y7 hk m)).trans (h.block k hk hn)⟩
theorem Zlf(c:Int)(u:UInt8)(F:(u.toNat:Int)=c):(Tm c=none∧Lib.indexByte [110,39,92] c.toNat.toUInt8=-1)∨(c=110∧Tm c=some 10∧Lib.indexByte [110,39,92] c.toNat.toUInt8=0)∨(c=39∧Tm c=some 39∧Lib.indexByte [110,39,92] c.toNat.toUInt8=1)∨(c=92∧Tm c=some 92∧Lib.indexByte [110,39,92] c.toNat.toUInt8=2):=by
 subst F;have hx:((u.toNat:Int)).toNat.toUInt8=u:=Pg
 rw[hx];by_cases g:u=110;·subst g;exact .inr (.inl ⟨rfl,rfl,rfl⟩)
 by_cases m:u=39;·subst m;exact .inr (.inr (.inl ⟨rfl,rfl,rfl⟩))
 by_cases o:u=92;·subst o;exact .inr (.inr (.inr ⟨rfl,rfl,rfl⟩))
 refine .inl ⟨?_,?_⟩
 .have p:¬(u.toNat:Int)=110:=λh=>g (UInt8.toNat_inj.1 Pe);have y:¬(u.toNat:Int)=39:=λh=>m (UInt8.toNat_inj.1 Pe);have E:¬(u.toNat:Int)=92:=λh=>o (UInt8.toNat_inj.1 Pe);unfold Tm;rw[Y3 p,Y3 y,Y3 E]
 .have p:((110:UInt8)==u)=false:=by simpa using λh=>g h.symm
  have y:((39:UInt8)==u)=false:=by simpa using λh=>m h.symm
  have E:((92:UInt8)==u)=false:=by simpa using λh=>o h.symm
  simp[Lib.indexByte,p,y,E]
theorem Zja(w:World)(sb a:Nat)(text:ByteArray)(h:w.heap[sb]?=some (.cells #[.string text,vI a] 137 (0,0)))(ha:a<text.size)(hm:text.size<=1000000) :
 Calls Tryz.prog 59 #[vP sb] w λe w'=>e=.returned (.tuple #[.string ⟨(GF text (a+1)).1.toArray⟩,(vI (GF text (a+1)).2.1),(vI (GF text (a+1)).2.2)])∧ScanAt w w' sb text (GF text (a+1)).2.2:=by
 obtain⟨R,m⟩:=zX (GF text (a+1))
 rw[<-m];have HR:=lh m;clear m;have S0:=lh (ScanAt.refl h);have J:sb<w.heap.size:=(Y1.1 h).1;have B0:=lh (BAt.new w);have S1:=lh (S0.o.below (w':=w.alloc (.cells #[.pointer none,.slice none 0 0] 186)) ((Y2 _ _).alloc (Y0 _) _));have c0:=S1.o.c0;have c1:=S1.o.c1;have Y:=S1.o.fz 1;clear h;go_enter Tryz.func59,Tryz.ntmps59
 go_wp2;have O:=lh ((S0.o.set (a+1)).below (w':=(w.setCell ⟨sb,1,none⟩ (vI ((a:Int)+1))).alloc (.cells #[.pointer none,.slice none 0 0] 186)) ((Y2 _ _).alloc (Y0 _) _));have be:(w.setCell ⟨sb,1,none⟩ (vI ((a:Int)+1))).heap.size=w.heap.size:=Yf ..;have b2:=BAt.new (w.setCell ⟨sb,1,none⟩ (vI ((a:Int)+1)));rw[be]at b2;have B2:=lh b2;clear b2 be;clear S1 B0 c0 c1 Y
 go_loopw [] (λwr=>∃(i f:Nat) (y:List UInt8) (p v:Value),ScanAt w wr sb text i∧BAt w.heap.size wr w.heap.size p v (Lib.byteCells y)∧tM text f i y=R∧text.size+1<=i+f∧i<=text.size∧y.length<=i) (λwr=>text.size+1-(intOf ((wr.cell? ⟨sb,1,none⟩).getD .nilIface)).toNat)
 case atStart=>exact⟨a+1,text.size+1-(a+1),[],_,_,O.o,B2.o,HR.o.symm,by omega,by omega,by simp⟩
 case round=>
  obtain⟨i,f,y,p,v,hS,hB,hq,hf,hi,hl⟩:=hrel;have q0:=hS.c0;have q1:=hS.c1;have Y:=hS.fz 1;have SI:=lh hS;have BI:=lh hB;have U:=lh hq;obtain⟨f,rfl⟩:∃g,f=g+1:=⟨f-1,by omega⟩
  clear hS hB hq O B2;by_cases aA:i<text.size
  .have hd:decide (text.size<=i)=false:=by simp;omega
   have E:=ZC (text:=text) aA;obtain⟨c,hc⟩:=zX (Z5 text i)
   rw[<-hc]at E;by_cases ia:c=10
   .subst ia;have m:R=([],3,i):=by rw[<-U.o];simp[tM,<-hc]
    have ax:=E.symm;have bD:=lh m;clear E m hc;exact WX
   have DB:(c==10)=false:=by simp[ia]
   have aH:(Lib.byteCells y).length=y.length:=by simp[Lib.byteCells]
   have bQ:=lh aH;clear aH;by_cases BU:c=39
   .subst BU;have m:R=if 500<y.length then([],4,i+1)else(y,0,i+1):=by rw[<-U.o];simp[tM,<-hc];omega
    have ax:=E.symm;have bD:=lh m;clear E m hc ia DB;have Y:=SI.o.drew.drew.fz 1;go_wp2_with fail
    refine Z8 [0,2,4,6,8,10,12,14,16,18,20,22,24,26,28,30,32,34,36] [19,20,21] (λW=>vC W sb 0 (.string text)∧vC W sb 1 (vI i)) ⟨q0,q1⟩ λ_=>?_;refine dW ?_
    iterate 19
     refine dV ?_
    refine Z0 ?_;go_wp2;refine Z8 [0,2,4,6,8,10,12,14] [8,9] (λW=>vC W sb 0 (.string text)∧vC W sb 1 (vI i)) ⟨q0,q1⟩ λ_=>?_;refine dW ?_
    iterate 8
     refine dV ?_
    refine Z0 ?_;go_wp2_with fail
    have u:=(SI.o.set' (b:=i+1) (x:=(i:Int)+1) O').drew.drew;have I:=(BI.o.set J (vI ((i:Int)+1))).drew.drew;have HL:=Zqu I;rw[bQ.o]at HL;have HL:=lh HL;have jw:=u.c1' (x:=(i:Int)+1) O';have K8:=u.lt;have I:=lh I;have u:=lh u;refine HL.o.mono ?_;rintro e w1⟨rfl,hw⟩;rw[<-hw]at I u jw K8;clear hw HL Y q0 q1;by_cases h5:500<y.length
    .go_wp2;refine Z8 [0,2,4,6,8,10] [6] (λW=>W.cell? ⟨sb,1,none⟩=some (vI ((i:Int)+1))) jw λ_=>?_;refine dW ?_
     iterate 6
      refine dV ?_
     refine Z0 ?_;go_wp2;go_ret3
     rw[bD.o,Y5 h5];exact⟨rfl,u.o.drew⟩
    .go_wp2;refine Z8 [2,4,6,8,1,10,12] [7] (λW=>W.cell? ⟨sb,1,none⟩=some (vI ((i:Int)+1))) jw λ_=>?_;refine dW ?_
     iterate 4
      refine dV ?_
     refine Z6 (λK hK=>?_);go_simp
     refine(Zhq y I.o.drew (by have:=(Y1.1 I.o.blk).1;simp;omega)).mono ?_;rintro e w2⟨rfl,hB⟩;have O:=u.o.drew.belowB J (Y0 _) hB;refine hK _ _ (O.c1' O') ?_;have O:=lh O;clear hK K hB
     iterate 2
      refine dV ?_
     refine Z0 ?_;go_wp2;go_ret3
     rw[bD.o,Y3 h5];exact⟨rfl,O.o⟩
   have Hd:(c==39)=false:=by simp[BU]
   by_cases DC:c=92
   .subst DC;have ax:=E.symm;clear E ia DB BU Hd;have HC:=lh hc;clear hc;go_wp2_with fail
    refine Z8 [0,2,4,6,8,10,12,14,16,18,20,22,24,26,28,30,32,34,36] [19,20,21] (λW=>vC W sb 0 (.string text)∧vC W sb 1 (vI i)) ⟨q0,q1⟩ λ_=>?_;refine dW ?_
    iterate 19
     refine dV ?_
    refine Z0 ?_;go_wp2;refine Z8 [0,2,4,6,8,10,12,14] [8,9] (λW=>vC W sb 0 (.string text)∧vC W sb 1 (vI i)) ⟨q0,q1⟩ λ_=>?_;refine dW ?_
    iterate 8
     refine dV ?_
    refine Z0 ?_;go_wp2_with fail
    have u:=(SI.o.set' (b:=i+1) (x:=(i:Int)+1) O').drew.drew;have I:=(BI.o.set J (vI ((i:Int)+1))).drew.drew;obtain⟨w1,hw⟩:=zX ((wr.setCell ⟨sb,1,none⟩ (vI ((i:Int)+1))).drew.drew)
    rw[<-hw]at I u ⊢;have p0:=u.c0;have p1:=u.c1' (x:=(i:Int)+1) O';have pz:=u.fz 1;have I:=lh I;have u:=lh u;clear hw q0 q1 Y ax;by_cases h4:i+1<text.size
    .have E:=ZC (text:=text) h4;have K9:decide ((i:Int)+1<text.size)=true:=by simp;omega
     obtain⟨k,hk⟩:∃k,k=Lib.indexByte [110,39,92] ((text[i+1].toNat:Int)).toNat.toUInt8:=⟨_,rfl⟩
     have uX:=Zlf (Z5 text (i+1)) text[i+1] E.symm;rw[E,<-hk]at uX;have HX:Hid (∀w,Calls Tryz.prog 61 #[.string ⟨#[110,39,92]⟩,.int .u8 (text[i+1].toNat:Int)] w λe w'=>e=.returned (vI k)∧w'=w):=
      lh λw=>(Tryz.strings_IndexByte ⟨#[110,39,92]⟩ (text[i+1].toNat:Int) w).mono λe w' h=>⟨by rw[hk];exact h.1,h.2⟩
     have He:=lh E;have HE:=lh uX;clear E uX hk;go_wp2_with fail
     refine Z8 [0,2,4,6,8,10,12,14,16] [9] (λW=>vC W sb 0 (.string text)∧W.cell? ⟨sb,1,none⟩=some (vI ((i:Int)+1))) ⟨p0,p1⟩ λ_=>?_;refine dW ?_
     iterate 9
      refine dV ?_
     refine Z0 ?_;go_wp2;refine Z8 [0,2,4,6,8,10,12,14] [8,9,10] (λW=>vC W sb 0 (.string text)∧W.cell? ⟨sb,1,none⟩=some (vI ((i:Int)+1))) ⟨p0,p1⟩ λ_=>?_;refine dW ?_
     iterate 8
      refine dV ?_
     refine Z0 ?_;go_wp2_with fail
     refine(HX.o _).mono ?_;rintro e w2⟨rfl,hw⟩;have yU:=I.o.drew.drew;have X:=u.o.drew.drew;rw[<-hw]at yU X;have od:=X.c1' (x:=(i:Int)+1) O';have La:=X.fz 1;have yU:=lh yU;have X:=lh X;clear hw I u p0 p1 pz HX;have fin:∀(x:UInt8),Hid (Tm (text[i+1].toNat:Int)=some x)->tM text f (i+2) (y++[x])=R:=by
      intro x hx;rw[<-U.o];simp only[tM];rw[Y3 PM,Y3 PM,Y5 HC.o.symm,Y5 h4,He.o,hx.o]
     have ca:=lh fin;have DD:Hid ((Lib.byteCells y).length<1099511627776):=lh (by rw[bQ.o];omega);clear fin;rcases HE.o with⟨he,rfl⟩|⟨_,he,rfl⟩|⟨_,he,rfl⟩|⟨_,he,rfl⟩
     .have m:R=([],3,i+1):=by
       rw[<-U.o];simp only[tM];rw[Y3 PM,Y3 PM,Y5 HC.o.symm,Y5 h4,He.o,he]
      have bD:=lh m;clear m he HE;go_wp2;refine Z8 [0,2,4,6,8,10] [6] (λW=>W.cell? ⟨sb,1,none⟩=some (vI ((i:Int)+1))) od λ_=>?_;refine dW ?_
      iterate 6
       refine dV ?_
      refine Z0 ?_;go_wp2;go_ret3
      rw[bD.o];exact⟨rfl,X.o.drew⟩
     all_goals
      have FI:=lh (ca.o _ (lh he));clear he HE ca;go_wp2_with fail
      refine(Z7y _ _ _ _ _ _ _ yU.o DD.o).mono ?_;rintro e w3⟨rfl,v',Z,bq⟩;have F:=X.o.bfr yU.o J (Y0 _) bq;have r1:=F.c1' (x:=(i:Int)+1) O';have rz:=F.fz 1;have B3:=lh Z;have F:=lh F;clear Z bq od La;go_wp2;go_roundw
      case rel=>exact⟨i+2,f,_,_,_,F.o.set' O',(by rw[Lib.byteCells,Yl];exact B3.o.set J _),FI.o,by omega,by omega,by simp;omega⟩
      case measure=>
       have e1:=(F.o.set' (b:=i+2) (x:=(i:Int)+1+1) O').c1;have e2:=SI.o.c1;rw[e1,e2];simp[intOf];omega
    .have K9:decide ((i:Int)+1<text.size)=false:=by simp;omega
     have m:R=([],3,i+1):=by
      rw[<-U.o];simp only[tM];rw[Y3 PM,Y3 PM,Y5 HC.o.symm,Y3 h4]
     have bD:=lh m;clear m;go_wp2_with fail
     refine Z8 [0,2,4,6,8,10,12,14,16] [9] (λW=>vC W sb 0 (.string text)∧W.cell? ⟨sb,1,none⟩=some (vI ((i:Int)+1))) ⟨p0,p1⟩ λ_=>?_;refine dW ?_
     iterate 9
      refine dV ?_
     refine Z0 ?_;go_wp2;refine Z8 [0,2,4,6,8,10] [6] (λW=>W.cell? ⟨sb,1,none⟩=some (vI ((i:Int)+1))) p1 λ_=>?_;refine dW ?_
     iterate 6
      refine dV ?_
     refine Z0 ?_;go_wp2;go_ret3
     rw[bD.o];exact⟨rfl,u.o.drew.drew⟩
   have NZ:(c==92)=false:=by simp[DC]
   have FI:Hid (tM text f (i+1) (y++[text.data.getD i 0])=R):=by
    refine lh ?_;rw[<-U.o];simp only[tM];rw[Y3 Ru,Y3 Ru,Y3 Ru]
   have DD:Hid ((Lib.byteCells y).length<1099511627776):=lh (by rw[bQ.o];omega);have pI:Hid (Lib.byteCells y++[.int .u8 c]=Lib.byteCells (y++[text.data.getD i 0])):=lh (by rw[Lib.byteCells,Lib.byteCells,Yl,hc];rfl);have ax:=E.symm;clear E hc ia BU DC;go_wp2_with fail
   refine Z8 [0,2,4,6,8,10,12,14,16,18,20,22,24,26,28,30,32,34,36] [19,20,21] (λW=>vC W sb 0 (.string text)∧vC W sb 1 (vI i)) ⟨q0,q1⟩ λ_=>?_;refine dW ?_
   iterate 19
    refine dV ?_
   refine Z0 ?_;go_wp2;refine Z8 [0,2,4,6,8,10,12,14] [8,9] (λW=>vC W sb 0 (.string text)∧vC W sb 1 (vI i)) ⟨q0,q1⟩ λ_=>?_;refine dW ?_
   iterate 8
    refine dV ?_
   refine Z0 ?_;go_wp2_with fail
   refine(Z7y _ _ _ _ _ _ c BI.o.drew.drew DD.o).mono ?_;rintro e w3⟨rfl,v',Z,bq⟩;have F:=SI.o.drew.drew.bfr BI.o.drew.drew J (Y0 _) bq;rw[pI.o]at Z;have r1:=F.c1;have rz:=F.fz 1;have B3:=lh Z;have F:=lh F;clear Z bq q0 q1 Y;go_wp2;go_roundw
   case rel=>exact⟨i+1,f,_,_,_,F.o.set' O',B3.o.set J _,FI.o,by omega,by omega,by simp;omega⟩
   case measure=>
    have e1:=(F.o.set' (b:=i+1) (x:=(i:Int)+1) O').c1;have e2:=SI.o.c1;rw[e1,e2];simp[intOf];omega
  .have cr:(text.size:Int)<=i:=by omega
   have dN:text.size<=i:=O'
   have m:R=([],3,i):=by rw[<-U.o];simp[tM,show text.size<=i by omega]
   have bD:=lh m;clear m;exact WX
theorem Z62{text:ByteArray}{f i j k:Nat}{l:List Tok}{t:Tok}{R:Except (Int×Nat) (List Tok)}(h:vZ text (f+1) i l=R)(g:j=Zk uu text (text.size-i) i)(m:j<text.size)
 (ht:kV text j=.ok (t,k)):vZ text f k (l++[t])=R:=by
 rw[<-h];simp only[vZ];rw[<-g,Y3 O',ht]
theorem Wc{text:ByteArray}{f i j:Nat}{l:List Tok}{e:Int×Nat}{R:Except (Int×Nat) (List Tok)}(h:vZ text (f+1) i l=R)(g:j=Zk uu text (text.size-i) i)(m:j<text.size)
 (ht:kV text j=.error e):R=.error e:=by
 rw[<-h];simp only[vZ];rw[<-g,Y3 O',ht]
theorem Znt{text:ByteArray}{f i j:Nat}{l:List Tok}{R:Except (Int×Nat) (List Tok)}(h:vZ text (f+1) i l=R)(g:j=Zk uu text (text.size-i) i)(m:text.size<=j):R=.ok (l++[⟨6,ByteArray.empty,0,j⟩]):=by
 rw[<-h];simp only[vZ];rw[<-g,Y5 m]
theorem Zda(text:ByteArray):∀(f i:Nat) (g:List UInt8),(tM text f i g).2.1=0∨(tM text f i g).2.1=3∨(tM text f i g).2.1=4:=by
 intro f;induction f with
 |zero=>intro i g;simp[tM]
 | succ f o =>
   intro i g;simp only[tM];by_cases p:text.size<=i∨Z5 text i=10;·rw[Y5 p];simp
   rw[Y3 p];by_cases u:Z5 text i=39
   .rw[Y5 u];by_cases m:500<g.length;·rw[Y5 m];simp
    .rw[Y3 m];simp
   rw[Y3 u];by_cases m:Z5 text i=92
   .rw[Y5 m];by_cases y:i+1<text.size
    .rw[Y5 y];cases Tm (Z5 text (i+1))with
     |none=>simp
     |some e=>exact o _ _
    .rw[Y3 y];simp
   .rw[Y3 m];exact o _ _
section
variable {text:ByteArray}{j k:Nat}
theorem Zim(hl:vT (Z5 text j)=true)(hk:k=Zk zb text (text.size-j) j)(g:Sq (text.extract j k)=true):kV text j=.ok (⟨2,text.extract j k,0,j⟩,k):=by
 subst hk;unfold kV;rw[Y5 hl];simp only;rw[Y5 g]
theorem Zhw(hl:vT (Z5 text j)=true)(hk:k=Zk zb text (text.size-j) j)(g:Sq (text.extract j k)=false)(h:¬20<k-j):kV text j=.ok (⟨1,text.extract j k,0,j⟩,k):=by
 subst hk;unfold kV;rw[Y5 hl];simp only;rw[Y3 (by simp[g]),Y3 h]
theorem Ziw(hl:vT (Z5 text j)=true)(hk:k=Zk zb text (text.size-j) j)(g:Sq (text.extract j k)=false)(h:20<k-j):kV text j=.error (4,j):=by
 subst hk;unfold kV;rw[Y5 hl];simp only;rw[Y3 (by simp[g]),Y5 h]
theorem Zkg(hl:vT (Z5 text j)=false)(hd:oG (Z5 text j)=true)(hk:k=Zk oG text (text.size-j) j)(g:¬(10<k-j∨(1<k-j∧Z5 text j=48)))(m:¬1000000000<mE text k (k-j) j 0) :
 kV text j=.ok (⟨3,ByteArray.empty,mE text k (k-j) j 0,j⟩,k):=by
 subst hk;unfold kV;rw[Y3 Rx,Y5 hd];simp only;rw[Y3 g,Y3 m]
theorem Zbs(hl:vT (Z5 text j)=false)(hd:oG (Z5 text j)=true)(hk:k=Zk oG text (text.size-j) j)(g:10<k-j∨(1<k-j∧Z5 text j=48)):kV text j=.error (3,j):=by
 subst hk;unfold kV;rw[Y3 Rx,Y5 hd];simp only;rw[Y5 g]
theorem Zfo(hl:vT (Z5 text j)=false)(hd:oG (Z5 text j)=true)(hk:k=Zk oG text (text.size-j) j)(g:¬(10<k-j∨(1<k-j∧Z5 text j=48)))(m:1000000000<mE text k (k-j) j 0):kV text j=.error (2,j):=by
 subst hk;unfold kV;rw[Y3 Rx,Y5 hd];simp only;rw[Y3 g,Y5 m]
theorem Zkl{g:List UInt8}(hq:Z5 text j=39)(hr:GF text (j+1)=(g,0,k)):kV text j=.ok (⟨4,⟨g.toArray⟩,0,j⟩,k):=by
 exact Zs2
theorem Zhb{g:List UInt8}(hq:Z5 text j=39)(hr:GF text (j+1)=(g,4,k)):kV text j=.error (4,j):=by
 exact Zs2
theorem Ziv{g:List UInt8}(hq:Z5 text j=39)(hr:GF text (j+1)=(g,3,k)):kV text j=.error (3,k):=by
 exact Zs2
theorem Zbx(hl:vT (Z5 text j)=false)(hd:oG (Z5 text j)=false)(hq:Z5 text j≠39)(hs:¬(Zs text j=1∧SS (Z5 text j)=false)):kV text j=.ok (⟨5,text.extract j (j+Zs text j),0,j⟩,j+Zs text j):=by
 unfold kV;rw[Y3 Rx,Y3 (by simp[hd]),Y3 hq,Y3 hs]
theorem Zdu(hl:vT (Z5 text j)=false)(hd:oG (Z5 text j)=false)(hq:Z5 text j≠39)(hs:Zs text j=1∧SS (Z5 text j)=false):kV text j=.error (3,j):=by
 unfold kV;rw[Y3 Rx,Y3 (by simp[hd]),Y3 hq,Y5 hs]
theorem Zjm{n m:Nat}{N:Int}(h:m<n):mE text (j+n) (n-m) (j+m) N=mE text (j+n) (n-(m+1)) (j+m+1) (10*N+(Z5 text (j+m)-48)):=by
 obtain⟨g,o⟩:∃g,n-m=g+1:=⟨n-m-1,by omega⟩
 rw[o,show n-(m+1)=g by omega];simp only[mE];rw[Y5 O']
theorem Zmb{n:Nat}{N:Int}:mE text (j+n) (n-n) (j+n) N=N:=by rw[Nat.sub_self];rfl
end
theorem V1(text:ByteArray)(j:Nat)(u:UInt8)(p:List UInt8)(m:u≠0):(u::p).isPrefixOf (text.data.toList.drop j)=(decide (Z5 text j=u.toNat)&&p.isPrefixOf (text.data.toList.drop (j+1))):=by
 by_cases h:j<text.size
 .have g:j<text.data.toList.length:=by simpa using h
  rw[List.drop_eq_getElem_cons g,List.isPrefixOf_cons_cons];congr 1
  have hb:Z5 text j=(text.data.toList[j].toNat:Int):=by
   have o:j<text.data.size:=h;unfold Z5 Array.getD;rw[dif_pos o];rfl
  rw[hb,Bool.eq_iff_iff];simp only[beq_iff_eq,decide_eq_true_eq];constructor;·intro e;rw[e]
  .intro e;exact(UInt8.toNat_inj.1 O').symm
 .have g:text.data.toList.length<=j:=by simpa using h
  rw[List.drop_eq_nil_of_le g,Z8a O'];have:u.toNat≠0:=λe=>m (UInt8.toNat_inj.1 (by simpa using e));have y:¬(0:Int)=u.toNat:=O'
  simp[y]
def rD:Nat->ByteArray
 |0=>⟨#[61,61,61]⟩
 |1=>⟨#[38,38]⟩
 |_=>⟨#[124,124]⟩
def preB(text:ByteArray)(j m:Nat):Bool:=(rD m).data.toList.isPrefixOf (text.data.toList.drop j)
def zd(text:ByteArray)(j:Nat):Nat->ByteArray
 |0=>text.extract j (j+1)
 |m+1=>if preB text j m then rD m else zd text j m
theorem Aap(text:ByteArray)(j:Nat):preB text j 0=true↔Z5 text j=61∧Z5 text (j+1)=61∧Z5 text (j+2)=61:=by
 unfold preB;rw[show(rD 0).data.toList=[61,61,61]from rfl,V1 _ _ _ _ Pa,V1 _ _ _ _ Pa,V1 _ _ _ _ Pa];simp
theorem Aas(text:ByteArray)(j:Nat):preB text j 1=true↔Z5 text j=38∧Z5 text (j+1)=38:=by
 unfold preB;rw[show(rD 1).data.toList=[38,38]from rfl,V1 _ _ _ _ Pa,V1 _ _ _ _ Pa];simp
theorem Aav(text:ByteArray)(j:Nat):preB text j 2=true↔Z5 text j=124∧Z5 text (j+1)=124:=by
 unfold preB;rw[show(rD 2).data.toList=[124,124]from rfl,V1 _ _ _ _ Pa,V1 _ _ _ _ Pa];simp
theorem U7{text:ByteArray}{i:Nat}{u:UInt8}(h:Z5 text i=u.toNat):text.data.getD i 0=u:=UInt8.toNat_inj.1 (by unfold Z5 at h;omega)
theorem Z68(text:ByteArray)(j n:Nat)(h:j+n<=text.size):text.extract j (j+n)=⟨((List.range n).map λi=>text.data.getD (j+i) 0).toArray⟩:=by
 apply ByteArray.ext;apply Array.ext
 .have :(text.extract j (j+n)).data.size=n:=by change(text.extract j (j+n)).size=n;rw[ByteArray.size_extract];omega
  rw[this];simp
 .intro i g o;have e:(text.extract j (j+n)).data.size=n:=by change(text.extract j (j+n)).size=n;rw[ByteArray.size_extract];omega
  have m:=getD_extract text (j:=j) (k:=j+n) (i:=i) O' h;have h5:(text.extract j (j+n)).data.getD i 0=(text.extract j (j+n)).data[i]:=by simp only[Array.getD,dif_pos g];rfl
  rw[<-h5,m];simp
theorem Zru(text:ByteArray)(j:Nat)(h:j<text.size):zd text j 3=text.extract j (j+Zs text j)∧(zd text j 3).size=Zs text j∧j+Zs text j<=text.size:=by
 have E:∀n,j+n<=text.size->(text.extract j (j+n)).size=n:=λn hn=>by rw[ByteArray.size_extract];omega
 have F:=Aap text j;have I:=Aas text j;have J:=Aav text j;simp only[zd];by_cases o:preB text j 2=true
 .have hb:=J.1 o;have hl:=WL (text:=text) (i:=j+1) O';have g:Zs text j=2:=by simp[Zs,hb]
  rw[Y5 o,g,Z68 text j 2 O'];have m:=U7 (u:=124) hb.1;have b1:=U7 (u:=124) hb.2;refine⟨?_,rfl,by omega⟩;simp only[List.range_succ,List.range_zero,List.nil_append,List.map_append,List.map_cons,List.map_nil,Nat.add_zero,m,b1];rfl
 ·rw [Y3 o];by_cases p : preB text j 1 = true
  .have hb:=I.1 p;have hl:=WL (text:=text) (i:=j+1) O';have g:Zs text j=2:=by simp[Zs,hb]
   rw[Y5 p,g,Z68 text j 2 O'];have m:=U7 (u:=38) hb.1;have b1:=U7 (u:=38) hb.2;refine⟨?_,rfl,by omega⟩;simp only[List.range_succ,List.range_zero,List.nil_append,List.map_append,List.map_cons,List.map_nil,Nat.add_zero,m,b1];rfl
  .rw[Y3 p];by_cases y:preB text j 0=true
   .have hb:=F.1 y;have hl:=WL (text:=text) (i:=j+2) O';have g:Zs text j=3:=by simp[Zs,hb]
    rw[Y5 y,g,Z68 text j 3 O'];have m:=U7 (u:=61) hb.1;have b1:=U7 (u:=61) hb.2.1;have b2:=U7 (u:=61) hb.2.2;refine⟨?_,rfl,by omega⟩;simp only[List.range_succ,List.range_zero,List.nil_append,List.map_append,List.map_cons,List.map_nil,Nat.add_zero,m,b1,b2];rfl
   .rw[Y3 y];have g:Zs text j=1:=by
     unfold Zs;rw[Y3 (λx=>y (F.2 x)),Y3 (λx=>p (I.2 x)),Y3 (λx=>o (J.2 x))]
    rw[g];exact⟨rfl,E 1 O',by omega⟩
def Zop:List UInt8:=[40,41,123,125,91,93,59,58,44,46,61,43,45,42,60,33]
theorem Zf4(u:UInt8):decide (Lib.indexByte Zop u<0)=!SS u.toNat:=by
 have g:∀n:Fin 256,decide (Lib.indexByte Zop (UInt8.ofNat n.val)<0)=!SS ((UInt8.ofNat n.val).toNat:Int):=by decide+kernel
 have h:=g ⟨u.toNat,by have:=u.toNat_lt;omega⟩;simpa using h
end Go.Proofs.YtjikfacdcdiddaaGreatDoor
namespace Go.Proofs
def Tryz.lays99_ren:Go.Shelf.Ren:=⟨fun|99=>60|206=>92|n=>n,fun|9=>9|4=>4|3=>3|n=>n,fun|n=>n⟩
theorem Tryz.lays99:Go.Proofs.Lays.n99 Tryz.prog Tryz.lays99_ren:={
 mixed:=by kernel_rfl
 f99:=Tryz.func60.trans (congrArg some (by kernel_rfl))
 f206:=Tryz.func92.trans (congrArg some (by kernel_rfl))
 t3:=Tryz.underlying3
 a3:=Tryz.isAgg3
 z3:=Tryz.sizeOf3
 v3:=Tryz.zeroValue3
 t4:=Tryz.underlying4
 a4:=Tryz.isAgg4
 z4:=Tryz.sizeOf4
 v4:=Tryz.zeroValue4
 t9:=Tryz.underlying9
 a9:=Tryz.isAgg9
 z9:=Tryz.sizeOf9
 v9:=Tryz.zeroValue9}
open Go.RowKit Go.Lib in
theorem Tryz.strings_HasPrefix(s p:ByteArray)(w:World) :
 Calls Tryz.prog 60 #[.string s,.string p] w λe w'=>e=.returned (.bool (Lib.hasPrefix s.data.toList p.data.toList))∧w'=w:=Any.strings_HasPrefix Tryz.lays99 s p w
end Go.Proofs
