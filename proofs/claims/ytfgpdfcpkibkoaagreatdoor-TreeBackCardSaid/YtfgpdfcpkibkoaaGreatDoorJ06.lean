/- Package lex: quoted, walked. -/
import Derived.Test.YtfgpdfcpkibkoaaGreatDoorJ05
import Derived.Lib.Bytealg
import Derived.Shelf.Strings.Prefix
namespace Go.Proofs.YtfgpdfcpkibkoaaGreatDoor
open Go Go.RowKit
set_option maxRecDepth 100000
set_option maxHeartbeats 20000000
theorem Z56 (B:Nat) (w:World) (b:Nat) (p v:Value) (bs:List Value) (c:Int) (h:BAt B w b p v bs) (hn:bs.length < 1099511627776) :
 Calls Tryz.prog 11 #[.pointer (some ⟨b,0,none⟩),.int .u8 c] w fun e w'=>e=.returned .nilIface∧∃ v',BAt B w' b (.pointer (some ⟨b,0,none⟩)) v' (bs ++ [.int .u8 c])∧BFr w w' b v v':=by
 rcases h.ptr with rfl | rfl;·exact Z6i B w b v bs c h hn
 ·exact Z6s B w b v bs c h hn
theorem ScanAt.set' {w0 w:World} {sb a b:Nat} {text:ByteArray} {x:Int} (h:ScanAt w0 w sb text a) (hx:x=b):ScanAt w0 (w.setCell ⟨sb,1,none⟩ (.int .i64 x)) sb text b:=by
 subst hx; exact h.set b
theorem ScanAt.c1' {w0 w:World} {sb a:Nat} {text:ByteArray} {x:Int} (h:ScanAt w0 w sb text a) (hx:x=a):w.cell? ⟨sb,1,none⟩=some (.int .i64 x):=by
 subst hx; exact h.c1
theorem ScanAt.belowB {w0 w w':World} {B sb a:Nat} {text:ByteArray} (h:ScanAt w0 w sb text a) (hs:sb < B) (h0:w0.heap.size≤B) (hB:Below B w w'):ScanAt w0 w' sb text a:=
 ⟨(hB.block sb hs).trans h.blk,hB.os.trans h.os,hB.tape.trans h.tape,hB.output.trans h.output,Y4 h.size hB.size,fun k hk hn=>(hB.block k (Y7 hk h0)).trans (h.block k hk hn)⟩
theorem Zdo (c:Int) (u:UInt8) (hu:(u.toNat:Int)=c):(Z5w c=none∧Lib.indexByte [110,39,92] c.toNat.toUInt8=-1)∨(c=110∧Z5w c=some 10∧Lib.indexByte [110,39,92] c.toNat.toUInt8=0)∨(c=39∧Z5w c=some 39∧Lib.indexByte [110,39,92] c.toNat.toUInt8=1)∨(c=92∧Z5w c=some 92∧Lib.indexByte [110,39,92] c.toNat.toUInt8=2):=by
 subst hu;have hx:((u.toNat:Int)).toNat.toUInt8=u:=by simp
 rw [hx];by_cases h1:u=110;·subst h1; exact .inr (.inl ⟨rfl,rfl,rfl⟩)
 by_cases h2:u=39;·subst h2; exact .inr (.inr (.inl ⟨rfl,rfl,rfl⟩))
 by_cases h3:u=92;·subst h3; exact .inr (.inr (.inr ⟨rfl,rfl,rfl⟩))
 refine .inl ⟨?_,?_⟩
 ·have k1:¬ (u.toNat:Int)=110:=fun h=>h1 (UInt8.toNat_inj.1 (by simp; omega));have k2:¬ (u.toNat:Int)=39:=fun h=>h2 (UInt8.toNat_inj.1 (by simp; omega));have k3:¬ (u.toNat:Int)=92:=fun h=>h3 (UInt8.toNat_inj.1 (by simp; omega));unfold Z5w;rw [Y3 k1,Y3 k2,Y3 k3]
 ·have k1 : ((110 : UInt8) == u) = false := by simpa using fun h => h1 h.symm
  have k2:((39:UInt8) == u)=false:=by simpa using fun h=>h2 h.symm
  have k3:((92:UInt8) == u)=false:=by simpa using fun h=>h3 h.symm
  simp [Lib.indexByte,k1,k2,k3]
theorem Zbe (w:World) (sb a:Nat) (text:ByteArray) (h:w.heap[sb]?=some (.cells #[.string text,.int .i64 a] 67 (0,0))) (ha:a < text.size) (hm:text.size≤1000000) :
 Calls Tryz.prog 30 #[.pointer (some ⟨sb,0,none⟩)] w fun e w'=>e=.returned (.tuple #[.string ⟨(Z0t text (a + 1)).1.toArray⟩,.int .i64 (Z0t text (a + 1)).2.1,.int .i64 (Z0t text (a + 1)).2.2])∧ScanAt w w' sb text (Z0t text (a + 1)).2.2:=by
 obtain ⟨R,hR⟩:=zX (Z0t text (a + 1))
 rw [← hR];have HR:=lh hR;clear hR;have S0:=lh (ScanAt.refl h);have hsb:sb < w.heap.size:=(Y1.1 h).1;have B0:=lh (BAt.new w);have S1:=lh (S0.out.below (w':=w.alloc (.cells #[.pointer none,.slice none 0 0] 41)) ((Y2 _ _).alloc (Y0 _) _));have c0:=S1.out.c0;have c1:=S1.out.c1;have z1:=S1.out.fz 1;clear h;go_enter Tryz.func30,Tryz.ntmps30
 go_wp2;have S2:=lh ((S0.out.set (a + 1)).below (w':=(w.setCell ⟨sb,1,none⟩ (.int .i64 ((a:Int) + 1))).alloc (.cells #[.pointer none,.slice none 0 0] 41)) ((Y2 _ _).alloc (Y0 _) _));have hsz:(w.setCell ⟨sb,1,none⟩ (.int .i64 ((a:Int) + 1))).heap.size=w.heap.size:=Yf ..;have b2:=BAt.new (w.setCell ⟨sb,1,none⟩ (.int .i64 ((a:Int) + 1)));rw [hsz] at b2;have B2:=lh b2;clear b2 hsz;clear S1 B0 c0 c1 z1
 go_loopw [] (fun wr=>∃ (i f:Nat) (acc:List UInt8) (p v:Value),ScanAt w wr sb text i∧BAt w.heap.size wr w.heap.size p v (Lib.byteCells acc)∧Z04 text f i acc=R∧text.size + 1≤i + f∧i≤text.size∧acc.length≤i) (fun wr=>text.size + 1 - (intOf ((wr.cell? ⟨sb,1,none⟩).getD .nilIface)).toNat)
 case atStart=>exact ⟨a + 1,text.size + 1 - (a + 1),[],_,_,S2.out,B2.out,HR.out.symm,by omega,by omega,by simp⟩
 case round=>
  obtain ⟨i,f,acc,p,v,hS,hB,hq,hf,hi,hl⟩:=hrel;have q0:=hS.c0;have q1:=hS.c1;have z1:=hS.fz 1;have SI:=lh hS;have BI:=lh hB;have HQ:=lh hq;obtain ⟨f,rfl⟩:∃ g,f=g + 1:=⟨f - 1,by omega⟩
  clear hS hB hq S2 B2;by_cases hlt:i < text.size
  ·have hd : decide (text.size ≤ i) = false := by simp; omega
   have hby:=Z39 (text:=text) hlt;obtain ⟨c,hc⟩:=zX (Z6 text i)
   rw [← hc] at hby;by_cases e10:c=10
   ·subst e10;have hR : R = ([], 3, i) := by rw [← HQ.out]; simp [Z04, ← hc]
    have hb2:=hby.symm;have HR2:=lh hR;clear hby hR hc;go_wp2_with fail
    refine Z5 [(true,0),(true,1),(true,2),(true,3),(true,4),(true,5),(true,6),(true,7),(true,8),(true,9),(true,10),(true,11),(true,12),(true,13),(true,14),(true,15),(true,16),(true,17),(true,18)] [19,20,21] (fun W=>W.cell? ⟨sb,0,none⟩=some (.string text)∧W.cell? ⟨sb,1,none⟩=some (.int .i64 i)) (by kernel_rfl) (by kernel_rfl) (fun _ _ d _ _ h=>by cases d <;> exact h) ⟨q0,q1⟩ (fun hS0=>?_);simp only [Zk,zD,zE,zF,zG,zH,zI]
    iterate 19
     first
      | (refine Z7 ?_ (by rfl) (fun w' hS'=>?_) ?_; rotate_left; (obtain ⟨s0,s1⟩:=hS'; go_simp; first | done | with_reducible rfl); simp only [Act.put,zA,zB,zC])
      | (refine Z9 (by rfl) ?_; simp only [Act.put,zA,zB,zC])
    refine Zc ?_;go_wp2;refine Z5 [(true,0),(true,1),(true,2),(true,3),(true,4),(true,5)] [6] (fun W=>W.cell? ⟨sb,1,none⟩=some (.int .i64 i)) (by kernel_rfl) (by kernel_rfl) (fun _ _ d _ _ h=>by cases d <;> exact h) q1 (fun hS0=>?_);simp only [Zk,zD,zE,zF,zG,zH,zI]
    iterate 6
     first
      | (refine Z7 ?_ (by rfl) (fun w' hS'=>?_) ?_; rotate_left; (have s0:=hS'; go_simp; first | done | with_reducible rfl); simp only [Act.put,zA,zB,zC])
      | (refine Z9 (by rfl) ?_; simp only [Act.put,zA,zB,zC])
    refine Zc ?_;go_wp2;go_ret3
    rw [HR2.out];exact ⟨rfl,SI.out.drew.drew⟩
   have n10:(c == 10)=false:=by simp [e10]
   have hlen:(Lib.byteCells acc).length=acc.length:=by simp [Lib.byteCells]
   have HLN:=lh hlen;clear hlen;by_cases e39:c=39
   ·subst e39;have hR : R = if 500 < acc.length then ([], 4, i + 1) else (acc, 0, i + 1) := by rw [← HQ.out]; simp [Z04, ← hc]; omega
    have hb2:=hby.symm;have HR2:=lh hR;clear hby hR hc e10 n10;have z1:=SI.out.drew.drew.fz 1;go_wp2_with fail
    refine Z5 [(true,0),(true,1),(true,2),(true,3),(true,4),(true,5),(true,6),(true,7),(true,8),(true,9),(true,10),(true,11),(true,12),(true,13),(true,14),(true,15),(true,16),(true,17),(true,18)] [19,20,21] (fun W=>W.cell? ⟨sb,0,none⟩=some (.string text)∧W.cell? ⟨sb,1,none⟩=some (.int .i64 i)) (by kernel_rfl) (by kernel_rfl) (fun _ _ d _ _ h=>by cases d <;> exact h) ⟨q0,q1⟩ (fun hS0=>?_);simp only [Zk,zD,zE,zF,zG,zH,zI]
    iterate 19
     first
      | (refine Z7 ?_ (by rfl) (fun w' hS'=>?_) ?_; rotate_left; (obtain ⟨s0,s1⟩:=hS'; go_simp; first | done | with_reducible rfl); simp only [Act.put,zA,zB,zC])
      | (refine Z9 (by rfl) ?_; simp only [Act.put,zA,zB,zC])
    refine Zc ?_;go_wp2;refine Z5 [(true,0),(true,1),(true,2),(true,3),(true,4),(true,5),(true,6),(true,7)] [8,9] (fun W=>W.cell? ⟨sb,0,none⟩=some (.string text)∧W.cell? ⟨sb,1,none⟩=some (.int .i64 i)) (by kernel_rfl) (by kernel_rfl) (fun _ _ d _ _ h=>by cases d <;> exact h) ⟨q0,q1⟩ (fun hS0=>?_);simp only [Zk,zD,zE,zF,zG,zH,zI]
    iterate 8
     first
      | (refine Z7 ?_ (by rfl) (fun w' hS'=>?_) ?_; rotate_left; (obtain ⟨s0,s1⟩:=hS'; go_simp; first | done | with_reducible rfl); simp only [Act.put,zA,zB,zC])
      | (refine Z9 (by rfl) ?_; simp only [Act.put,zA,zB,zC])
    refine Zc ?_;go_wp2_with fail
    have SN:=(SI.out.set' (b:=i + 1) (x:=(i:Int) + 1) (by omega)).drew.drew;have BN:=(BI.out.set hsb (.int .i64 ((i:Int) + 1))).drew.drew;have HL:=Zgu BN;rw [HLN.out] at HL;have HL:=lh HL;have q1':=SN.c1' (x:=(i:Int) + 1) (by omega);have hlS:=SN.lt;have BN:=lh BN;have SN:=lh SN;refine HL.out.mono ?_;rintro e w1 ⟨rfl,hw⟩;rw [← hw] at BN SN q1' hlS;clear hw HL z1 q0 q1;by_cases h5:500 < acc.length
    ·go_wp2;refine Z5 [(true, 0), (true, 1), (true, 2), (true, 3), (true, 4), (true, 5)] [6] (fun W => W.cell? ⟨sb, 1, none⟩ = some (.int .i64 ((i : Int) + 1))) (by kernel_rfl) (by kernel_rfl) (fun _ _ d _ _ h => by cases d <;> exact h) q1' (fun hS0 => ?_);simp only [Zk, zD, zE, zF, zG, zH, zI]
     iterate 6
      first
       | (refine Z7 ?_ (by rfl) (fun w' hS'=>?_) ?_; rotate_left; (have s0:=hS'; go_simp; first | done | with_reducible rfl); simp only [Act.put,zA,zB,zC])
       | (refine Z9 (by rfl) ?_; simp only [Act.put,zA,zB,zC])
     refine Zc ?_;go_wp2;go_ret3
     rw [HR2.out,Y5 h5];exact ⟨rfl,SN.out.drew⟩
    ·go_wp2;refine Z5 [(true, 1), (true, 2), (true, 3), (true, 4), (false, 0), (true, 5), (true, 6)] [7] (fun W => W.cell? ⟨sb, 1, none⟩ = some (.int .i64 ((i : Int) + 1))) (by kernel_rfl) (by kernel_rfl) (fun _ _ d _ _ h => by cases d <;> exact h) q1' (fun hS0 => ?_);simp only [Zk, zD, zE, zF, zG, zH, zI]
     iterate 4
      first
       | (refine Z7 ?_ (by rfl) (fun w' hS'=>?_) ?_; rotate_left; (have s0:=hS'; go_simp; first | done | with_reducible rfl); simp only [Act.put,zA,zB,zC])
       | (refine Z9 (by rfl) ?_; simp only [Act.put,zA,zB,zC])
     refine Zd (fun K hK=>?_);go_simp
     refine (Zbh acc BN.out.drew (by have:=(Y1.1 BN.out.blk).1; simp; omega)).mono ?_;rintro e w2 ⟨rfl,hB⟩;have S2:=SN.out.drew.belowB hsb (Y0 _) hB;refine hK _ _ (S2.c1' (by omega)) ?_;have S2:=lh S2;clear hK K hB
     iterate 2
      first
       | (refine Z7 ?_ (by rfl) (fun w' hS'=>?_) ?_; rotate_left; (have s0:=hS'; go_simp; first | done | with_reducible rfl); simp only [Act.put,zA,zB,zC])
       | (refine Z9 (by rfl) ?_; simp only [Act.put,zA,zB,zC])
     refine Zc ?_;go_wp2;go_ret3
     rw [HR2.out,Y3 h5];exact ⟨rfl,S2.out⟩
   have n39:(c == 39)=false:=by simp [e39]
   by_cases e92:c=92
   ·subst e92;have hb2 := hby.symm;clear hby e10 n10 e39 n39;have HC := lh hc;clear hc;go_wp2_with fail
    refine Z5 [(true,0),(true,1),(true,2),(true,3),(true,4),(true,5),(true,6),(true,7),(true,8),(true,9),(true,10),(true,11),(true,12),(true,13),(true,14),(true,15),(true,16),(true,17),(true,18)] [19,20,21] (fun W=>W.cell? ⟨sb,0,none⟩=some (.string text)∧W.cell? ⟨sb,1,none⟩=some (.int .i64 i)) (by kernel_rfl) (by kernel_rfl) (fun _ _ d _ _ h=>by cases d <;> exact h) ⟨q0,q1⟩ (fun hS0=>?_);simp only [Zk,zD,zE,zF,zG,zH,zI]
    iterate 19
     first
      | (refine Z7 ?_ (by rfl) (fun w' hS'=>?_) ?_; rotate_left; (obtain ⟨s0,s1⟩:=hS'; go_simp; first | done | with_reducible rfl); simp only [Act.put,zA,zB,zC])
      | (refine Z9 (by rfl) ?_; simp only [Act.put,zA,zB,zC])
    refine Zc ?_;go_wp2;refine Z5 [(true,0),(true,1),(true,2),(true,3),(true,4),(true,5),(true,6),(true,7)] [8,9] (fun W=>W.cell? ⟨sb,0,none⟩=some (.string text)∧W.cell? ⟨sb,1,none⟩=some (.int .i64 i)) (by kernel_rfl) (by kernel_rfl) (fun _ _ d _ _ h=>by cases d <;> exact h) ⟨q0,q1⟩ (fun hS0=>?_);simp only [Zk,zD,zE,zF,zG,zH,zI]
    iterate 8
     first
      | (refine Z7 ?_ (by rfl) (fun w' hS'=>?_) ?_; rotate_left; (obtain ⟨s0,s1⟩:=hS'; go_simp; first | done | with_reducible rfl); simp only [Act.put,zA,zB,zC])
      | (refine Z9 (by rfl) ?_; simp only [Act.put,zA,zB,zC])
    refine Zc ?_;go_wp2_with fail
    have SN:=(SI.out.set' (b:=i + 1) (x:=(i:Int) + 1) (by omega)).drew.drew;have BN:=(BI.out.set hsb (.int .i64 ((i:Int) + 1))).drew.drew;obtain ⟨w1,hw⟩:=zX ((wr.setCell ⟨sb,1,none⟩ (.int .i64 ((i:Int) + 1))).drew.drew)
    rw [← hw] at BN SN ⊢;have p0:=SN.c0;have p1:=SN.c1' (x:=(i:Int) + 1) (by omega);have pz:=SN.fz 1;have BN:=lh BN;have SN:=lh SN;clear hw q0 q1 z1 hb2;by_cases h4:i + 1 < text.size
    ·have hby := Z39 (text := text) h4;have hd4 : decide ((i : Int) + 1 < text.size) = true := by simp; omega
     obtain ⟨k,hk⟩:∃ k,k=Lib.indexByte [110,39,92] ((text[i + 1].toNat:Int)).toNat.toUInt8:=⟨_,rfl⟩
     have hesc:=Zdo (Z6 text (i + 1)) text[i + 1] hby.symm;rw [hby,← hk] at hesc;have HX:Hid (∀ w,Calls Tryz.prog 31 #[.string ⟨#[110,39,92]⟩,.int .u8 (text[i + 1].toNat:Int)] w fun e w'=>e=.returned (.int .i64 k)∧w'=w):=
      lh fun w=>(Tryz.strings_IndexByte ⟨#[110,39,92]⟩ (text[i + 1].toNat:Int) w).mono fun e w' h=>⟨by rw [hk]; exact h.1,h.2⟩
     have HBY:=lh hby;have HE:=lh hesc;clear hby hesc hk;go_wp2_with fail
     refine Z5 [(true,0),(true,1),(true,2),(true,3),(true,4),(true,5),(true,6),(true,7),(true,8)] [9] (fun W=>W.cell? ⟨sb,0,none⟩=some (.string text)∧W.cell? ⟨sb,1,none⟩=some (.int .i64 ((i:Int) + 1))) (by kernel_rfl) (by kernel_rfl) (fun _ _ d _ _ h=>by cases d <;> exact h) ⟨p0,p1⟩ (fun hS0=>?_);simp only [Zk,zD,zE,zF,zG,zH,zI]
     iterate 9
      first
       | (refine Z7 ?_ (by rfl) (fun w' hS'=>?_) ?_; rotate_left; (obtain ⟨s0,s1⟩:=hS'; go_simp; first | done | with_reducible rfl); simp only [Act.put,zA,zB,zC])
       | (refine Z9 (by rfl) ?_; simp only [Act.put,zA,zB,zC])
     refine Zc ?_;go_wp2;refine Z5 [(true,0),(true,1),(true,2),(true,3),(true,4),(true,5),(true,6),(true,7)] [8,9,10] (fun W=>W.cell? ⟨sb,0,none⟩=some (.string text)∧W.cell? ⟨sb,1,none⟩=some (.int .i64 ((i:Int) + 1))) (by kernel_rfl) (by kernel_rfl) (fun _ _ d _ _ h=>by cases d <;> exact h) ⟨p0,p1⟩ (fun hS0=>?_);simp only [Zk,zD,zE,zF,zG,zH,zI]
     iterate 8
      first
       | (refine Z7 ?_ (by rfl) (fun w' hS'=>?_) ?_; rotate_left; (obtain ⟨s0,s1⟩:=hS'; go_simp; first | done | with_reducible rfl); simp only [Act.put,zA,zB,zC])
       | (refine Z9 (by rfl) ?_; simp only [Act.put,zA,zB,zC])
     refine Zc ?_;go_wp2_with fail
     refine (HX.out _).mono ?_;rintro e w2 ⟨rfl,hw⟩;have BN2:=BN.out.drew.drew;have SN2:=SN.out.drew.drew;rw [← hw] at BN2 SN2;have p1':=SN2.c1' (x:=(i:Int) + 1) (by omega);have pz':=SN2.fz 1;have BN2:=lh BN2;have SN2:=lh SN2;clear hw BN SN p0 p1 pz HX;have fin:∀ (x:UInt8),Hid (Z5w (text[i + 1].toNat:Int)=some x)→Z04 text f (i + 2) (acc ++ [x])=R:=by
      intro x hx;rw [← HQ.out];simp only [Z04];rw [Y3 (by rw [← HC.out]; omega),Y3 (by rw [← HC.out]; omega),Y5 HC.out.symm,Y5 h4,HBY.out,hx.out]
     have FIN:=lh fin;have HLb:Hid ((Lib.byteCells acc).length < 1099511627776):=lh (by rw [HLN.out]; omega);clear fin;rcases HE.out with ⟨he,rfl⟩ | ⟨_,he,rfl⟩ | ⟨_,he,rfl⟩ | ⟨_,he,rfl⟩
     ·have hR:R=([],3,i + 1):=by
       rw [← HQ.out];simp only [Z04];rw [Y3 (by rw [← HC.out]; omega),Y3 (by rw [← HC.out]; omega),Y5 HC.out.symm,Y5 h4,HBY.out,he]
      have HR2:=lh hR;clear hR he HE;go_wp2;refine Z5 [(true,0),(true,1),(true,2),(true,3),(true,4),(true,5)] [6] (fun W=>W.cell? ⟨sb,1,none⟩=some (.int .i64 ((i:Int) + 1))) (by kernel_rfl) (by kernel_rfl) (fun _ _ d _ _ h=>by cases d <;> exact h) p1' (fun hS0=>?_);simp only [Zk,zD,zE,zF,zG,zH,zI]
      iterate 6
       first
        | (refine Z7 ?_ (by rfl) (fun w' hS'=>?_) ?_; rotate_left; (have s0:=hS'; go_simp; first | done | with_reducible rfl); simp only [Act.put,zA,zB,zC])
        | (refine Z9 (by rfl) ?_; simp only [Act.put,zA,zB,zC])
      refine Zc ?_;go_wp2;go_ret3
      rw [HR2.out];exact ⟨rfl,SN2.out.drew⟩
     all_goals
      have FI:=lh (FIN.out _ (lh he));clear he HE FIN;go_wp2_with fail
      refine (Z56 _ _ _ _ _ _ _ BN2.out HLb.out).mono ?_;rintro e w3 ⟨rfl,v',hB3,hF3⟩;have S3:=SN2.out.bfr BN2.out hsb (Y0 _) hF3;have r1:=S3.c1' (x:=(i:Int) + 1) (by omega);have rz:=S3.fz 1;have B3:=lh hB3;have S3:=lh S3;clear hB3 hF3 p1' pz';go_wp2;go_roundw
      case rel=>exact ⟨i + 2,f,_,_,_,S3.out.set' (by omega),(by rw [Lib.byteCells,List.map_append]; exact B3.out.set hsb _),FI.out,by omega,by omega,by simp; omega⟩
      case measure=>
       have e1:=(S3.out.set' (b:=i + 2) (x:=(i:Int) + 1 + 1) (by omega)).c1;have e2:=SI.out.c1;rw [e1,e2];simp [intOf];omega
    ·have hd4 : decide ((i : Int) + 1 < text.size) = false := by simp; omega
     have hR:R=([],3,i + 1):=by
      rw [← HQ.out];simp only [Z04];rw [Y3 (by rw [← HC.out]; omega),Y3 (by rw [← HC.out]; omega),Y5 HC.out.symm,Y3 h4]
     have HR2:=lh hR;clear hR;go_wp2_with fail
     refine Z5 [(true,0),(true,1),(true,2),(true,3),(true,4),(true,5),(true,6),(true,7),(true,8)] [9] (fun W=>W.cell? ⟨sb,0,none⟩=some (.string text)∧W.cell? ⟨sb,1,none⟩=some (.int .i64 ((i:Int) + 1))) (by kernel_rfl) (by kernel_rfl) (fun _ _ d _ _ h=>by cases d <;> exact h) ⟨p0,p1⟩ (fun hS0=>?_);simp only [Zk,zD,zE,zF,zG,zH,zI]
     iterate 9
      first
       | (refine Z7 ?_ (by rfl) (fun w' hS'=>?_) ?_; rotate_left; (obtain ⟨s0,s1⟩:=hS'; go_simp; first | done | with_reducible rfl); simp only [Act.put,zA,zB,zC])
       | (refine Z9 (by rfl) ?_; simp only [Act.put,zA,zB,zC])
     refine Zc ?_;go_wp2;refine Z5 [(true,0),(true,1),(true,2),(true,3),(true,4),(true,5)] [6] (fun W=>W.cell? ⟨sb,1,none⟩=some (.int .i64 ((i:Int) + 1))) (by kernel_rfl) (by kernel_rfl) (fun _ _ d _ _ h=>by cases d <;> exact h) p1 (fun hS0=>?_);simp only [Zk,zD,zE,zF,zG,zH,zI]
     iterate 6
      first
       | (refine Z7 ?_ (by rfl) (fun w' hS'=>?_) ?_; rotate_left; (have s0:=hS'; go_simp; first | done | with_reducible rfl); simp only [Act.put,zA,zB,zC])
       | (refine Z9 (by rfl) ?_; simp only [Act.put,zA,zB,zC])
     refine Zc ?_;go_wp2;go_ret3
     rw [HR2.out];exact ⟨rfl,SN.out.drew.drew⟩
   have n92:(c == 92)=false:=by simp [e92]
   have FI:Hid (Z04 text f (i + 1) (acc ++ [text.data.getD i 0])=R):=by
    refine lh ?_;rw [← HQ.out];simp only [Z04];rw [Y3 (by rw [← hc]; omega),Y3 (by rw [← hc]; omega),Y3 (by rw [← hc]; omega)]
   have HLb:Hid ((Lib.byteCells acc).length < 1099511627776):=lh (by rw [HLN.out]; omega);have HCB:Hid (Lib.byteCells acc ++ [.int .u8 c]=Lib.byteCells (acc ++ [text.data.getD i 0])):=lh (by rw [Lib.byteCells,Lib.byteCells,List.map_append,hc]; rfl);have hb2:=hby.symm;clear hby hc e10 e39 e92;go_wp2_with fail
   refine Z5 [(true,0),(true,1),(true,2),(true,3),(true,4),(true,5),(true,6),(true,7),(true,8),(true,9),(true,10),(true,11),(true,12),(true,13),(true,14),(true,15),(true,16),(true,17),(true,18)] [19,20,21] (fun W=>W.cell? ⟨sb,0,none⟩=some (.string text)∧W.cell? ⟨sb,1,none⟩=some (.int .i64 i)) (by kernel_rfl) (by kernel_rfl) (fun _ _ d _ _ h=>by cases d <;> exact h) ⟨q0,q1⟩ (fun hS0=>?_);simp only [Zk,zD,zE,zF,zG,zH,zI]
   iterate 19
    first
     | (refine Z7 ?_ (by rfl) (fun w' hS'=>?_) ?_; rotate_left; (obtain ⟨s0,s1⟩:=hS'; go_simp; first | done | with_reducible rfl); simp only [Act.put,zA,zB,zC])
     | (refine Z9 (by rfl) ?_; simp only [Act.put,zA,zB,zC])
   refine Zc ?_;go_wp2;refine Z5 [(true,0),(true,1),(true,2),(true,3),(true,4),(true,5),(true,6),(true,7)] [8,9] (fun W=>W.cell? ⟨sb,0,none⟩=some (.string text)∧W.cell? ⟨sb,1,none⟩=some (.int .i64 i)) (by kernel_rfl) (by kernel_rfl) (fun _ _ d _ _ h=>by cases d <;> exact h) ⟨q0,q1⟩ (fun hS0=>?_);simp only [Zk,zD,zE,zF,zG,zH,zI]
   iterate 8
    first
     | (refine Z7 ?_ (by rfl) (fun w' hS'=>?_) ?_; rotate_left; (obtain ⟨s0,s1⟩:=hS'; go_simp; first | done | with_reducible rfl); simp only [Act.put,zA,zB,zC])
     | (refine Z9 (by rfl) ?_; simp only [Act.put,zA,zB,zC])
   refine Zc ?_;go_wp2_with fail
   refine (Z56 _ _ _ _ _ _ c BI.out.drew.drew HLb.out).mono ?_;rintro e w3 ⟨rfl,v',hB3,hF3⟩;have S3:=SI.out.drew.drew.bfr BI.out.drew.drew hsb (Y0 _) hF3;rw [HCB.out] at hB3;have r1:=S3.c1;have rz:=S3.fz 1;have B3:=lh hB3;have S3:=lh S3;clear hB3 hF3 q0 q1 z1;go_wp2;go_roundw
   case rel=>exact ⟨i + 1,f,_,_,_,S3.out.set' (by omega),B3.out.set hsb _,FI.out,by omega,by omega,by simp; omega⟩
   case measure=>
    have e1:=(S3.out.set' (b:=i + 1) (x:=(i:Int) + 1) (by omega)).c1;have e2:=SI.out.c1;rw [e1,e2];simp [intOf];omega
  ·have hge : (text.size : Int) ≤ i := by omega
   have hge2:text.size≤i:=by omega
   have hR:R=([],3,i):=by rw [← HQ.out]; simp [Z04,show text.size≤i by omega]
   have HR2:=lh hR;clear hR;go_wp2_with fail
   refine Z5 [(true,0),(true,1),(true,2),(true,3),(true,4),(true,5),(true,6),(true,7),(true,8),(true,9),(true,10),(true,11),(true,12),(true,13),(true,14),(true,15),(true,16),(true,17),(true,18)] [19,20,21] (fun W=>W.cell? ⟨sb,0,none⟩=some (.string text)∧W.cell? ⟨sb,1,none⟩=some (.int .i64 i)) (by kernel_rfl) (by kernel_rfl) (fun _ _ d _ _ h=>by cases d <;> exact h) ⟨q0,q1⟩ (fun hS0=>?_);simp only [Zk,zD,zE,zF,zG,zH,zI]
   iterate 19
    first
     | (refine Z7 ?_ (by rfl) (fun w' hS'=>?_) ?_; rotate_left; (obtain ⟨s0,s1⟩:=hS'; go_simp; first | done | with_reducible rfl); simp only [Act.put,zA,zB,zC])
     | (refine Z9 (by rfl) ?_; simp only [Act.put,zA,zB,zC])
   refine Zc ?_;go_wp2;refine Z5 [(true,0),(true,1),(true,2),(true,3),(true,4),(true,5)] [6] (fun W=>W.cell? ⟨sb,1,none⟩=some (.int .i64 i)) (by kernel_rfl) (by kernel_rfl) (fun _ _ d _ _ h=>by cases d <;> exact h) q1 (fun hS0=>?_);simp only [Zk,zD,zE,zF,zG,zH,zI]
   iterate 6
    first
     | (refine Z7 ?_ (by rfl) (fun w' hS'=>?_) ?_; rotate_left; (have s0:=hS'; go_simp; first | done | with_reducible rfl); simp only [Act.put,zA,zB,zC])
     | (refine Z9 (by rfl) ?_; simp only [Act.put,zA,zB,zC])
   refine Zc ?_;go_wp2;go_ret3
   rw [HR2.out];exact ⟨rfl,SI.out.drew.drew⟩
end Go.Proofs.YtfgpdfcpkibkoaaGreatDoor
namespace Go.Proofs.YtfgpdfcpkibkoaaGreatDoor
open Go Go.RowKit
set_option maxRecDepth 100000
set_option maxHeartbeats 20000000
theorem Z3b {text:ByteArray} {f i j k:Nat} {l:List Tok} {t:Tok} {R:Except (Int×Nat) (List Tok)} (h:lexF text (f + 1) i l=R) (hj:j=Zn Z07 text (text.size - i) i) (hlt:j < text.size)
 (ht:Z0k text j=.ok (t,k)):lexF text f k (l ++ [t])=R:=by
 rw [← h];simp only [lexF];rw [← hj,Y3 (by omega),ht]
theorem Z3h {text:ByteArray} {f i j:Nat} {l:List Tok} {e:Int×Nat} {R:Except (Int×Nat) (List Tok)} (h:lexF text (f + 1) i l=R) (hj:j=Zn Z07 text (text.size - i) i) (hlt:j < text.size)
 (ht:Z0k text j=.error e):R=.error e:=by
 rw [← h];simp only [lexF];rw [← hj,Y3 (by omega),ht]
theorem Zfx {text:ByteArray} {f i j:Nat} {l:List Tok} {R:Except (Int×Nat) (List Tok)} (h:lexF text (f + 1) i l=R) (hj:j=Zn Z07 text (text.size - i) i) (hlt:text.size≤j):R=.ok (l ++ [⟨6,ByteArray.empty,0,j⟩]):=by
 rw [← h];simp only [lexF];rw [← hj,Y5 hlt]
theorem Z87 (text:ByteArray):∀ (f i:Nat) (acc:List UInt8),(Z04 text f i acc).2.1=0∨(Z04 text f i acc).2.1=3∨(Z04 text f i acc).2.1=4:=by
 intro f;induction f with
 | zero=>intro i acc; simp [Z04]
 | succ f ih =>
   intro i acc;simp only [Z04];by_cases h1:text.size≤i∨Z6 text i=10;·rw [Y5 h1]; simp
   rw [Y3 h1];by_cases h2:Z6 text i=39
   ·rw [Y5 h2];by_cases h3 : 500 < acc.length;·rw [Y5 h3]; simp
    ·rw [Y3 h3]; simp
   rw [Y3 h2];by_cases h3:Z6 text i=92
   ·rw [Y5 h3];by_cases h4 : i + 1 < text.size
    ·rw [Y5 h4];cases Z5w (Z6 text (i + 1)) with
     | none=>simp
     | some e=>exact ih _ _
    ·rw [Y3 h4]; simp
   ·rw [Y3 h3]; exact ih _ _
section
variable {text:ByteArray} {j k:Nat}
theorem Zbl (hl:Z0e (Z6 text j)=true) (hk:k=Zn Z1g text (text.size - j) j) (hw:Z27 (text.extract j k)=true):Z0k text j=.ok (⟨2,text.extract j k,0,j⟩,k):=by
 subst hk; unfold Z0k; rw [Y5 hl]; simp only; rw [Y5 hw]
theorem Zbn (hl:Z0e (Z6 text j)=true) (hk:k=Zn Z1g text (text.size - j) j) (hw:Z27 (text.extract j k)=false) (h:¬ 20 < k - j):Z0k text j=.ok (⟨1,text.extract j k,0,j⟩,k):=by
 subst hk; unfold Z0k; rw [Y5 hl]; simp only; rw [Y3 (by simp [hw]),Y3 h]
theorem Zbz (hl:Z0e (Z6 text j)=true) (hk:k=Zn Z1g text (text.size - j) j) (hw:Z27 (text.extract j k)=false) (h:20 < k - j):Z0k text j=.error (4,j):=by
 subst hk; unfold Z0k; rw [Y5 hl]; simp only; rw [Y3 (by simp [hw]),Y5 h]
theorem Zde (hl:Z0e (Z6 text j)=false) (hd:Z08 (Z6 text j)=true) (hk:k=Zn Z08 text (text.size - j) j) (h1:¬ (10 < k - j∨(1 < k - j∧Z6 text j=48))) (h2:¬ 1000000000 < numF text k (k - j) j 0) :
 Z0k text j=.ok (⟨3,ByteArray.empty,numF text k (k - j) j 0,j⟩,k):=by
 subst hk; unfold Z0k; rw [Y3 (by simp [hl]),Y5 hd]; simp only; rw [Y3 h1,Y3 h2]
theorem Z7d (hl:Z0e (Z6 text j)=false) (hd:Z08 (Z6 text j)=true) (hk:k=Zn Z08 text (text.size - j) j) (h1:10 < k - j∨(1 < k - j∧Z6 text j=48)):Z0k text j=.error (3,j):=by
 subst hk; unfold Z0k; rw [Y3 (by simp [hl]),Y5 hd]; simp only; rw [Y5 h1]
theorem Zad (hl:Z0e (Z6 text j)=false) (hd:Z08 (Z6 text j)=true) (hk:k=Zn Z08 text (text.size - j) j) (h1:¬ (10 < k - j∨(1 < k - j∧Z6 text j=48))) (h2:1000000000 < numF text k (k - j) j 0):Z0k text j=.error (2,j):=by
 subst hk; unfold Z0k; rw [Y3 (by simp [hl]),Y5 hd]; simp only; rw [Y3 h1,Y5 h2]
theorem Zdn {bs:List UInt8} (hq:Z6 text j=39) (hr:Z0t text (j + 1)=(bs,0,k)):Z0k text j=.ok (⟨4,⟨bs.toArray⟩,0,j⟩,k):=by
 unfold Z0k; rw [Y3 (by rw [hq]; decide),Y3 (by rw [hq]; decide),Y5 hq,hr]; simp
theorem Zby {bs:List UInt8} (hq:Z6 text j=39) (hr:Z0t text (j + 1)=(bs,4,k)):Z0k text j=.error (4,j):=by
 unfold Z0k; rw [Y3 (by rw [hq]; decide),Y3 (by rw [hq]; decide),Y5 hq,hr]; simp
theorem Zbc {bs:List UInt8} (hq:Z6 text j=39) (hr:Z0t text (j + 1)=(bs,3,k)):Z0k text j=.error (3,k):=by
 unfold Z0k; rw [Y3 (by rw [hq]; decide),Y3 (by rw [hq]; decide),Y5 hq,hr]; simp
theorem Z75 (hl:Z0e (Z6 text j)=false) (hd:Z08 (Z6 text j)=false) (hq:Z6 text j≠39) (hs:¬ (Z00 text j=1∧Z3u (Z6 text j)=false)):Z0k text j=.ok (⟨5,text.extract j (j + Z00 text j),0,j⟩,j + Z00 text j):=by
 unfold Z0k; rw [Y3 (by simp [hl]),Y3 (by simp [hd]),Y3 hq,Y3 hs]
theorem Z93 (hl:Z0e (Z6 text j)=false) (hd:Z08 (Z6 text j)=false) (hq:Z6 text j≠39) (hs:Z00 text j=1∧Z3u (Z6 text j)=false):Z0k text j=.error (3,j):=by
 unfold Z0k; rw [Y3 (by simp [hl]),Y3 (by simp [hd]),Y3 hq,Y5 hs]
theorem Zce {n m:Nat} {N:Int} (h:m < n):numF text (j + n) (n - m) (j + m) N=numF text (j + n) (n - (m + 1)) (j + m + 1) (10 * N + (Z6 text (j + m) - 48)):=by
 obtain ⟨g,hg⟩:∃ g,n - m=g + 1:=⟨n - m - 1,by omega⟩
 rw [hg,show n - (m + 1)=g by omega];simp only [numF];rw [Y5 (by omega)]
theorem Zdu {n:Nat} {N:Int}:numF text (j + n) (n - n) (j + n) N=N:=by rw [Nat.sub_self]; rfl
end
theorem Z3i (text:ByteArray) (j:Nat) (u:UInt8) (p:List UInt8) (hu:u≠0):(u :: p).isPrefixOf (text.data.toList.drop j)=(decide (Z6 text j=u.toNat) && p.isPrefixOf (text.data.toList.drop (j + 1))):=by
 by_cases h:j < text.size
 ·have h' : j < text.data.toList.length := by simpa using h
  rw [List.drop_eq_getElem_cons h',List.isPrefixOf_cons_cons];congr 1
  have hb:Z6 text j=(text.data.toList[j].toNat:Int):=by
   have h2:j < text.data.size:=h;unfold Z6 Array.getD;rw [dif_pos h2];rfl
  rw [hb,Bool.eq_iff_iff];simp only [beq_iff_eq,decide_eq_true_eq];constructor;·intro e; rw [e]
  ·intro e; exact (UInt8.toNat_inj.1 (by omega)).symm
 ·have h' : text.data.toList.length ≤ j := by simpa using h
  rw [List.drop_eq_nil_of_le h',Z2s (by omega)];have:u.toNat≠0:=fun e=>hu (UInt8.toNat_inj.1 (by simpa using e));have h3:¬ (0:Int)=u.toNat:=by omega
  simp [h3]
def lit3:Nat→ByteArray
 | 0=>⟨#[61,61,61]⟩
 | 1=>⟨#[38,38]⟩
 | _=>⟨#[124,124]⟩
def preB (text:ByteArray) (j m:Nat):Bool:=(lit3 m).data.toList.isPrefixOf (text.data.toList.drop j)
def Z2q (text:ByteArray) (j:Nat):Nat→ByteArray
 | 0=>text.extract j (j + 1)
 | m + 1=>if preB text j m then lit3 m else Z2q text j m
theorem pre0 (text:ByteArray) (j:Nat):preB text j 0=true↔Z6 text j=61∧Z6 text (j + 1)=61∧Z6 text (j + 2)=61:=by
 unfold preB;rw [show (lit3 0).data.toList=[61,61,61] from rfl,Z3i _ _ _ _ (by decide),Z3i _ _ _ _ (by decide),Z3i _ _ _ _ (by decide)];simp
theorem pre1 (text:ByteArray) (j:Nat):preB text j 1=true↔Z6 text j=38∧Z6 text (j + 1)=38:=by
 unfold preB;rw [show (lit3 1).data.toList=[38,38] from rfl,Z3i _ _ _ _ (by decide),Z3i _ _ _ _ (by decide)];simp
theorem pre2 (text:ByteArray) (j:Nat):preB text j 2=true↔Z6 text j=124∧Z6 text (j + 1)=124:=by
 unfold preB;rw [show (lit3 2).data.toList=[124,124] from rfl,Z3i _ _ _ _ (by decide),Z3i _ _ _ _ (by decide)];simp
theorem Z2y {text:ByteArray} {i:Nat} {u:UInt8} (h:Z6 text i=u.toNat):text.data.getD i 0=u:=UInt8.toNat_inj.1 (by unfold Z6 at h; omega)
theorem Z3w (text:ByteArray) (j n:Nat) (h:j + n≤text.size):text.extract j (j + n)=⟨((List.range n).map fun i=>text.data.getD (j + i) 0).toArray⟩:=by
 apply ByteArray.ext;apply Array.ext
 ·have : (text.extract j (j + n)).data.size = n := by change (text.extract j (j + n)).size = n; rw [ByteArray.size_extract]; omega
  rw [this]; simp
 ·intro i h1 h2;have e : (text.extract j (j + n)).data.size = n := by change (text.extract j (j + n)).size = n; rw [ByteArray.size_extract]; omega
  have h3:=getD_extract text (j:=j) (k:=j + n) (i:=i) (by omega) h;have h5:(text.extract j (j + n)).data.getD i 0=(text.extract j (j + n)).data[i]:=by simp only [Array.getD,dif_pos h1]; rfl
  rw [← h5,h3];simp
theorem Zh3 (text:ByteArray) (j:Nat) (h:j < text.size):Z2q text j 3=text.extract j (j + Z00 text j)∧(Z2q text j 3).size=Z00 text j∧j + Z00 text j≤text.size:=by
 have key:∀ n,j + n≤text.size→(text.extract j (j + n)).size=n:=fun n hn=>by rw [ByteArray.size_extract]; omega
 have e0:=pre0 text j;have e1:=pre1 text j;have e2:=pre2 text j;simp only [Z2q];by_cases h2:preB text j 2=true
 ·have hb := e2.1 h2;have hl := Z2v (text := text) (i := j + 1) (by omega);have es : Z00 text j = 2 := by simp [Z00, hb]
  rw [Y5 h2,es,Z3w text j 2 (by omega)];have b0:=Z2y (u:=124) hb.1;have b1:=Z2y (u:=124) hb.2;refine ⟨?_,rfl,by omega⟩;simp only [List.range_succ,List.range_zero,List.nil_append,List.map_append,List.map_cons,List.map_nil,Nat.add_zero,b0,b1];rfl
 ·rw [Y3 h2];by_cases h1 : preB text j 1 = true
  ·have hb := e1.1 h1;have hl := Z2v (text := text) (i := j + 1) (by omega);have es : Z00 text j = 2 := by simp [Z00, hb]
   rw [Y5 h1,es,Z3w text j 2 (by omega)];have b0:=Z2y (u:=38) hb.1;have b1:=Z2y (u:=38) hb.2;refine ⟨?_,rfl,by omega⟩;simp only [List.range_succ,List.range_zero,List.nil_append,List.map_append,List.map_cons,List.map_nil,Nat.add_zero,b0,b1];rfl
  ·rw [Y3 h1];by_cases h0 : preB text j 0 = true
   ·have hb := e0.1 h0;have hl := Z2v (text := text) (i := j + 2) (by omega);have es : Z00 text j = 3 := by simp [Z00, hb]
    rw [Y5 h0,es,Z3w text j 3 (by omega)];have b0:=Z2y (u:=61) hb.1;have b1:=Z2y (u:=61) hb.2.1;have b2:=Z2y (u:=61) hb.2.2;refine ⟨?_,rfl,by omega⟩;simp only [List.range_succ,List.range_zero,List.nil_append,List.map_append,List.map_cons,List.map_nil,Nat.add_zero,b0,b1,b2];rfl
   ·rw [Y3 h0];have es:Z00 text j=1:=by
     unfold Z00;rw [Y3 (fun x=>h0 (e0.2 x)),Y3 (fun x=>h1 (e1.2 x)),Y3 (fun x=>h2 (e2.2 x))]
    rw [es];exact ⟨rfl,key 1 (by omega),by omega⟩
def Zer:List UInt8:=[40,41,123,125,91,93,59,58,44,46,61,43,45,42,60,33]
theorem Z9o (u:UInt8):decide (Lib.indexByte Zer u < 0)=!Z3u u.toNat:=by
 have key:∀ n:Fin 256,decide (Lib.indexByte Zer (UInt8.ofNat n.val) < 0)=!Z3u ((UInt8.ofNat n.val).toNat:Int):=by decide +kernel
 have h:=key ⟨u.toNat,by have:=u.toNat_lt; omega⟩;simpa using h
end Go.Proofs.YtfgpdfcpkibkoaaGreatDoor
namespace Go.Proofs
def Tryz.lays99_ren:Go.Shelf.Ren:=⟨fun | 99=>22 | 206=>44 | n=>n,fun | 9=>9 | 4=>4 | 3=>3 | n=>n,fun | n=>n⟩
theorem Tryz.lays99:Go.Proofs.Lays.n99 Tryz.prog Tryz.lays99_ren:={
 mixed:=by kernel_rfl
 f99:=Tryz.func22.trans (congrArg some (by kernel_rfl))
 f206:=Tryz.func44.trans (congrArg some (by kernel_rfl))
 t3:=Tryz.underlying3
 a3:=Tryz.isAgg3
 z3:=Tryz.sizeOf3
 v3:=Tryz.zeroValue3
 t4:=Tryz.underlying4
 a4:=Tryz.isAgg4
 z4:=Tryz.sizeOf4
 v4:=Tryz.zeroValue4
 t9:=Tryz.underlying9
 a9:=Tryz.isAgg9
 z9:=Tryz.sizeOf9
 v9:=Tryz.zeroValue9 }
open Go.RowKit Go.Lib in
theorem Tryz.strings_HasPrefix (s p:ByteArray) (w:World) :
 Calls Tryz.prog 22 #[.string s,.string p] w fun e w'=>e=.returned (.bool (Lib.hasPrefix s.data.toList p.data.toList))∧w'=w:=Any.strings_HasPrefix Tryz.lays99 s p w
end Go.Proofs
