/- Package tree, plain: a program's text is well spaced. -/
import Derived.Test.YtjcgkdfeplbajaaGreatDoorJ04
import Derived.Shelf.Small.Strs
import Derived.Lib.Bytealg
import Derived.Shelf.Strings.Prefix
namespace Go.Proofs.YtjcgkdfeplbajaaGreatDoor
open Go Go.RowKit
set_option maxRecDepth 100000
set_option maxHeartbeats 20000000
set_option linter.unusedVariables false
section
variable {k:Int} {t:ByteArray} {n:Int} {x y b:Tree} {l r:List Tree}
theorem Zbs (need:Int):vP (.mk k t n r) need=Z8t (decide (Zf k < need)) (vbP k t n r):=by rw [vP.eq_def]
theorem Zb8:vbP 17 t n r=[.t 3 ByteArray.empty n]:=by rw [vbP.eq_def]; simp
theorem Zed:vbP 18 t n r=[.t 4 t 0]:=by rw [vbP.eq_def]; simp
theorem Z81 (h:19≤k) (h2:k≤22):vbP k t n r=[wd (Z9d k)]:=by
 rw [vbP.eq_def,Y3 (by omega),Y3 (by omega),Y5 (by omega)]
theorem Z6p:vbP 23 t n r=[nm t]:=by rw [vbP.eq_def]; simp
theorem Zbp:vbP 24 t n (x :: y :: r)=vP x 8 ++ sp :: sg 61 :: sp :: vP y 0:=by rw [vbP.eq_def]; simp
theorem Z9i (h:32≤k) (h2:k≤34):vbP k t n (x :: r)=sgnP k ++ vP x 7:=by
 rw [vbP.eq_def,Y3 (by omega),Y3 (by omega),Y3 (by omega),Y3 (by omega),Y3 (by omega),Y5 (by omega)]
theorem Zeb:vbP 36 t n (x :: r)=vP x 8 ++ [sg 46,nm t]:=by rw [vbP.eq_def]; simp
theorem Z8x:vbP 35 t n (x :: r)=vP x 8 ++ sg 40 :: (lP true r ++ [sg 41]):=by rw [vbP.eq_def]; simp
theorem Zei {k' n':Int} {t':ByteArray}:vbP 37 t n (.mk k' t' n' l :: b :: r)=fnP t (lP true l) (sP b):=by rw [vbP.eq_def]; simp
theorem Zeh:vbP 38 t n r=sg 123 :: (lP true r ++ [sg 125]):=by rw [vbP.eq_def]; simp
theorem Zbe:vbP 39 t n (x :: r)=nm t :: sg 58 :: sp :: vP x 0:=by rw [vbP.eq_def]; simp
theorem Z57 (h:25≤k) (h2:k≤31):vbP k t n (x :: y :: r)=vP x (Zf k) ++ (sgnP k ++ vP y (Zf k + 1)):=by
 rw [vbP.eq_def,Y3 (by omega),Y3 (by omega),Y3 (by omega),Y3 (by omega),Y3 (by omega),Y3 (by omega),Y3 (by omega),Y3 (by omega),Y3 (by omega),Y3 (by omega),Y3 (by omega)]
theorem Z5o (f:Bool):lP f []=[]:=by rw [lP.eq_def]
theorem Z3x (f:Bool):lP f (x :: r)=sepP f [sg 44,sp] ++ (vP x 0 ++ lP false r):=by rw [lP.eq_def]
theorem Z80 (f:Bool):bP f []=[]:=by rw [bP.eq_def]
theorem Z4z (f:Bool):bP f (x :: r)=sepP f [sp] ++ (sP x ++ bP false r):=by rw [bP.eq_def]
theorem Z83 (h:k=2∨k=3∨k=4):sP (.mk k t n [])=Z5q k ++ nm t :: [sg 59]:=by rw [sP.eq_def]; simp only; rw [Y5 h]
theorem Z77 (h:k=2∨k=3∨k=4):sP (.mk k t n (x :: r))=Z5q k ++ nm t :: sp :: sg 61 :: sp :: (vP x 0 ++ [sg 59]):=by rw [sP.eq_def]; simp only; rw [Y5 h]
theorem Zec {k' n':Int} {t':ByteArray}:sP (.mk 5 t n (.mk k' t' n' l :: b :: r))=fnP t (lP true l) (sP b):=by rw [sP.eq_def]; simp
theorem Z8o:sP (.mk 6 t n r)=sg 123 :: (bP true r ++ [sg 125]):=by rw [sP.eq_def]; simp
theorem Zc8 (h:k=7∨k=8∨k=9):sP (.mk k t n [x,y])=Z5q k ++ sg 40 :: (vP x 0 ++ sg 41 :: sp :: sP y):=by
 rw [sP.eq_def]; simp only; rw [Y3 (by omega),Y3 (by omega),Y3 (by omega),Y5 h,List.append_nil]
theorem Zfm {z:Tree}:sP (.mk 7 t n [x,y,z])=Z5q 7 ++ sg 40 :: (vP x 0 ++ sg 41 :: sp :: (sP y ++ sp :: wd Z2o :: sp :: sP z)):=by rw [sP.eq_def]; simp
theorem Zej (h:k=10∨k=11):sP (.mk k t n [])=Z5q k ++ [sg 59]:=by
 rw [sP.eq_def]; simp only; rw [Y3 (by omega),Y3 (by omega),Y3 (by omega),Y3 (by omega),Y5 h]
theorem Zcj (h:k=10∨k=11):sP (.mk k t n (x :: r))=Z5q k ++ sp :: (vP x 0 ++ [sg 59]):=by
 rw [sP.eq_def]; simp only; rw [Y3 (by omega),Y3 (by omega),Y3 (by omega),Y3 (by omega),Y5 h]
theorem Z9k:sP (.mk 12 t n (b :: r))=wd Z4e :: sp :: (sP b ++ cP r):=by rw [sP.eq_def]; simp
theorem Zcq:sP (.mk 16 t n r)=[sg 59]:=by rw [sP.eq_def]; simp
theorem Zbz:sP (.mk 15 t n (x :: r))=Zdx (vP x 0) ++ [sg 59]:=by rw [sP.eq_def]; simp
theorem Z95:cP []=[]:=by rw [cP.eq_def]
theorem Z8a:cP (.mk 13 t n [x] :: r)=sp :: wd Z10 :: sp :: sg 40 :: nm t :: sg 41 :: sp :: (sP x ++ cP r):=by rw [cP.eq_def]; simp
theorem Z5y:cP (.mk 14 t n [x] :: r)=sp :: wd Zs :: sp :: (sP x ++ cP r):=by rw [cP.eq_def]; simp
end
def NWr (l:List Pc):Prop:=Z1u (hB (Z5 l))=false∧hB (Z5 l)≠61
section
variable {l:List Pc}
theorem NWr.sg {c:UInt8} (h:Z1u (c.toNat:Int)=false:=by decide) (h2:(c.toNat:Int)≠61:=by decide):NWr (sg c :: l):=⟨h,h2⟩
theorem NWr.sp {c:UInt8} (h:Z1u (c.toNat:Int)=false:=by decide) (h2:(c.toNat:Int)≠61:=by decide):NWr (.sp c :: l):=⟨h,h2⟩
theorem Zd7 {c:UInt8} (h:c≠61):(⟨#[c]⟩:ByteArray)≠s_eq:=by
 intro e;have e2:(#[c]:Array UInt8)=#[61]:=congrArg ByteArray.data e;simp at e2;exact h e2
theorem Spd.sg {c:UInt8} (h:Spd l) (hc:Z4r (c.toNat:Int)=true:=by decide) (h2:c≠61:=by decide):Spd (sg c :: l):=
 ⟨.inr (.inr (.inr (.inr ⟨rfl,rfl,.inl ⟨c,rfl,hc⟩⟩))),⟨fun h=>by omega,fun _ e=>absurd e (Zd7 h2)⟩,h⟩
theorem Spd.sp (h:Spd l):Spd (sp :: l):=⟨.inl rfl,trivial,h⟩
theorem Spd.nm {s:ByteArray} (hs:Z2b s) (h:Spd l) (hn:NWr l):Spd (nm s :: l):=⟨.inl ⟨rfl,rfl,hs⟩,⟨fun _=>hn.1,fun h=>by omega⟩,h⟩
theorem Spd.wd {s:ByteArray} (hs:Zfk s) (h:Spd l) (hn:NWr l):Spd (wd s :: l):=⟨.inr (.inl ⟨rfl,rfl,hs⟩),⟨fun _=>hn.1,fun h=>by omega⟩,h⟩
theorem Spd.num {n:Int} (h0:0≤n) (h1:n≤1000000000) (h:Spd l) (hn:NWr l):Spd (.t 3 ByteArray.empty n :: l):=⟨.inr (.inr (.inl ⟨rfl,rfl,h0,h1⟩)),⟨fun _=>hn.1,fun h=>by omega⟩,h⟩
theorem Spd.str {s:ByteArray} (h0:s.size≤500) (h:Spd l):Spd (.t 4 s 0 :: l):=⟨.inr (.inr (.inr (.inl ⟨rfl,rfl,h0⟩))),⟨fun h=>by omega,fun h=>by omega⟩,h⟩
end
end Go.Proofs.YtjcgkdfeplbajaaGreatDoor
namespace Go.Proofs
def Tryz.lays137_ren:Go.Shelf.Ren:=⟨fun | 137=>27 | 217=>43 | 266=>63 | n=>n,fun | 9=>9 | 5=>5 | 3=>3 | n=>n,fun | n=>n⟩
theorem Tryz.lays137:Go.Proofs.Lays.n137 Tryz.prog Tryz.lays137_ren:={
 mixed:=by kernel_rfl
 f137:=Tryz.func27.trans (congrArg some (by kernel_rfl))
 f217:=Tryz.func43.trans (congrArg some (by kernel_rfl))
 f266:=Tryz.func63.trans (congrArg some (by kernel_rfl))
 t3:=Tryz.underlying3
 a3:=Tryz.isAgg3
 z3:=Tryz.sizeOf3
 v3:=Tryz.zeroValue3
 t5:=Tryz.underlying5
 a5:=Tryz.isAgg5
 z5:=Tryz.sizeOf5
 v5:=Tryz.zeroValue5
 t9:=Tryz.underlying9
 a9:=Tryz.isAgg9
 z9:=Tryz.sizeOf9
 v9:=Tryz.zeroValue9 }
open Go.RowKit in
theorem Tryz.strings_IndexByte (s:ByteArray) (c:Int) (w:World) :
 Calls Tryz.prog 27 #[.string s,.int .u8 c] w fun e w'=>e=.returned (.int .i64 (Lib.indexByte s.data.toList c.toNat.toUInt8))∧w'=w:=Any.strings_IndexByte Tryz.lays137 s c w
end Go.Proofs
namespace Go.Proofs.YtjcgkdfeplbajaaGreatDoor
open Go Go.RowKit
set_option maxRecDepth 100000
set_option maxHeartbeats 20000000
theorem ScanAt.bfr {w0 w w':World} {sb b B a:Nat} {text:ByteArray} {p v v':Value} {bs:List Value} (h:ScanAt w0 w sb text a) (hb:BAt B w b p v bs) (hs:sb < B) (h0:w0.heap.size≤B) (f:BFr w w' b v v'):ScanAt w0 w' sb text a:=by
 have hr:∀ k,k < B→v.ownBlock≠some k:=fun k hk e=>by have:=(hb.own.lt k e).1; omega
 have hle:=hb.le
 exact ⟨(f.block sb h.lt (by omega) (hr sb hs)).trans h.blk,f.os.trans h.os,f.tape.trans h.tape,f.output.trans h.output,Y4 h.size f.size,
  fun k hk hn=>(f.block k (Y7 hk h.size) (by omega) (hr k (by omega))).trans (h.block k hk hn)⟩
theorem BAt.set {B:Nat} {w:World} {b sb:Nat} {p v:Value} {bs:List Value} (h:BAt B w b p v bs) (hs:sb < B) (x:Value):BAt B (w.setCell ⟨sb,1,none⟩ x) b p v bs:=by
 have hle:=h.le;exact ⟨(Y8 _ _ _ _ (by simp; omega)).trans h.blk,h.ptr,Zr h.own fun g hg=>Y8 _ _ _ _ (by have:=(h.own.lt g hg).1; simp; omega),h.ne,h.le⟩
theorem BAt.drew {B:Nat} {w:World} {b:Nat} {p v:Value} {bs:List Value} (h:BAt B w b p v bs):BAt B w.drew b p v bs:=⟨h.blk,h.ptr,h.own,h.ne,h.le⟩
theorem BAt.new (w:World):BAt w.heap.size (w.alloc (.cells #[.pointer none,.slice none 0 0] 55)) w.heap.size (.pointer none) (.slice none 0 0) []:=
 ⟨heap_alloc_new w _,.inl rfl,World.ownsRow_nil _ _ _ _,by simp [Value.ownBlock],Y0 _⟩
end Go.Proofs.YtjcgkdfeplbajaaGreatDoor
namespace Go.Proofs.YtjcgkdfeplbajaaGreatDoor
open Go Go.RowKit
set_option maxRecDepth 100000
set_option maxHeartbeats 20000000
theorem Z4n (B:Nat) (w:World) (b:Nat) (p v:Value) (bs:List Value) (c:Int) (h:BAt B w b p v bs) (hn:bs.length < 1099511627776) :
 Calls Tryz.prog 17 #[.pointer (some ⟨b,0,none⟩),.int .u8 c] w fun e w'=>e=.returned .nilIface∧∃ v',BAt B w' b (.pointer (some ⟨b,0,none⟩)) v' (bs ++ [.int .u8 c])∧BFr w w' b v v':=by
 rcases h.ptr with rfl | rfl;·exact Z5n B w b v bs c h hn
 ·exact Z6a B w b v bs c h hn
theorem ScanAt.set' {w0 w:World} {sb a b:Nat} {text:ByteArray} {x:Int} (h:ScanAt w0 w sb text a) (hx:x=b):ScanAt w0 (w.setCell ⟨sb,1,none⟩ (.int .i64 x)) sb text b:=by
 subst hx; exact h.set b
theorem ScanAt.c1' {w0 w:World} {sb a:Nat} {text:ByteArray} {x:Int} (h:ScanAt w0 w sb text a) (hx:x=a):w.cell? ⟨sb,1,none⟩=some (.int .i64 x):=by
 subst hx; exact h.c1
theorem ScanAt.belowB {w0 w w':World} {B sb a:Nat} {text:ByteArray} (h:ScanAt w0 w sb text a) (hs:sb < B) (h0:w0.heap.size≤B) (hB:Below B w w'):ScanAt w0 w' sb text a:=
 ⟨(hB.block sb hs).trans h.blk,hB.os.trans h.os,hB.tape.trans h.tape,hB.output.trans h.output,Y4 h.size hB.size,fun k hk hn=>(hB.block k (Y7 hk h0)).trans (h.block k hk hn)⟩
theorem Zbc (c:Int) (u:UInt8) (hu:(u.toNat:Int)=c):(Z5v c=none∧Lib.indexByte [110,39,92] c.toNat.toUInt8=-1)∨(c=110∧Z5v c=some 10∧Lib.indexByte [110,39,92] c.toNat.toUInt8=0)∨(c=39∧Z5v c=some 39∧Lib.indexByte [110,39,92] c.toNat.toUInt8=1)∨(c=92∧Z5v c=some 92∧Lib.indexByte [110,39,92] c.toNat.toUInt8=2):=by
 subst hu;have hx:((u.toNat:Int)).toNat.toUInt8=u:=by simp
 rw [hx];by_cases h1:u=110;·subst h1; exact .inr (.inl ⟨rfl,rfl,rfl⟩)
 by_cases h2:u=39;·subst h2; exact .inr (.inr (.inl ⟨rfl,rfl,rfl⟩))
 by_cases h3:u=92;·subst h3; exact .inr (.inr (.inr ⟨rfl,rfl,rfl⟩))
 refine .inl ⟨?_,?_⟩
 ·have k1:¬ (u.toNat:Int)=110:=fun h=>h1 (UInt8.toNat_inj.1 (by simp; omega));have k2:¬ (u.toNat:Int)=39:=fun h=>h2 (UInt8.toNat_inj.1 (by simp; omega));have k3:¬ (u.toNat:Int)=92:=fun h=>h3 (UInt8.toNat_inj.1 (by simp; omega));unfold Z5v;rw [Y3 k1,Y3 k2,Y3 k3]
 ·have k1 : ((110 : UInt8) == u) = false := by simpa using fun h => h1 h.symm
  have k2:((39:UInt8) == u)=false:=by simpa using fun h=>h2 h.symm
  have k3:((92:UInt8) == u)=false:=by simpa using fun h=>h3 h.symm
  simp [Lib.indexByte,k1,k2,k3]
theorem Zaq (w:World) (sb a:Nat) (text:ByteArray) (h:w.heap[sb]?=some (.cells #[.string text,.int .i64 a] 61 (0,0))) (ha:a < text.size) (hm:text.size≤1000000) :
 Calls Tryz.prog 25 #[.pointer (some ⟨sb,0,none⟩)] w fun e w'=>e=.returned (.tuple #[.string ⟨(Z0x text (a + 1)).1.toArray⟩,.int .i64 (Z0x text (a + 1)).2.1,.int .i64 (Z0x text (a + 1)).2.2])∧ScanAt w w' sb text (Z0x text (a + 1)).2.2:=by
 obtain ⟨R,hR⟩:=zX (Z0x text (a + 1))
 rw [← hR];have HR:=lh hR;clear hR;have S0:=lh (ScanAt.refl h);have hsb:sb < w.heap.size:=(Y1.1 h).1;have B0:=lh (BAt.new w);have S1:=lh (S0.out.below (w':=w.alloc (.cells #[.pointer none,.slice none 0 0] 55)) ((Y2 _ _).alloc (Y0 _) _));have c0:=S1.out.c0;have c1:=S1.out.c1;have z1:=S1.out.fz 1;clear h;go_enter Tryz.func25,Tryz.ntmps25
 go_wp2;have S2:=lh ((S0.out.set (a + 1)).below (w':=(w.setCell ⟨sb,1,none⟩ (.int .i64 ((a:Int) + 1))).alloc (.cells #[.pointer none,.slice none 0 0] 55)) ((Y2 _ _).alloc (Y0 _) _));have hsz:(w.setCell ⟨sb,1,none⟩ (.int .i64 ((a:Int) + 1))).heap.size=w.heap.size:=Yf ..;have b2:=BAt.new (w.setCell ⟨sb,1,none⟩ (.int .i64 ((a:Int) + 1)));rw [hsz] at b2;have B2:=lh b2;clear b2 hsz;clear S1 B0 c0 c1 z1
 go_loopw [] (fun wr=>∃ (i f:Nat) (acc:List UInt8) (p v:Value),ScanAt w wr sb text i∧BAt w.heap.size wr w.heap.size p v (Lib.byteCells acc)∧Z0f text f i acc=R∧text.size + 1≤i + f∧i≤text.size∧acc.length≤i) (fun wr=>text.size + 1 - (intOf ((wr.cell? ⟨sb,1,none⟩).getD .nilIface)).toNat)
 case atStart=>exact ⟨a + 1,text.size + 1 - (a + 1),[],_,_,S2.out,B2.out,HR.out.symm,by omega,by omega,by simp⟩
 case round=>
  obtain ⟨i,f,acc,p,v,hS,hB,hq,hf,hi,hl⟩:=hrel;have q0:=hS.c0;have q1:=hS.c1;have z1:=hS.fz 1;have SI:=lh hS;have BI:=lh hB;have HQ:=lh hq;obtain ⟨f,rfl⟩:∃ g,f=g + 1:=⟨f - 1,by omega⟩
  clear hS hB hq S2 B2;by_cases hlt:i < text.size
  ·have hd : decide (text.size ≤ i) = false := by simp; omega
   have hby:=Z39 (text:=text) hlt;obtain ⟨c,hc⟩:=zX (Z9 text i)
   rw [← hc] at hby;by_cases e10:c=10
   ·subst e10;have hR : R = ([], 3, i) := by rw [← HQ.out]; simp [Z0f, ← hc]
    have hb2:=hby.symm;have HR2:=lh hR;clear hby hR hc;go_wp2_with fail
    refine Z4 [(true,0),(true,1),(true,2),(true,3),(true,4),(true,5),(true,6),(true,7),(true,8),(true,9),(true,10),(true,11),(true,12),(true,13),(true,14),(true,15),(true,16),(true,17),(true,18)] [19,20,21] (fun W=>W.cell? ⟨sb,0,none⟩=some (.string text)∧W.cell? ⟨sb,1,none⟩=some (.int .i64 i)) (by kernel_rfl) (by kernel_rfl) (fun _ _ d _ _ h=>by cases d <;> exact h) ⟨q0,q1⟩ (fun hS0=>?_);simp only [Zj,zD,zE,zF,zG,zH,zI]
    iterate 19
     first
      | (refine Z7 ?_ (by rfl) (fun w' hS'=>?_) ?_; rotate_left; (obtain ⟨s0,s1⟩:=hS'; go_simp; first | done | with_reducible rfl); simp only [Act.put,zA,zB,zC])
      | (refine Z6 (by rfl) ?_; simp only [Act.put,zA,zB,zC])
    refine Zb ?_;go_wp2;refine Z4 [(true,0),(true,1),(true,2),(true,3),(true,4),(true,5)] [6] (fun W=>W.cell? ⟨sb,1,none⟩=some (.int .i64 i)) (by kernel_rfl) (by kernel_rfl) (fun _ _ d _ _ h=>by cases d <;> exact h) q1 (fun hS0=>?_);simp only [Zj,zD,zE,zF,zG,zH,zI]
    iterate 6
     first
      | (refine Z7 ?_ (by rfl) (fun w' hS'=>?_) ?_; rotate_left; (have s0:=hS'; go_simp; first | done | with_reducible rfl); simp only [Act.put,zA,zB,zC])
      | (refine Z6 (by rfl) ?_; simp only [Act.put,zA,zB,zC])
    refine Zb ?_;go_wp2;go_ret3
    rw [HR2.out];exact ⟨rfl,SI.out.drew.drew⟩
   have n10:(c == 10)=false:=by simp [e10]
   have hlen:(Lib.byteCells acc).length=acc.length:=by simp [Lib.byteCells]
   have HLN:=lh hlen;clear hlen;by_cases e39:c=39
   ·subst e39;have hR : R = if 500 < acc.length then ([], 4, i + 1) else (acc, 0, i + 1) := by rw [← HQ.out]; simp [Z0f, ← hc]; omega
    have hb2:=hby.symm;have HR2:=lh hR;clear hby hR hc e10 n10;have z1:=SI.out.drew.drew.fz 1;go_wp2_with fail
    refine Z4 [(true,0),(true,1),(true,2),(true,3),(true,4),(true,5),(true,6),(true,7),(true,8),(true,9),(true,10),(true,11),(true,12),(true,13),(true,14),(true,15),(true,16),(true,17),(true,18)] [19,20,21] (fun W=>W.cell? ⟨sb,0,none⟩=some (.string text)∧W.cell? ⟨sb,1,none⟩=some (.int .i64 i)) (by kernel_rfl) (by kernel_rfl) (fun _ _ d _ _ h=>by cases d <;> exact h) ⟨q0,q1⟩ (fun hS0=>?_);simp only [Zj,zD,zE,zF,zG,zH,zI]
    iterate 19
     first
      | (refine Z7 ?_ (by rfl) (fun w' hS'=>?_) ?_; rotate_left; (obtain ⟨s0,s1⟩:=hS'; go_simp; first | done | with_reducible rfl); simp only [Act.put,zA,zB,zC])
      | (refine Z6 (by rfl) ?_; simp only [Act.put,zA,zB,zC])
    refine Zb ?_;go_wp2;refine Z4 [(true,0),(true,1),(true,2),(true,3),(true,4),(true,5),(true,6),(true,7)] [8,9] (fun W=>W.cell? ⟨sb,0,none⟩=some (.string text)∧W.cell? ⟨sb,1,none⟩=some (.int .i64 i)) (by kernel_rfl) (by kernel_rfl) (fun _ _ d _ _ h=>by cases d <;> exact h) ⟨q0,q1⟩ (fun hS0=>?_);simp only [Zj,zD,zE,zF,zG,zH,zI]
    iterate 8
     first
      | (refine Z7 ?_ (by rfl) (fun w' hS'=>?_) ?_; rotate_left; (obtain ⟨s0,s1⟩:=hS'; go_simp; first | done | with_reducible rfl); simp only [Act.put,zA,zB,zC])
      | (refine Z6 (by rfl) ?_; simp only [Act.put,zA,zB,zC])
    refine Zb ?_;go_wp2_with fail
    have SN:=(SI.out.set' (b:=i + 1) (x:=(i:Int) + 1) (by omega)).drew.drew;have BN:=(BI.out.set hsb (.int .i64 ((i:Int) + 1))).drew.drew;have HL:=Zey BN;rw [HLN.out] at HL;have HL:=lh HL;have q1':=SN.c1' (x:=(i:Int) + 1) (by omega);have hlS:=SN.lt;have BN:=lh BN;have SN:=lh SN;refine HL.out.mono ?_;rintro e w1 ⟨rfl,hw⟩;rw [← hw] at BN SN q1' hlS;clear hw HL z1 q0 q1;by_cases h5:500 < acc.length
    ·go_wp2;refine Z4 [(true, 0), (true, 1), (true, 2), (true, 3), (true, 4), (true, 5)] [6] (fun W => W.cell? ⟨sb, 1, none⟩ = some (.int .i64 ((i : Int) + 1))) (by kernel_rfl) (by kernel_rfl) (fun _ _ d _ _ h => by cases d <;> exact h) q1' (fun hS0 => ?_);simp only [Zj, zD, zE, zF, zG, zH, zI]
     iterate 6
      first
       | (refine Z7 ?_ (by rfl) (fun w' hS'=>?_) ?_; rotate_left; (have s0:=hS'; go_simp; first | done | with_reducible rfl); simp only [Act.put,zA,zB,zC])
       | (refine Z6 (by rfl) ?_; simp only [Act.put,zA,zB,zC])
     refine Zb ?_;go_wp2;go_ret3
     rw [HR2.out,Y5 h5];exact ⟨rfl,SN.out.drew⟩
    ·go_wp2;refine Z4 [(true, 1), (true, 2), (true, 3), (true, 4), (false, 0), (true, 5), (true, 6)] [7] (fun W => W.cell? ⟨sb, 1, none⟩ = some (.int .i64 ((i : Int) + 1))) (by kernel_rfl) (by kernel_rfl) (fun _ _ d _ _ h => by cases d <;> exact h) q1' (fun hS0 => ?_);simp only [Zj, zD, zE, zF, zG, zH, zI]
     iterate 4
      first
       | (refine Z7 ?_ (by rfl) (fun w' hS'=>?_) ?_; rotate_left; (have s0:=hS'; go_simp; first | done | with_reducible rfl); simp only [Act.put,zA,zB,zC])
       | (refine Z6 (by rfl) ?_; simp only [Act.put,zA,zB,zC])
     refine Zd (fun K hK=>?_);go_simp
     refine (Z9z acc BN.out.drew (by have:=(Y1.1 BN.out.blk).1; simp; omega)).mono ?_;rintro e w2 ⟨rfl,hB⟩;have S2:=SN.out.drew.belowB hsb (Y0 _) hB;refine hK _ _ (S2.c1' (by omega)) ?_;have S2:=lh S2;clear hK K hB
     iterate 2
      first
       | (refine Z7 ?_ (by rfl) (fun w' hS'=>?_) ?_; rotate_left; (have s0:=hS'; go_simp; first | done | with_reducible rfl); simp only [Act.put,zA,zB,zC])
       | (refine Z6 (by rfl) ?_; simp only [Act.put,zA,zB,zC])
     refine Zb ?_;go_wp2;go_ret3
     rw [HR2.out,Y3 h5];exact ⟨rfl,S2.out⟩
   have n39:(c == 39)=false:=by simp [e39]
   by_cases e92:c=92
   ·subst e92;have hb2 := hby.symm;clear hby e10 n10 e39 n39;have HC := lh hc;clear hc;go_wp2_with fail
    refine Z4 [(true,0),(true,1),(true,2),(true,3),(true,4),(true,5),(true,6),(true,7),(true,8),(true,9),(true,10),(true,11),(true,12),(true,13),(true,14),(true,15),(true,16),(true,17),(true,18)] [19,20,21] (fun W=>W.cell? ⟨sb,0,none⟩=some (.string text)∧W.cell? ⟨sb,1,none⟩=some (.int .i64 i)) (by kernel_rfl) (by kernel_rfl) (fun _ _ d _ _ h=>by cases d <;> exact h) ⟨q0,q1⟩ (fun hS0=>?_);simp only [Zj,zD,zE,zF,zG,zH,zI]
    iterate 19
     first
      | (refine Z7 ?_ (by rfl) (fun w' hS'=>?_) ?_; rotate_left; (obtain ⟨s0,s1⟩:=hS'; go_simp; first | done | with_reducible rfl); simp only [Act.put,zA,zB,zC])
      | (refine Z6 (by rfl) ?_; simp only [Act.put,zA,zB,zC])
    refine Zb ?_;go_wp2;refine Z4 [(true,0),(true,1),(true,2),(true,3),(true,4),(true,5),(true,6),(true,7)] [8,9] (fun W=>W.cell? ⟨sb,0,none⟩=some (.string text)∧W.cell? ⟨sb,1,none⟩=some (.int .i64 i)) (by kernel_rfl) (by kernel_rfl) (fun _ _ d _ _ h=>by cases d <;> exact h) ⟨q0,q1⟩ (fun hS0=>?_);simp only [Zj,zD,zE,zF,zG,zH,zI]
    iterate 8
     first
      | (refine Z7 ?_ (by rfl) (fun w' hS'=>?_) ?_; rotate_left; (obtain ⟨s0,s1⟩:=hS'; go_simp; first | done | with_reducible rfl); simp only [Act.put,zA,zB,zC])
      | (refine Z6 (by rfl) ?_; simp only [Act.put,zA,zB,zC])
    refine Zb ?_;go_wp2_with fail
    have SN:=(SI.out.set' (b:=i + 1) (x:=(i:Int) + 1) (by omega)).drew.drew;have BN:=(BI.out.set hsb (.int .i64 ((i:Int) + 1))).drew.drew;obtain ⟨w1,hw⟩:=zX ((wr.setCell ⟨sb,1,none⟩ (.int .i64 ((i:Int) + 1))).drew.drew)
    rw [← hw] at BN SN ⊢;have p0:=SN.c0;have p1:=SN.c1' (x:=(i:Int) + 1) (by omega);have pz:=SN.fz 1;have BN:=lh BN;have SN:=lh SN;clear hw q0 q1 z1 hb2;by_cases h4:i + 1 < text.size
    ·have hby := Z39 (text := text) h4;have hd4 : decide ((i : Int) + 1 < text.size) = true := by simp; omega
     obtain ⟨k,hk⟩:∃ k,k=Lib.indexByte [110,39,92] ((text[i + 1].toNat:Int)).toNat.toUInt8:=⟨_,rfl⟩
     have hesc:=Zbc (Z9 text (i + 1)) text[i + 1] hby.symm;rw [hby,← hk] at hesc;have HX:Hid (∀ w,Calls Tryz.prog 27 #[.string ⟨#[110,39,92]⟩,.int .u8 (text[i + 1].toNat:Int)] w fun e w'=>e=.returned (.int .i64 k)∧w'=w):=
      lh fun w=>(Tryz.strings_IndexByte ⟨#[110,39,92]⟩ (text[i + 1].toNat:Int) w).mono fun e w' h=>⟨by rw [hk]; exact h.1,h.2⟩
     have HBY:=lh hby;have HE:=lh hesc;clear hby hesc hk;go_wp2_with fail
     refine Z4 [(true,0),(true,1),(true,2),(true,3),(true,4),(true,5),(true,6),(true,7),(true,8)] [9] (fun W=>W.cell? ⟨sb,0,none⟩=some (.string text)∧W.cell? ⟨sb,1,none⟩=some (.int .i64 ((i:Int) + 1))) (by kernel_rfl) (by kernel_rfl) (fun _ _ d _ _ h=>by cases d <;> exact h) ⟨p0,p1⟩ (fun hS0=>?_);simp only [Zj,zD,zE,zF,zG,zH,zI]
     iterate 9
      first
       | (refine Z7 ?_ (by rfl) (fun w' hS'=>?_) ?_; rotate_left; (obtain ⟨s0,s1⟩:=hS'; go_simp; first | done | with_reducible rfl); simp only [Act.put,zA,zB,zC])
       | (refine Z6 (by rfl) ?_; simp only [Act.put,zA,zB,zC])
     refine Zb ?_;go_wp2;refine Z4 [(true,0),(true,1),(true,2),(true,3),(true,4),(true,5),(true,6),(true,7)] [8,9,10] (fun W=>W.cell? ⟨sb,0,none⟩=some (.string text)∧W.cell? ⟨sb,1,none⟩=some (.int .i64 ((i:Int) + 1))) (by kernel_rfl) (by kernel_rfl) (fun _ _ d _ _ h=>by cases d <;> exact h) ⟨p0,p1⟩ (fun hS0=>?_);simp only [Zj,zD,zE,zF,zG,zH,zI]
     iterate 8
      first
       | (refine Z7 ?_ (by rfl) (fun w' hS'=>?_) ?_; rotate_left; (obtain ⟨s0,s1⟩:=hS'; go_simp; first | done | with_reducible rfl); simp only [Act.put,zA,zB,zC])
       | (refine Z6 (by rfl) ?_; simp only [Act.put,zA,zB,zC])
     refine Zb ?_;go_wp2_with fail
     refine (HX.out _).mono ?_;rintro e w2 ⟨rfl,hw⟩;have BN2:=BN.out.drew.drew;have SN2:=SN.out.drew.drew;rw [← hw] at BN2 SN2;have p1':=SN2.c1' (x:=(i:Int) + 1) (by omega);have pz':=SN2.fz 1;have BN2:=lh BN2;have SN2:=lh SN2;clear hw BN SN p0 p1 pz HX;have fin:∀ (x:UInt8),Hid (Z5v (text[i + 1].toNat:Int)=some x)→Z0f text f (i + 2) (acc ++ [x])=R:=by
      intro x hx;rw [← HQ.out];simp only [Z0f];rw [Y3 (by rw [← HC.out]; omega),Y3 (by rw [← HC.out]; omega),Y5 HC.out.symm,Y5 h4,HBY.out,hx.out]
     have FIN:=lh fin;have HLb:Hid ((Lib.byteCells acc).length < 1099511627776):=lh (by rw [HLN.out]; omega);clear fin;rcases HE.out with ⟨he,rfl⟩ | ⟨_,he,rfl⟩ | ⟨_,he,rfl⟩ | ⟨_,he,rfl⟩
     ·have hR:R=([],3,i + 1):=by
       rw [← HQ.out];simp only [Z0f];rw [Y3 (by rw [← HC.out]; omega),Y3 (by rw [← HC.out]; omega),Y5 HC.out.symm,Y5 h4,HBY.out,he]
      have HR2:=lh hR;clear hR he HE;go_wp2;refine Z4 [(true,0),(true,1),(true,2),(true,3),(true,4),(true,5)] [6] (fun W=>W.cell? ⟨sb,1,none⟩=some (.int .i64 ((i:Int) + 1))) (by kernel_rfl) (by kernel_rfl) (fun _ _ d _ _ h=>by cases d <;> exact h) p1' (fun hS0=>?_);simp only [Zj,zD,zE,zF,zG,zH,zI]
      iterate 6
       first
        | (refine Z7 ?_ (by rfl) (fun w' hS'=>?_) ?_; rotate_left; (have s0:=hS'; go_simp; first | done | with_reducible rfl); simp only [Act.put,zA,zB,zC])
        | (refine Z6 (by rfl) ?_; simp only [Act.put,zA,zB,zC])
      refine Zb ?_;go_wp2;go_ret3
      rw [HR2.out];exact ⟨rfl,SN2.out.drew⟩
     all_goals
      have FI:=lh (FIN.out _ (lh he));clear he HE FIN;go_wp2_with fail
      refine (Z4n _ _ _ _ _ _ _ BN2.out HLb.out).mono ?_;rintro e w3 ⟨rfl,v',hB3,hF3⟩;have S3:=SN2.out.bfr BN2.out hsb (Y0 _) hF3;have r1:=S3.c1' (x:=(i:Int) + 1) (by omega);have rz:=S3.fz 1;have B3:=lh hB3;have S3:=lh S3;clear hB3 hF3 p1' pz';go_wp2;go_roundw
      case rel=>exact ⟨i + 2,f,_,_,_,S3.out.set' (by omega),(by rw [Lib.byteCells,List.map_append]; exact B3.out.set hsb _),FI.out,by omega,by omega,by simp; omega⟩
      case measure=>
       have e1:=(S3.out.set' (b:=i + 2) (x:=(i:Int) + 1 + 1) (by omega)).c1;have e2:=SI.out.c1;rw [e1,e2];simp [intOf];omega
    ·have hd4 : decide ((i : Int) + 1 < text.size) = false := by simp; omega
     have hR:R=([],3,i + 1):=by
      rw [← HQ.out];simp only [Z0f];rw [Y3 (by rw [← HC.out]; omega),Y3 (by rw [← HC.out]; omega),Y5 HC.out.symm,Y3 h4]
     have HR2:=lh hR;clear hR;go_wp2_with fail
     refine Z4 [(true,0),(true,1),(true,2),(true,3),(true,4),(true,5),(true,6),(true,7),(true,8)] [9] (fun W=>W.cell? ⟨sb,0,none⟩=some (.string text)∧W.cell? ⟨sb,1,none⟩=some (.int .i64 ((i:Int) + 1))) (by kernel_rfl) (by kernel_rfl) (fun _ _ d _ _ h=>by cases d <;> exact h) ⟨p0,p1⟩ (fun hS0=>?_);simp only [Zj,zD,zE,zF,zG,zH,zI]
     iterate 9
      first
       | (refine Z7 ?_ (by rfl) (fun w' hS'=>?_) ?_; rotate_left; (obtain ⟨s0,s1⟩:=hS'; go_simp; first | done | with_reducible rfl); simp only [Act.put,zA,zB,zC])
       | (refine Z6 (by rfl) ?_; simp only [Act.put,zA,zB,zC])
     refine Zb ?_;go_wp2;refine Z4 [(true,0),(true,1),(true,2),(true,3),(true,4),(true,5)] [6] (fun W=>W.cell? ⟨sb,1,none⟩=some (.int .i64 ((i:Int) + 1))) (by kernel_rfl) (by kernel_rfl) (fun _ _ d _ _ h=>by cases d <;> exact h) p1 (fun hS0=>?_);simp only [Zj,zD,zE,zF,zG,zH,zI]
     iterate 6
      first
       | (refine Z7 ?_ (by rfl) (fun w' hS'=>?_) ?_; rotate_left; (have s0:=hS'; go_simp; first | done | with_reducible rfl); simp only [Act.put,zA,zB,zC])
       | (refine Z6 (by rfl) ?_; simp only [Act.put,zA,zB,zC])
     refine Zb ?_;go_wp2;go_ret3
     rw [HR2.out];exact ⟨rfl,SN.out.drew.drew⟩
   have n92:(c == 92)=false:=by simp [e92]
   have FI:Hid (Z0f text f (i + 1) (acc ++ [text.data.getD i 0])=R):=by
    refine lh ?_;rw [← HQ.out];simp only [Z0f];rw [Y3 (by rw [← hc]; omega),Y3 (by rw [← hc]; omega),Y3 (by rw [← hc]; omega)]
   have HLb:Hid ((Lib.byteCells acc).length < 1099511627776):=lh (by rw [HLN.out]; omega);have HCB:Hid (Lib.byteCells acc ++ [.int .u8 c]=Lib.byteCells (acc ++ [text.data.getD i 0])):=lh (by rw [Lib.byteCells,Lib.byteCells,List.map_append,hc]; rfl);have hb2:=hby.symm;clear hby hc e10 e39 e92;go_wp2_with fail
   refine Z4 [(true,0),(true,1),(true,2),(true,3),(true,4),(true,5),(true,6),(true,7),(true,8),(true,9),(true,10),(true,11),(true,12),(true,13),(true,14),(true,15),(true,16),(true,17),(true,18)] [19,20,21] (fun W=>W.cell? ⟨sb,0,none⟩=some (.string text)∧W.cell? ⟨sb,1,none⟩=some (.int .i64 i)) (by kernel_rfl) (by kernel_rfl) (fun _ _ d _ _ h=>by cases d <;> exact h) ⟨q0,q1⟩ (fun hS0=>?_);simp only [Zj,zD,zE,zF,zG,zH,zI]
   iterate 19
    first
     | (refine Z7 ?_ (by rfl) (fun w' hS'=>?_) ?_; rotate_left; (obtain ⟨s0,s1⟩:=hS'; go_simp; first | done | with_reducible rfl); simp only [Act.put,zA,zB,zC])
     | (refine Z6 (by rfl) ?_; simp only [Act.put,zA,zB,zC])
   refine Zb ?_;go_wp2;refine Z4 [(true,0),(true,1),(true,2),(true,3),(true,4),(true,5),(true,6),(true,7)] [8,9] (fun W=>W.cell? ⟨sb,0,none⟩=some (.string text)∧W.cell? ⟨sb,1,none⟩=some (.int .i64 i)) (by kernel_rfl) (by kernel_rfl) (fun _ _ d _ _ h=>by cases d <;> exact h) ⟨q0,q1⟩ (fun hS0=>?_);simp only [Zj,zD,zE,zF,zG,zH,zI]
   iterate 8
    first
     | (refine Z7 ?_ (by rfl) (fun w' hS'=>?_) ?_; rotate_left; (obtain ⟨s0,s1⟩:=hS'; go_simp; first | done | with_reducible rfl); simp only [Act.put,zA,zB,zC])
     | (refine Z6 (by rfl) ?_; simp only [Act.put,zA,zB,zC])
   refine Zb ?_;go_wp2_with fail
   refine (Z4n _ _ _ _ _ _ c BI.out.drew.drew HLb.out).mono ?_;rintro e w3 ⟨rfl,v',hB3,hF3⟩;have S3:=SI.out.drew.drew.bfr BI.out.drew.drew hsb (Y0 _) hF3;rw [HCB.out] at hB3;have r1:=S3.c1;have rz:=S3.fz 1;have B3:=lh hB3;have S3:=lh S3;clear hB3 hF3 q0 q1 z1;go_wp2;go_roundw
   case rel=>exact ⟨i + 1,f,_,_,_,S3.out.set' (by omega),B3.out.set hsb _,FI.out,by omega,by omega,by simp; omega⟩
   case measure=>
    have e1:=(S3.out.set' (b:=i + 1) (x:=(i:Int) + 1) (by omega)).c1;have e2:=SI.out.c1;rw [e1,e2];simp [intOf];omega
  ·have hge : (text.size : Int) ≤ i := by omega
   have hge2:text.size≤i:=by omega
   have hR:R=([],3,i):=by rw [← HQ.out]; simp [Z0f,show text.size≤i by omega]
   have HR2:=lh hR;clear hR;go_wp2_with fail
   refine Z4 [(true,0),(true,1),(true,2),(true,3),(true,4),(true,5),(true,6),(true,7),(true,8),(true,9),(true,10),(true,11),(true,12),(true,13),(true,14),(true,15),(true,16),(true,17),(true,18)] [19,20,21] (fun W=>W.cell? ⟨sb,0,none⟩=some (.string text)∧W.cell? ⟨sb,1,none⟩=some (.int .i64 i)) (by kernel_rfl) (by kernel_rfl) (fun _ _ d _ _ h=>by cases d <;> exact h) ⟨q0,q1⟩ (fun hS0=>?_);simp only [Zj,zD,zE,zF,zG,zH,zI]
   iterate 19
    first
     | (refine Z7 ?_ (by rfl) (fun w' hS'=>?_) ?_; rotate_left; (obtain ⟨s0,s1⟩:=hS'; go_simp; first | done | with_reducible rfl); simp only [Act.put,zA,zB,zC])
     | (refine Z6 (by rfl) ?_; simp only [Act.put,zA,zB,zC])
   refine Zb ?_;go_wp2;refine Z4 [(true,0),(true,1),(true,2),(true,3),(true,4),(true,5)] [6] (fun W=>W.cell? ⟨sb,1,none⟩=some (.int .i64 i)) (by kernel_rfl) (by kernel_rfl) (fun _ _ d _ _ h=>by cases d <;> exact h) q1 (fun hS0=>?_);simp only [Zj,zD,zE,zF,zG,zH,zI]
   iterate 6
    first
     | (refine Z7 ?_ (by rfl) (fun w' hS'=>?_) ?_; rotate_left; (have s0:=hS'; go_simp; first | done | with_reducible rfl); simp only [Act.put,zA,zB,zC])
     | (refine Z6 (by rfl) ?_; simp only [Act.put,zA,zB,zC])
   refine Zb ?_;go_wp2;go_ret3
   rw [HR2.out];exact ⟨rfl,SI.out.drew.drew⟩
end Go.Proofs.YtjcgkdfeplbajaaGreatDoor
namespace Go.Proofs.YtjcgkdfeplbajaaGreatDoor
open Go Go.RowKit
set_option maxRecDepth 100000
set_option maxHeartbeats 20000000
theorem Z3a {text:ByteArray} {f i j k:Nat} {l:List Tok} {t:Tok} {R:Except (Int×Nat) (List Tok)} (h:lexF text (f + 1) i l=R) (hj:j=Zq Z05 text (text.size - i) i) (hlt:j < text.size)
 (ht:Z0w text j=.ok (t,k)):lexF text f k (l ++ [t])=R:=by
 rw [← h];simp only [lexF];rw [← hj,Y3 (by omega),ht]
theorem Z3d {text:ByteArray} {f i j:Nat} {l:List Tok} {e:Int×Nat} {R:Except (Int×Nat) (List Tok)} (h:lexF text (f + 1) i l=R) (hj:j=Zq Z05 text (text.size - i) i) (hlt:j < text.size)
 (ht:Z0w text j=.error e):R=.error e:=by
 rw [← h];simp only [lexF];rw [← hj,Y3 (by omega),ht]
theorem Ze7 {text:ByteArray} {f i j:Nat} {l:List Tok} {R:Except (Int×Nat) (List Tok)} (h:lexF text (f + 1) i l=R) (hj:j=Zq Z05 text (text.size - i) i) (hlt:text.size≤j):R=.ok (l ++ [⟨6,ByteArray.empty,0,j⟩]):=by
 rw [← h];simp only [lexF];rw [← hj,Y5 hlt]
theorem Z7h (text:ByteArray):∀ (f i:Nat) (acc:List UInt8),(Z0f text f i acc).2.1=0∨(Z0f text f i acc).2.1=3∨(Z0f text f i acc).2.1=4:=by
 intro f;induction f with
 | zero=>intro i acc; simp [Z0f]
 | succ f ih =>
   intro i acc;simp only [Z0f];by_cases h1:text.size≤i∨Z9 text i=10;·rw [Y5 h1]; simp
   rw [Y3 h1];by_cases h2:Z9 text i=39
   ·rw [Y5 h2];by_cases h3 : 500 < acc.length;·rw [Y5 h3]; simp
    ·rw [Y3 h3]; simp
   rw [Y3 h2];by_cases h3:Z9 text i=92
   ·rw [Y5 h3];by_cases h4 : i + 1 < text.size
    ·rw [Y5 h4];cases Z5v (Z9 text (i + 1)) with
     | none=>simp
     | some e=>exact ih _ _
    ·rw [Y3 h4]; simp
   ·rw [Y3 h3]; exact ih _ _
section
variable {text:ByteArray} {j k:Nat}
theorem Zat (hl:Z0p (Z9 text j)=true) (hk:k=Zq Z1u text (text.size - j) j) (hw:Z29 (text.extract j k)=true):Z0w text j=.ok (⟨2,text.extract j k,0,j⟩,k):=by
 subst hk; unfold Z0w; rw [Y5 hl]; simp only; rw [Y5 hw]
theorem Zas (hl:Z0p (Z9 text j)=true) (hk:k=Zq Z1u text (text.size - j) j) (hw:Z29 (text.extract j k)=false) (h:¬ 20 < k - j):Z0w text j=.ok (⟨1,text.extract j k,0,j⟩,k):=by
 subst hk; unfold Z0w; rw [Y5 hl]; simp only; rw [Y3 (by simp [hw]),Y3 h]
theorem Zad (hl:Z0p (Z9 text j)=true) (hk:k=Zq Z1u text (text.size - j) j) (hw:Z29 (text.extract j k)=false) (h:20 < k - j):Z0w text j=.error (4,j):=by
 subst hk; unfold Z0w; rw [Y5 hl]; simp only; rw [Y3 (by simp [hw]),Y5 h]
theorem Zcr (hl:Z0p (Z9 text j)=false) (hd:Z0l (Z9 text j)=true) (hk:k=Zq Z0l text (text.size - j) j) (h1:¬ (10 < k - j∨(1 < k - j∧Z9 text j=48))) (h2:¬ 1000000000 < numF text k (k - j) j 0) :
 Z0w text j=.ok (⟨3,ByteArray.empty,numF text k (k - j) j 0,j⟩,k):=by
 subst hk; unfold Z0w; rw [Y3 (by simp [hl]),Y5 hd]; simp only; rw [Y3 h1,Y3 h2]
theorem Z6l (hl:Z0p (Z9 text j)=false) (hd:Z0l (Z9 text j)=true) (hk:k=Zq Z0l text (text.size - j) j) (h1:10 < k - j∨(1 < k - j∧Z9 text j=48)):Z0w text j=.error (3,j):=by
 subst hk; unfold Z0w; rw [Y3 (by simp [hl]),Y5 hd]; simp only; rw [Y5 h1]
theorem Z88 (hl:Z0p (Z9 text j)=false) (hd:Z0l (Z9 text j)=true) (hk:k=Zq Z0l text (text.size - j) j) (h1:¬ (10 < k - j∨(1 < k - j∧Z9 text j=48))) (h2:1000000000 < numF text k (k - j) j 0):Z0w text j=.error (2,j):=by
 subst hk; unfold Z0w; rw [Y3 (by simp [hl]),Y5 hd]; simp only; rw [Y3 h1,Y5 h2]
theorem Zck {bs:List UInt8} (hq:Z9 text j=39) (hr:Z0x text (j + 1)=(bs,0,k)):Z0w text j=.ok (⟨4,⟨bs.toArray⟩,0,j⟩,k):=by
 unfold Z0w; rw [Y3 (by rw [hq]; decide),Y3 (by rw [hq]; decide),Y5 hq,hr]; simp
theorem Zaf {bs:List UInt8} (hq:Z9 text j=39) (hr:Z0x text (j + 1)=(bs,4,k)):Z0w text j=.error (4,j):=by
 unfold Z0w; rw [Y3 (by rw [hq]; decide),Y3 (by rw [hq]; decide),Y5 hq,hr]; simp
theorem Z9t {bs:List UInt8} (hq:Z9 text j=39) (hr:Z0x text (j + 1)=(bs,3,k)):Z0w text j=.error (3,k):=by
 unfold Z0w; rw [Y3 (by rw [hq]; decide),Y3 (by rw [hq]; decide),Y5 hq,hr]; simp
theorem Z6j (hl:Z0p (Z9 text j)=false) (hd:Z0l (Z9 text j)=false) (hq:Z9 text j≠39) (hs:¬ (Z02 text j=1∧Z4r (Z9 text j)=false)):Z0w text j=.ok (⟨5,text.extract j (j + Z02 text j),0,j⟩,j + Z02 text j):=by
 unfold Z0w; rw [Y3 (by simp [hl]),Y3 (by simp [hd]),Y3 hq,Y3 hs]
theorem Z7q (hl:Z0p (Z9 text j)=false) (hd:Z0l (Z9 text j)=false) (hq:Z9 text j≠39) (hs:Z02 text j=1∧Z4r (Z9 text j)=false):Z0w text j=.error (3,j):=by
 unfold Z0w; rw [Y3 (by simp [hl]),Y3 (by simp [hd]),Y3 hq,Y5 hs]
theorem Zch {n m:Nat} {N:Int} (h:m < n):numF text (j + n) (n - m) (j + m) N=numF text (j + n) (n - (m + 1)) (j + m + 1) (10 * N + (Z9 text (j + m) - 48)):=by
 obtain ⟨g,hg⟩:∃ g,n - m=g + 1:=⟨n - m - 1,by omega⟩
 rw [hg,show n - (m + 1)=g by omega];simp only [numF];rw [Y5 (by omega)]
theorem Zcs {n:Nat} {N:Int}:numF text (j + n) (n - n) (j + n) N=N:=by rw [Nat.sub_self]; rfl
end
theorem Z3j (text:ByteArray) (j:Nat) (u:UInt8) (p:List UInt8) (hu:u≠0):(u :: p).isPrefixOf (text.data.toList.drop j)=(decide (Z9 text j=u.toNat) && p.isPrefixOf (text.data.toList.drop (j + 1))):=by
 by_cases h:j < text.size
 ·have h' : j < text.data.toList.length := by simpa using h
  rw [List.drop_eq_getElem_cons h',List.isPrefixOf_cons_cons];congr 1
  have hb:Z9 text j=(text.data.toList[j].toNat:Int):=by
   have h2:j < text.data.size:=h;unfold Z9 Array.getD;rw [dif_pos h2];rfl
  rw [hb,Bool.eq_iff_iff];simp only [beq_iff_eq,decide_eq_true_eq];constructor;·intro e; rw [e]
  ·intro e; exact (UInt8.toNat_inj.1 (by omega)).symm
 ·have h' : text.data.toList.length ≤ j := by simpa using h
  rw [List.drop_eq_nil_of_le h',Z2q (by omega)];have:u.toNat≠0:=fun e=>hu (UInt8.toNat_inj.1 (by simpa using e));have h3:¬ (0:Int)=u.toNat:=by omega
  simp [h3]
def lit3:Nat→ByteArray
 | 0=>⟨#[61,61,61]⟩
 | 1=>⟨#[38,38]⟩
 | _=>⟨#[124,124]⟩
def preB (text:ByteArray) (j m:Nat):Bool:=(lit3 m).data.toList.isPrefixOf (text.data.toList.drop j)
def Z2p (text:ByteArray) (j:Nat):Nat→ByteArray
 | 0=>text.extract j (j + 1)
 | m + 1=>if preB text j m then lit3 m else Z2p text j m
theorem pre0 (text:ByteArray) (j:Nat):preB text j 0=true↔Z9 text j=61∧Z9 text (j + 1)=61∧Z9 text (j + 2)=61:=by
 unfold preB;rw [show (lit3 0).data.toList=[61,61,61] from rfl,Z3j _ _ _ _ (by decide),Z3j _ _ _ _ (by decide),Z3j _ _ _ _ (by decide)];simp
theorem pre1 (text:ByteArray) (j:Nat):preB text j 1=true↔Z9 text j=38∧Z9 text (j + 1)=38:=by
 unfold preB;rw [show (lit3 1).data.toList=[38,38] from rfl,Z3j _ _ _ _ (by decide),Z3j _ _ _ _ (by decide)];simp
theorem pre2 (text:ByteArray) (j:Nat):preB text j 2=true↔Z9 text j=124∧Z9 text (j + 1)=124:=by
 unfold preB;rw [show (lit3 2).data.toList=[124,124] from rfl,Z3j _ _ _ _ (by decide),Z3j _ _ _ _ (by decide)];simp
theorem Z31 {text:ByteArray} {i:Nat} {u:UInt8} (h:Z9 text i=u.toNat):text.data.getD i 0=u:=UInt8.toNat_inj.1 (by unfold Z9 at h; omega)
theorem Z3u (text:ByteArray) (j n:Nat) (h:j + n≤text.size):text.extract j (j + n)=⟨((List.range n).map fun i=>text.data.getD (j + i) 0).toArray⟩:=by
 apply ByteArray.ext;apply Array.ext
 ·have : (text.extract j (j + n)).data.size = n := by change (text.extract j (j + n)).size = n; rw [ByteArray.size_extract]; omega
  rw [this]; simp
 ·intro i h1 h2;have e : (text.extract j (j + n)).data.size = n := by change (text.extract j (j + n)).size = n; rw [ByteArray.size_extract]; omega
  have h3:=getD_extract text (j:=j) (k:=j + n) (i:=i) (by omega) h;have h5:(text.extract j (j + n)).data.getD i 0=(text.extract j (j + n)).data[i]:=by simp only [Array.getD,dif_pos h1]; rfl
  rw [← h5,h3];simp
theorem Zfb (text:ByteArray) (j:Nat) (h:j < text.size):Z2p text j 3=text.extract j (j + Z02 text j)∧(Z2p text j 3).size=Z02 text j∧j + Z02 text j≤text.size:=by
 have key:∀ n,j + n≤text.size→(text.extract j (j + n)).size=n:=fun n hn=>by rw [ByteArray.size_extract]; omega
 have e0:=pre0 text j;have e1:=pre1 text j;have e2:=pre2 text j;simp only [Z2p];by_cases h2:preB text j 2=true
 ·have hb := e2.1 h2;have hl := Z2w (text := text) (i := j + 1) (by omega);have es : Z02 text j = 2 := by simp [Z02, hb]
  rw [Y5 h2,es,Z3u text j 2 (by omega)];have b0:=Z31 (u:=124) hb.1;have b1:=Z31 (u:=124) hb.2;refine ⟨?_,rfl,by omega⟩;simp only [List.range_succ,List.range_zero,List.nil_append,List.map_append,List.map_cons,List.map_nil,Nat.add_zero,b0,b1];rfl
 ·rw [Y3 h2];by_cases h1 : preB text j 1 = true
  ·have hb := e1.1 h1;have hl := Z2w (text := text) (i := j + 1) (by omega);have es : Z02 text j = 2 := by simp [Z02, hb]
   rw [Y5 h1,es,Z3u text j 2 (by omega)];have b0:=Z31 (u:=38) hb.1;have b1:=Z31 (u:=38) hb.2;refine ⟨?_,rfl,by omega⟩;simp only [List.range_succ,List.range_zero,List.nil_append,List.map_append,List.map_cons,List.map_nil,Nat.add_zero,b0,b1];rfl
  ·rw [Y3 h1];by_cases h0 : preB text j 0 = true
   ·have hb := e0.1 h0;have hl := Z2w (text := text) (i := j + 2) (by omega);have es : Z02 text j = 3 := by simp [Z02, hb]
    rw [Y5 h0,es,Z3u text j 3 (by omega)];have b0:=Z31 (u:=61) hb.1;have b1:=Z31 (u:=61) hb.2.1;have b2:=Z31 (u:=61) hb.2.2;refine ⟨?_,rfl,by omega⟩;simp only [List.range_succ,List.range_zero,List.nil_append,List.map_append,List.map_cons,List.map_nil,Nat.add_zero,b0,b1,b2];rfl
   ·rw [Y3 h0];have es:Z02 text j=1:=by
     unfold Z02;rw [Y3 (fun x=>h0 (e0.2 x)),Y3 (fun x=>h1 (e1.2 x)),Y3 (fun x=>h2 (e2.2 x))]
    rw [es];exact ⟨rfl,key 1 (by omega),by omega⟩
def Zcu:List UInt8:=[40,41,123,125,91,93,59,58,44,46,61,43,45,42,60,33]
theorem Z8h (u:UInt8):decide (Lib.indexByte Zcu u < 0)=!Z4r u.toNat:=by
 have key:∀ n:Fin 256,decide (Lib.indexByte Zcu (UInt8.ofNat n.val) < 0)=!Z4r ((UInt8.ofNat n.val).toNat:Int):=by decide +kernel
 have h:=key ⟨u.toNat,by have:=u.toNat_lt; omega⟩;simpa using h
end Go.Proofs.YtjcgkdfeplbajaaGreatDoor
namespace Go.Proofs
def Tryz.lays99_ren:Go.Shelf.Ren:=⟨fun | 99=>26 | 206=>42 | n=>n,fun | 9=>9 | 4=>4 | 3=>3 | n=>n,fun | n=>n⟩
theorem Tryz.lays99:Go.Proofs.Lays.n99 Tryz.prog Tryz.lays99_ren:={
 mixed:=by kernel_rfl
 f99:=Tryz.func26.trans (congrArg some (by kernel_rfl))
 f206:=Tryz.func42.trans (congrArg some (by kernel_rfl))
 t3:=Tryz.underlying3
 a3:=Tryz.isAgg3
 z3:=Tryz.sizeOf3
 v3:=Tryz.zeroValue3
 t4:=Tryz.underlying4
 a4:=Tryz.isAgg4
 z4:=Tryz.sizeOf4
 v4:=Tryz.zeroValue4
 t9:=Tryz.underlying9
 a9:=Tryz.isAgg9
 z9:=Tryz.sizeOf9
 v9:=Tryz.zeroValue9 }
open Go.RowKit Go.Lib in
theorem Tryz.strings_HasPrefix (s p:ByteArray) (w:World) :
 Calls Tryz.prog 26 #[.string s,.string p] w fun e w'=>e=.returned (.bool (Lib.hasPrefix s.data.toList p.data.toList))∧w'=w:=Any.strings_HasPrefix Tryz.lays99 s p w
end Go.Proofs
