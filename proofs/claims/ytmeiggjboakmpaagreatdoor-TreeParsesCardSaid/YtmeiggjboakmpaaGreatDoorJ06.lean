/- Package lex: Tokens, walked. -/
import Derived.Test.YtmeiggjboakmpaaGreatDoorJ03
import Derived.Test.YtmeiggjboakmpaaGreatDoorJ04
import Derived.Test.YtmeiggjboakmpaaGreatDoorJ05
import Derived.Deep.Cut
namespace Go.Proofs.YtmeiggjboakmpaaGreatDoor
open Go Go.RowKit
set_option maxRecDepth 100000
set_option maxHeartbeats 20000000
def Tok.cells (t:Tok):List Value:=[.int .i64 t.kind,.string t.text,.int .i64 t.n,.int .i64 t.at']
def Zkx (w:World) (base:Nat) (v:Value) (e:Int) (p:Int):Prop:=
 ∃ b,v=.iface 88 (.pointer (some ⟨b,0,none⟩))∧base≤b∧w.heap[b]?=some (.cells #[.int .i64 e,.int .i64 p] 89 (0,0))
def Zkl (w:World) (r:Except (Int×Nat) (List Tok)) (e:Ending) (w':World):Prop:=
 match r with
 | .ok l=>∃ v,e=.returned (.tuple #[v,.nilIface])∧w'.ownsRow w.heap.size 87 4 v l.length (l.flatMap Tok.cells)
 | .error (c,p)=>∃ x,e=.returned (.tuple #[.slice none 0 0,x])∧Zkx w' w.heap.size x c p
theorem ScanAt.belowOf {w0 w1 w:World} {sb a:Nat} {text:ByteArray} (h:ScanAt w1 w sb text a) (hB:Below w0.heap.size w0 w1) (hs:w0.heap.size≤sb):Below w0.heap.size w0 w:=
 ⟨h.os.trans hB.os,h.tape.trans hB.tape,h.output.trans hB.output,Ya hB.size h.size,fun k hk=>(h.block k (Ye hk hB.size) (by omega)).trans (hB.block k hk)⟩
structure Mid (w1 w:World) (sb tb:Nat) (text:ByteArray) (a:Nat) (v:Value) (l:List Tok) (c:Array Value):Prop where
 scan:ScanAt w1 w sb text a
 own:w.ownsRow (sb + 1) 87 4 v l.length (l.flatMap Tok.cells)
 blk:w.heap[tb]?=some (.cells c 87 (0,0))
 lt:sb < tb
 ge:w1.heap.size≤tb
 ne:v.ownBlock≠some tb
section
variable {w1 w w':World} {sb tb a b:Nat} {text:ByteArray} {v:Value} {l:List Tok} {c:Array Value}
theorem Mid.drew (m:Mid w1 w sb tb text a v l c):Mid w1 w.drew sb tb text a v l c:=⟨m.scan.drew,m.own.drew,m.blk,m.lt,m.ge,m.ne⟩
theorem Mid.row (m:Mid w1 w sb tb text a v l c) {g:Nat} (h:v.ownBlock=some g):g < w.heap.size∧g≠sb∧g≠tb:=
 ⟨(m.own.lt g h).2,by have:=(m.own.lt g h).1; omega,fun e=>m.ne (by rw [h,e])⟩
theorem Mid.tlt (m:Mid w1 w sb tb text a v l c):tb < w.heap.size:=(Y6.1 m.blk).1
theorem Mid.put (m:Mid w1 w sb tb text a v l c) (o:Nat) (x:Value):Mid w1 (w.setCell ⟨tb,o,none⟩ x) sb tb text a v l (c.setIfInBounds o x):=by
 have hs:(w.setCell ⟨tb,o,none⟩ x).heap.size=w.heap.size:=Yn ..;have far:∀ k,k≠tb→(w.setCell ⟨tb,o,none⟩ x).heap[k]?=w.heap[k]?:=fun k hk=>Yg _ _ _ _ hk;have hlt:=m.lt;have hge:=m.ge
 exact ⟨⟨(far sb (by omega)).trans m.scan.blk,m.scan.os,m.scan.tape,m.scan.output,by rw [hs]; exact m.scan.size,fun k hk hn=>(far k (by omega)).trans (m.scan.block k hk hn)⟩,
  Zq m.own fun g hg=>far g (m.row hg).2.2,Z07 _ m.blk,m.lt,m.ge,m.ne⟩
theorem Mid.set (m:Mid w1 w sb tb text a v l c) {x:Int} (hx:x=b):Mid w1 (w.setCell ⟨sb,1,none⟩ (.int .i64 x)) sb tb text b v l c:=by
 have hlt:=m.lt;exact ⟨m.scan.set' hx,Zq m.own fun g hg=>Yg _ _ _ _ (m.row hg).2.1,(Yg _ _ _ _ (by simp; omega)).trans m.blk,m.lt,m.ge,m.ne⟩
theorem Mid.call (m:Mid w1 w sb tb text a v l c) (h:ScanAt w w' sb text b):Mid w1 w' sb tb text b v l c:=by
 have hlt:=m.lt;exact ⟨m.scan.trans h,Zq m.own fun g hg=>h.block g (m.row hg).1 (m.row hg).2.1,(h.block tb m.tlt (by omega)).trans m.blk,m.lt,m.ge,m.ne⟩
theorem Mid.same (m:Mid w1 w sb tb text a v l c) (h:Below w.heap.size w w'):Mid w1 w' sb tb text a v l c:=
 ⟨m.scan.below h,Zq m.own fun g hg=>h.block g (m.row hg).1,(h.block tb m.tlt).trans m.blk,m.lt,m.ge,m.ne⟩
theorem Mid.cell (m:Mid w1 w sb tb text a v l c) (i:Nat) {x:Value} (h:c[i]?=some x):w.cell? ⟨tb,i,none⟩=some x:=by simp [World.cell?,m.blk,h]
theorem Mid.fz (m:Mid w1 w sb tb text a v l c) (i:Nat):w.frozen? ⟨tb,i,none⟩=false:=by simp [World.frozen?,m.blk]
theorem Mid.new (hS:ScanAt w1 w sb text a) (hO:w.ownsRow (sb + 1) 87 4 v l.length (l.flatMap Tok.cells)) (c:Array Value):Mid w1 (w.alloc (.cells c 87)) sb w.heap.size text a v l c:=by
 have hB:Below w.heap.size w (w.alloc (.cells c 87)):=(Y8 _ _).alloc (Y5 _) _;exact ⟨hS.below hB,Zq hO fun g hg=>hB.block g (hO.lt g hg).2,heap_alloc_new w _,hS.lt,hS.size,fun e=>by have:=(hO.lt _ e).2; omega⟩
theorem Mid.name (m:Mid w1 w sb tb text a v l c):∃ W,W=w∧Mid w1 W sb tb text a v l c:=⟨w,rfl,m⟩
theorem Mid.app {T:TypeId} {x:Array Value} (m:Mid w1 w sb tb text a v l c) (hz:w1.heap.size=sb + 1) (hg:(w.alloc (.cells x T)).grownBy w' v.ownBlock):ScanAt w1 w' sb text a:=by
 have hB:Below w.heap.size w (w.alloc (.cells x T)):=(Y8 _ _).alloc (Y5 _) _;have hlt:=m.scan.lt;have hs:=m.scan.size;have hsz:w.heap.size≤(w.alloc (.cells x T)).heap.size:=hB.size;have far:∀ k,k < w.heap.size→v.ownBlock≠some k→w'.heap[k]?=w.heap[k]?:=fun k hk hn=>(hg.block k (by omega) (fun e=>hn e.symm)).trans (hB.block k hk);have ho:∀ k,k≤sb→v.ownBlock≠some k:=fun k hk e=>by have:=(m.own.lt k e).1; omega
 exact ⟨(far sb hlt (ho sb (Y5 _))).trans m.scan.blk,hg.os.trans m.scan.os,hg.tape.trans m.scan.tape,hg.output.trans m.scan.output,Ya hs (Ya hsz hg.size),fun k hk hn=>(far k (by omega) (ho k (by omega))).trans (m.scan.block k hk hn)⟩
end
theorem extract_drop (text:ByteArray) (j:Nat):(text.extract j text.size).data.toList=text.data.toList.drop j:=by
 rw [ByteArray.data_extract,Array.toList_extract];simp [List.extract];rw [Ym (by simp)]
def pw:Nat→Int
 | 0=>1
 | m + 1=>10 * pw m
theorem Zmw:∀ m,m≤9→pw m≤1000000000:=by decide
theorem Z4x {w:World} {base:Nat} {v:Value} {l:List Tok} {t:Tok} (h:w.ownsRow base 87 4 v (l.length + 1) (l.flatMap Tok.cells ++ t.cells)):w.ownsRow base 87 4 v (l ++ [t]).length ((l ++ [t]).flatMap Tok.cells):=by
 simpa using h
theorem Z6a {w:World} {base base':Nat} {e:TypeId} {m:Nat} {v:Value} {n:Nat} {xs:List Value} (hb:base'≤base) (h:w.ownsRow base e m v n xs):w.ownsRow base' e m v n xs:=by
 refine ⟨h.1,?_⟩;rcases h.2 with hn | ⟨g,cap,cur,h1,h2,h3⟩;·exact .inl hn
 ·exact .inr ⟨g,cap,cur,h1,Ya hb h2,h3⟩
theorem Z6s {w W:World} {e p:Int} (h:Below w.heap.size w W) (W':World) (hW:W'=(W.alloc (.cells #[.int .i64 e,.int .i64 p] 89)).drew∨W'=W.alloc (.cells #[.int .i64 e,.int .i64 p] 89):=by first | exact .inl rfl | exact .inr rfl) :
 (∃ x,Ending.returned (.tuple #[.slice none 0 0,.iface 88 (.pointer (some ⟨W.heap.size,0,none⟩))])=.returned (.tuple #[.slice none 0 0,x])∧Zkx W' w.heap.size x e p)∧Below w.heap.size w W':=by
 have hs:=h.size;rcases hW with rfl | rfl;·exact ⟨⟨_,rfl,W.heap.size,rfl,hs,heap_alloc_new W _⟩,(h.alloc hs _).drew⟩
 ·exact ⟨⟨_,rfl,W.heap.size,rfl,hs,heap_alloc_new W _⟩,h.alloc hs _⟩
theorem Words.below {w w':World} (h:Words w) (hB:Below w.heap.size w w'):Words w':=by
 intro j hj;have hc:=h j hj;have hlt:3 < w.heap.size:=by
  rcases Nat.lt_or_ge 3 w.heap.size with h' | h';·exact h'
  ·simp [World.cell?,Array.getElem?_eq_none h'] at hc
 exact (hB.cell (p:=⟨3,j,none⟩) hlt).trans hc
theorem Tryz.infoTok:(Tryz.prog.info? 87).map (fun i=>(i.zero,i.size,i.bytes))=some (some (.agg #[.int .i64 0,.string ⟨#[]⟩,.int .i64 0,.int .i64 0]),4,40):=by kernel_rfl
theorem Za4 (w:World) (text:ByteArray) (hm:text.size≤3000) (hW:Words w) :
 Calls Tryz.prog 17 #[.string text] w fun e w'=>Zkl w (Z6h text) e w'∧Below w.heap.size w w':=by
 obtain ⟨R,hR⟩:=zX (Z6h text)
 rw [← hR];have HR:=lh hR;have HW:=lh hW;clear hR hW;go_enter Tryz.func17,Tryz.ntmps17
 go_wp2;obtain ⟨sb,hsb⟩:=zX w.heap.size
 obtain ⟨w1,hw1⟩:=zX (w.alloc (.cells #[.string text,.int .i64 0] 85))
 rw [← hsb,← hw1];have S1:ScanAt w1 w1 sb text 0:=ScanAt.refl (by rw [hw1,hsb]; exact heap_alloc_new w _);have hB1:Below w.heap.size w w1:=by rw [hw1]; exact (Y8 _ _).alloc (Y5 _) _
 have hz1:w1.heap.size=sb + 1:=by rw [hw1,hsb]; simp
 have hb0:w.heap.size≤sb:=by omega
 have HZ:=lh hz1;have B1:=lh hB1;have hst:∃ (i f:Nat) (l:List Tok) (v:Value),v=Value.slice none 0 0∧ScanAt w1 w1 sb text i∧w1.ownsRow (sb + 1) 87 4 v l.length (l.flatMap Tok.cells)∧lexF text f i l=R∧text.size + 1≤i + f∧i≤text.size∧l.length≤i:=
  ⟨0,text.size + 1,[],_,rfl,S1,World.ownsRow_nil _ _ _ _,HR.out.symm,by omega,by omega,Y5 _⟩
 have ST:=lh hst;have HSB:=lh hsb;clear hst hw1 S1 hB1 hz1 hsb HR;go_loopw [5] (fun v wr=>∃ (i f:Nat) (l:List Tok) (v':Value),v'=v∧ScanAt w1 wr sb text i∧wr.ownsRow (sb + 1) 87 4 v' l.length (l.flatMap Tok.cells)∧lexF text f i l=R∧text.size + 1≤i + f∧i≤text.size∧l.length≤i) (fun _ wr=>text.size + 1 - (intOf ((wr.cell? ⟨sb,1,none⟩).getD .nilIface)).toNat)
 case atStart=>exact ST.out
 case round=>
  obtain ⟨i,f,l,v,rfl,hS,hO,hq,hf,hi,hl⟩:=hrel;obtain ⟨f,rfl⟩:∃ g,f=g + 1:=⟨f - 1,by omega⟩
  have SC:=hS.c1;have HC:=lh (Zgi hS.blk hi (by omega));have SI:=lh hS;have OI:=lh hO;have HQ:=lh hq;clear hS hO hq ST;go_wp2_with fail
  refine HC.out.mono ?_;rintro e w2 ⟨j,hj,hij,hjs,rfl,hS⟩;have hO2:w2.ownsRow (sb + 1) 87 4 v l.length (l.flatMap Tok.cells):=Zq OI.out fun g hg=>hS.block g (OI.out.lt g hg).2 (by have:=(OI.out.lt g hg).1; omega);have S2:=SI.out.trans hS;have HJ:=lh hj;have O2:=lh hO2;have q1:=S2.c1;have hsl2:=S2.lt;have S2:=lh S2;have SC0:=lh SC;clear HC SI SC OI hS hO2 hj;go_upto_region 7 with (fail)
  have M3:=Mid.new S2.out O2.out #[.int .i64 0,.string ⟨#[]⟩,.int .i64 0,.int .i64 j];obtain ⟨w3,hw3⟩:=zX (w2.alloc (.cells #[.int .i64 0,.string ⟨#[]⟩,.int .i64 0,.int .i64 j] 87))
  obtain ⟨tb,htb⟩:=zX w2.heap.size
  rw [← htb,← hw3] at M3 ⊢;have q0:=M3.scan.c0;have q1:=M3.scan.c1;have t0:=M3.cell 0 rfl;have t1:=M3.cell 1 rfl;have t2:=M3.cell 2 rfl;have t3:=M3.cell 3 rfl;have z0:=M3.fz 0;have z1:=M3.fz 1;have z2:=M3.fz 2;have z3:=M3.fz 3;have zs:=M3.scan.fz 1;have hts:=M3.lt;have htl:=M3.tlt;have hsl:=M3.scan.lt;have M3:=lh M3;have CI:=SC0;clear hw3 htb S2 O2 SC0 hsl2;obtain ⟨i0,hi0,hz0,hz1,hz2⟩:=info_parts Tryz.infoTok;by_cases hje:j=text.size
  ·subst hje;have HR2 := lh (Zdm HQ.out HJ.out (Y5 _));obtain ⟨w4, hw, M4⟩ := (M3.out.put 0 (.int .i64 6)).name;clear q0 q1 t0 t1 t2 t3 z0 z1 z2 z3 zs hts htl hsl;have q0 := M3.out.scan.c0;have q1 := M3.out.scan.c1;have t0 := M3.out.cell 0 rfl;have t1 := M3.out.cell 1 rfl;have t2 := M3.out.cell 2 rfl;have t3 := M3.out.cell 3 rfl;have z0 := M3.out.fz 0;have z1 := M3.out.fz 1;have z2 := M3.out.fz 2;have z3 := M3.out.fz 3;have zs := M3.out.scan.fz 1;have hts := M3.out.lt;have htl := M3.out.tlt;have hsl := M3.out.scan.lt;go_upto_region 9 with (fail)
   rw [← hw];clear hw q0 q1 t0 t1 t2 t3 z0 z1 z2 z3 zs hts htl hsl;have q0:=M4.scan.c0;have q1:=M4.scan.c1;have t0:=M4.cell 0 rfl;have t1:=M4.cell 1 rfl;have t2:=M4.cell 2 rfl;have t3:=M4.cell 3 rfl;have z0:=M4.fz 0;have z1:=M4.fz 1;have z2:=M4.fz 2;have z3:=M4.fz 3;have zs:=M4.scan.fz 1;have hts:=M4.lt;have htl:=M4.tlt;have hsl:=M4.scan.lt;have M4:=lh M4
   go_wp2_with (at_builtin; go_must (refine wpList_append_lies _ rfl (.tmp 37) (.tmp 39) 53 rfl (sb + 1) 87 i0 _ 4 40 Tryz.underlying53 hi0 hz0 hz1 hz2 rfl (by decide) v l.length (l.flatMap Tok.cells) rfl (M4.out.own.alloc _) _ 1 1 (Tok.cells ⟨6,ByteArray.empty,0,text.size⟩) rfl rfl (Yi (cs:=(Tok.cells ⟨6,ByteArray.empty,0,text.size⟩).toArray) (t:=87) (fr:=(0,0)) (heap_alloc_new _ _)) (by simp [Tok.cells,Value.oneCell']) (by decide) (by unfold maxLen; omega) (by omega) (by simp; omega) _ rfl ?_); intro g cap w9 hown9 hgrow9 hat9 hgl9; have HG:=lh hgrow9; have HO9:=lh hown9; clear hgrow9 hown9 hat9 hgl9)
   go_ret2
   rw [HR2.out];exact ⟨⟨_,rfl,Z6a (by have:=HSB.out; omega) (Z4x HO9.out)⟩,((M4.out.scan.belowOf B1.out hb0).alloc (by have:=M4.out.scan.size; have:=HZ.out; omega) _).grown HG.out (by have:=M4.out.scan.size; have:=HZ.out; have:=HSB.out; simp; omega) (fun k hk=>by have:=(M4.out.own.lt k hk).1; have:=HSB.out; omega)⟩
  have hlt:j < text.size:=by omega
  have hne:((j:Int) == (text.size:Int))=false:=by simp; omega
  have hby:=Z2a (text:=text) hlt;obtain ⟨c,hc⟩:=zX (Zc text j)
  rw [← hc] at hby;obtain ⟨u,hu⟩:=zX (text[j])
  rw [← hu] at hby;have HU:=lh hby;have hb2:(text[j].toNat:Int)=c:=by rw [← hu]; exact hby.symm
  have HC:=lh hc;obtain ⟨Bl,hBl⟩:=zX (Z13 c)
  have HLt:Hid (∀ w,Calls Tryz.prog 44 #[.int .u8 c] w fun e w'=>e=.returned (.bool Bl)∧w=w'):=lh fun w=>by rw [hBl]; exact (Za6 w c).mono fun e w' h=>⟨h.1,h.2.symm⟩
  have HBl:=lh hBl;obtain ⟨Bd,hBd⟩:=zX (Z0q c)
  have HDt:Hid (∀ w,Calls Tryz.prog 46 #[.int .u8 c] w fun e w'=>e=.returned (.bool Bd)∧w=w'):=lh fun w=>by rw [hBd]; exact (Z8y w c).mono fun e w' h=>⟨h.1,h.2.symm⟩
  have HBd:=lh hBd;clear hby hc hu hBl hBd hje hm;cases Bl
  ·cases Bd
   ·have HLN : Hid (Z13 (Zc text j) = false) := lh (by rw [← HC.out]; exact HBl.out.symm);have HDN : Hid (Z0q (Zc text j) = false) := lh (by rw [← HC.out]; exact HBd.out.symm);by_cases h39 : c = 39
    ·subst h39;have HQu := Zeg w3 sb j text M3.out.scan.blk hlt (by omega);obtain ⟨⟨bs, ec, k⟩, hr⟩ : ∃ r, r = Z0z text (j + 1) := ⟨_, rfl⟩
     have hcode:=Zbu text (text.size + 1 - (j + 1)) (j + 1) [];rw [show Z0o text (text.size + 1 - (j + 1)) (j + 1) []=Z0z text (j + 1) from rfl,← hr] at hcode;rw [← hr] at HQu;have HQu:=lh HQu;have HRq:=lh hr.symm;clear hr;simp only at hcode;go_wp2_with fail
     refine (HLt.out _).mono ?_;rintro e w4 ⟨rfl,rfl⟩;go_wp2_with fail
     refine (HDt.out _).mono ?_;rintro e w4 ⟨rfl,rfl⟩;go_wp2_with fail
     refine HQu.out.mono ?_;rintro e w4 ⟨rfl,hS⟩;have M4:=M3.out.call hS;clear HQu hS M3 q0 q1 t0 t1 t2 t3 z0 z1 z2 z3 zs hts htl hsl;have q0:=M4.scan.c0;have q1:=M4.scan.c1;have t0:=M4.cell 0 rfl;have t1:=M4.cell 1 rfl;have t2:=M4.cell 2 rfl;have t3:=M4.cell 3 rfl;have z0:=M4.fz 0;have z1:=M4.fz 1;have z2:=M4.fz 2;have z3:=M4.fz 3;have zs:=M4.scan.fz 1;have hts:=M4.lt;have htl:=M4.tlt;have hsl:=M4.scan.lt;have M4:=lh M4;rcases hcode with rfl | rfl | rfl
     ·have HT : Hid (Z1f text j = .ok (⟨4, ⟨bs.toArray⟩, 0, j⟩, k)) := lh (Zb1 HC.out.symm HRq.out);have M5 : Mid w1 _ sb tb text k v l #[.int .i64 4, .string ⟨bs.toArray⟩, .int .i64 0, .int .i64 j] := (M4.out.put 0 (.int .i64 4)).put 1 (.string ⟨bs.toArray⟩);have htk := Z2k text hlt HT.out;have hk1 := htk.1;have hk2 := htk.2.1;clear htk;go_upto_region 46 with (fail)
      obtain ⟨wT,hw,MT⟩:=M5.name;rw [← hw];clear hw;clear q0 q1 t0 t1 t2 t3 z0 z1 z2 z3 zs hts htl hsl;have q0:=MT.scan.c0;have q1:=MT.scan.c1;have t0:=MT.cell 0 rfl;have t1:=MT.cell 1 rfl;have t2:=MT.cell 2 rfl;have t3:=MT.cell 3 rfl;have z0:=MT.fz 0;have z1:=MT.fz 1;have z2:=MT.fz 2;have z3:=MT.fz 3;have zs:=MT.scan.fz 1;have hts:=MT.lt;have htl:=MT.tlt;have hsl:=MT.scan.lt;have MT:=lh MT
      go_wp2_with (at_builtin; go_must (refine wpList_append_lies _ rfl (.tmp 192) (.tmp 194) 53 rfl (sb + 1) 87 i0 _ 4 40 Tryz.underlying53 hi0 hz0 hz1 hz2 rfl (by decide) v l.length (l.flatMap Tok.cells) rfl (MT.out.own.alloc _) _ 1 1 (Tok.cells ⟨4,⟨bs.toArray⟩,0,j⟩) rfl rfl (Yi (cs:=(Tok.cells ⟨4,⟨bs.toArray⟩,0,j⟩).toArray) (t:=87) (fr:=(0,0)) (heap_alloc_new _ _)) (by simp [Tok.cells,Value.oneCell']) (by decide) (by unfold maxLen; omega) (by omega) (by simp; omega) _ rfl ?_); intro g cap w9 hown9 hgrow9 hat9 hgl9; have HG:=lh hgrow9; have HO9:=lh hown9; clear hgrow9 hown9 hat9 hgl9)
      have S9:=MT.out.app HZ.out HG.out;have S9:=lh S9;go_roundw
      case rel=>exact ⟨k,f,l ++ [⟨4,⟨bs.toArray⟩,0,j⟩],_,rfl,S9.out,Z4x HO9.out,Z21 HQ.out HJ.out hlt HT.out,by omega,by omega,by simp; omega⟩
      case measure=>
       rw [S9.out.c1,CI.out];simp [intOf];omega
     ·have HE := lh (Z1r HQ.out HJ.out hlt (Z5k HC.out.symm HRq.out));go_wp2;go_ret2
      rw [HE.out];exact Z6s (M4.out.scan.belowOf B1.out hb0) _
     ·have HE := lh (Z1r HQ.out HJ.out hlt (Z9w HC.out.symm HRq.out));go_wp2;go_ret2
      rw [HE.out];exact Z6s (M4.out.scan.belowOf B1.out hb0) _
    have n39:(c == 39)=false:=by simp [h39]
    have HQN:Hid (Zc text j≠39):=lh (by rw [← HC.out]; exact h39);clear h39;obtain ⟨x1,hx1⟩:=zX (text.extract j (j + 1))
    have hj1:j + 1≤text.size:=by omega
    go_wp2_with fail
    refine (HLt.out _).mono ?_;rintro e w4 ⟨rfl,rfl⟩;go_wp2_with fail
    refine (HDt.out _).mono ?_;rintro e w4 ⟨rfl,rfl⟩;go_wp2_with fail
    have HX1:=lh hx1;clear hx1;have wr1:IntKind.i64.wrap ((j:Int) + 1)=(j:Int) + 1:=IntWalk.i64_in _ (by omega);have wr2:((j:Int) + 1).toNat=j + 1:=by omega
    have wr3:(j:Int) + 1≤text.size:=by omega
    have wr4:0≤(j:Int) + 1:=by omega
    have wr5:(j:Int)≤(j:Int) + 1:=by omega
    refine Zf [0,2,4,6,8,10,12,14,16,18,20,22,25] [13,14] (fun W=>W.cell? ⟨sb,1,none⟩=some (.int .i64 j)) q1 fun _=>?_;simp only [Zh,pD,zD,zE,zF,zG,zH,zI,zJ,zK]
    iterate 12
     first | refine Za _ ?_ | refine Zb ?_
     simp only [Act.put,zA,zB,zC]
    refine Z5 (fun K hK=>?_);go_simp
    refine hK _ _ ((M3.out.put 0 (.int .i64 5)).drew.scan.c1) ?_;clear hK K;refine Z6 ?_;have M5:Mid w1 _ sb tb text j v l #[.int .i64 5,.string (Z4a text j 0),.int .i64 0,.int .i64 j]:=((M3.out.put 0 (.int .i64 5)).put 1 (.string (text.extract j (j + 1)))).drew;go_upto_region 12 with (fail)
    obtain ⟨w5,hw,M5⟩:=M5.name;rw [← hw];clear hw;clear q0 q1 t0 t1 t2 t3 z0 z1 z2 z3 zs hts htl hsl M3 wr1 wr2 wr3 wr4 wr5;have q0:=M5.scan.c0;have q1:=M5.scan.c1;have t0:=M5.cell 0 rfl;have t1:=M5.cell 1 rfl;have t2:=M5.cell 2 rfl;have t3:=M5.cell 3 rfl;have z0:=M5.fz 0;have z1:=M5.fz 1;have z2:=M5.fz 2;have z3:=M5.fz 3;have zs:=M5.scan.fz 1;have hts:=M5.lt;have htl:=M5.tlt;have hsl:=M5.scan.lt;have M5:=lh M5;go_wp2;obtain ⟨w6,hw6⟩:=zX (w5.alloc (.cells #[.string ⟨#[61,61,61]⟩,.string ⟨#[38,38]⟩,.string ⟨#[124,124]⟩] 9))
    obtain ⟨lb,hlb⟩:=zX w5.heap.size
    have hLB:w6.heap[lb]?=some (.cells #[.string ⟨#[61,61,61]⟩,.string ⟨#[38,38]⟩,.string ⟨#[124,124]⟩] 9 (0,0)):=by rw [hw6,hlb]; exact heap_alloc_new w5 _
    have M6:Mid w1 w6 sb tb text j v l #[.int .i64 5,.string (Z4a text j 0),.int .i64 0,.int .i64 j]:=by rw [hw6]; exact M5.out.same ((Y8 _ _).alloc (Y5 _) _)
    have hlt2:lb≠tb:=by omega
    rw [← hlb,← hw6];have hst3:∃ m:Nat,Value.int .i64 0=.int .i64 m∧m≤3∧Mid w1 w6 sb tb text j v l #[.int .i64 5,.string (Z4a text j m),.int .i64 0,.int .i64 j]∧w6.heap[lb]?=some (.cells #[.string ⟨#[61,61,61]⟩,.string ⟨#[38,38]⟩,.string ⟨#[124,124]⟩] 9 (0,0)):=⟨0,rfl,by omega,M6,hLB⟩
    have ST3:=lh hst3;have HLT2:=lh hlt2;clear hst3 M6 hLB hw6 hlb hlt2 M5 q0 q1 t0 t1 t2 t3 z0 z1 z2 z3 zs hts htl hsl;go_loopw [62] (fun x wr2=>∃ m:Nat,x=.int .i64 m∧m≤3∧Mid w1 wr2 sb tb text j v l #[.int .i64 5,.string (Z4a text j m),.int .i64 0,.int .i64 j]∧wr2.heap[lb]?=some (.cells #[.string ⟨#[61,61,61]⟩,.string ⟨#[38,38]⟩,.string ⟨#[124,124]⟩] 9 (0,0))) (fun x _=>3 - (intOf x).toNat)
    case atStart=>exact ST3.out
    case round=>
     obtain ⟨m,rfl,hm3,hM,hLB⟩:=hrel;have M6:=lh hM;have l0:wr.cell? ⟨lb,0,none⟩=some (.string ⟨#[61,61,61]⟩):=by simp [World.cell?,hLB]
     have l1:wr.cell? ⟨lb,1,none⟩=some (.string ⟨#[38,38]⟩):=by simp [World.cell?,hLB]
     have l2:wr.cell? ⟨lb,2,none⟩=some (.string ⟨#[124,124]⟩):=by simp [World.cell?,hLB]
     have HLB:=lh hLB;clear hLB ST3;have q0:=hM.scan.c0;have q1:=hM.scan.c1;have t0:=hM.cell 0 rfl;have t1:=hM.cell 1 rfl;have t2:=hM.cell 2 rfl;have t3:=hM.cell 3 rfl;have z0:=hM.fz 0;have z1:=hM.fz 1;have z2:=hM.fz 2;have z3:=hM.fz 3;have zs:=hM.scan.fz 1;have hts:=hM.lt;have htl:=hM.tlt;have hsl:=hM.scan.lt;clear hM;by_cases hm:m=3
     ·subst hm;obtain ⟨X, hX⟩ := zX (Z4a text j 3)
      rw [← hX] at t1 M6;obtain ⟨z,hz⟩:=zX (Z0a text j)
      have hs3:=Zgd text j hlt;rw [← hX,← hz] at hs3;obtain ⟨hXe,hXs,hzl⟩:=hs3;have HXe:=lh hXe;have HZz:=lh hz;obtain ⟨ki,hki⟩:=zX (Lib.indexByte Z9i u)
      have hsi:=Zcs u;rw [← hki,← HU.out] at hsi;have HI:Hid (Calls Tryz.prog 49 #[.string ⟨#[40,41,123,125,91,93,59,58,44,46,61,43,45,42,60,33]⟩,.int .u8 c] wr fun e w'=>e=.returned (.int .i64 ki)∧wr=w'):=lh ((Tryz.strings_IndexByte _ _ wr).mono fun e w' h=>⟨by rw [h.1,hki,HU.out]; simp [Z9i],h.2.symm⟩);have hzp:1≤z:=by rw [hz]; unfold Z0a; (repeat' split) <;> omega
      clear hX hXe hz hki;obtain ⟨Bs,hBs⟩:=zX (Z5f c)
      rw [← hBs] at hsi;have HBs:=lh hBs;clear hBs;cases Bs
      ·have hk0 : ki < 0 := by simpa using hsi
       clear hsi;by_cases hz11:z=1
       ·subst hz11;have HE := lh (Z1r HQ.out HJ.out hlt (Z89 HLN.out HDN.out HQN.out ⟨HZz.out.symm, by rw [← HC.out]; exact HBs.out.symm⟩));go_wp2_with fail
        refine HI.out.mono ?_;rintro e w7 ⟨rfl,rfl⟩;go_wp2;refine Zf [0,2,4,10,7,8] [6] (fun W=>W.cell? ⟨tb,3,none⟩=some (.int .i64 j)) t3 fun _=>?_;simp only [Zh,pD,zD,zE,zF,zG,zH,zI,zJ,zK]
        iterate 4
         first | refine Za _ ?_ | refine Zb ?_
         simp only [Act.put,zA,zB,zC]
        refine Z5 (fun K hK=>?_);go_simp
        refine hK _ _ ((Z8 htl).trans t3) ?_;clear hK K
        iterate 1
         first | refine Za _ ?_ | refine Zb ?_
         simp only [Act.put,zA,zB,zC]
        refine Z6 ?_;go_wp2;go_ret2
        rw [HE.out];exact Z6s (M6.out.scan.belowOf B1.out hb0) _
       ·have hzn : ((z : Int) == 1) = false := by simp; omega
        have HT:Hid (Z1f text j=.ok (⟨5,X,0,j⟩,j + z)):=lh (by have h:=Z7p HLN.out HDN.out HQN.out (fun h=>hz11 (HZz.out.trans h.1)); rw [← HZz.out,← HXe.out] at h; exact h);go_wp2_with fail
        refine HI.out.mono ?_;rintro e w7 ⟨rfl,rfl⟩;go_wp2;refine Zf [0,2,4,6,8,10,12] [7,8,9,10] (fun W=>W.cell? ⟨sb,1,none⟩=some (.int .i64 j)∧W.cell? ⟨tb,1,none⟩=some (.string X)) ⟨q1,t1⟩ fun _=>?_;simp only [Zh,pD,zD,zE,zF,zG,zH,zI,zJ,zK]
        iterate 7
         first | refine Za _ ?_ | refine Zb ?_
         simp only [Act.put,zA,zB,zC]
        refine Z6 ?_;have M8:Mid w1 _ sb tb text (j + z) v l #[.int .i64 5,.string X,.int .i64 0,.int .i64 j]:=(M6.out.set (b:=j + z) (x:=(j:Int) + z) (by omega)).drew;have htk:=Z2k text hlt HT.out;have hk1:=htk.1;have hk2:=htk.2.1;clear htk;go_upto_region 46 with (fail)
        obtain ⟨wT,hw,MT⟩:=M8.name;rw [← hw];clear hw;clear q0 q1 t0 t1 t2 t3 z0 z1 z2 z3 zs hts htl hsl;have q0:=MT.scan.c0;have q1:=MT.scan.c1;have t0:=MT.cell 0 rfl;have t1:=MT.cell 1 rfl;have t2:=MT.cell 2 rfl;have t3:=MT.cell 3 rfl;have z0:=MT.fz 0;have z1:=MT.fz 1;have z2:=MT.fz 2;have z3:=MT.fz 3;have zs:=MT.scan.fz 1;have hts:=MT.lt;have htl:=MT.tlt;have hsl:=MT.scan.lt;have MT:=lh MT
        go_wp2_with (at_builtin; go_must (refine wpList_append_lies _ rfl (.tmp 192) (.tmp 194) 53 rfl (sb + 1) 87 i0 _ 4 40 Tryz.underlying53 hi0 hz0 hz1 hz2 rfl (by decide) v l.length (l.flatMap Tok.cells) rfl (MT.out.own.alloc _) _ 1 1 (Tok.cells ⟨5,X,0,j⟩) rfl rfl (Yi (cs:=(Tok.cells ⟨5,X,0,j⟩).toArray) (t:=87) (fr:=(0,0)) (heap_alloc_new _ _)) (by simp [Tok.cells,Value.oneCell']) (by decide) (by unfold maxLen; omega) (by omega) (by simp; omega) _ rfl ?_); intro g cap w9 hown9 hgrow9 hat9 hgl9; have HG:=lh hgrow9; have HO9:=lh hown9; clear hgrow9 hown9 hat9 hgl9)
        have S9:=MT.out.app HZ.out HG.out;have S9:=lh S9;go_roundw
        case rel=>exact ⟨j + z,f,l ++ [⟨5,X,0,j⟩],_,rfl,S9.out,Z4x HO9.out,Z21 HQ.out HJ.out hlt HT.out,by omega,by omega,by simp; omega⟩
        case measure=>
         rw [S9.out.c1,CI.out];simp [intOf];omega
      ·have hk0 : ¬ ki < 0 := by simpa using hsi
       clear hsi;have HT:Hid (Z1f text j=.ok (⟨5,X,0,j⟩,j + z)):=lh (by have h:=Z7p HLN.out HDN.out HQN.out (fun h=>by have h2:=h.2; rw [← HC.out,← HBs.out] at h2; cases h2); rw [← HZz.out,← HXe.out] at h; exact h);go_wp2_with fail
       refine HI.out.mono ?_;rintro e w7 ⟨rfl,rfl⟩;go_wp2;refine Zf [0,2,4,6,8,10,12] [7,8,9,10] (fun W=>W.cell? ⟨sb,1,none⟩=some (.int .i64 j)∧W.cell? ⟨tb,1,none⟩=some (.string X)) ⟨q1,t1⟩ fun _=>?_;simp only [Zh,pD,zD,zE,zF,zG,zH,zI,zJ,zK]
       iterate 7
        first | refine Za _ ?_ | refine Zb ?_
        simp only [Act.put,zA,zB,zC]
       refine Z6 ?_;have M8:Mid w1 _ sb tb text (j + z) v l #[.int .i64 5,.string X,.int .i64 0,.int .i64 j]:=(M6.out.set (b:=j + z) (x:=(j:Int) + z) (by omega)).drew;have htk:=Z2k text hlt HT.out;have hk1:=htk.1;have hk2:=htk.2.1;clear htk;go_upto_region 46 with (fail)
       obtain ⟨wT,hw,MT⟩:=M8.name;rw [← hw];clear hw;clear q0 q1 t0 t1 t2 t3 z0 z1 z2 z3 zs hts htl hsl;have q0:=MT.scan.c0;have q1:=MT.scan.c1;have t0:=MT.cell 0 rfl;have t1:=MT.cell 1 rfl;have t2:=MT.cell 2 rfl;have t3:=MT.cell 3 rfl;have z0:=MT.fz 0;have z1:=MT.fz 1;have z2:=MT.fz 2;have z3:=MT.fz 3;have zs:=MT.scan.fz 1;have hts:=MT.lt;have htl:=MT.tlt;have hsl:=MT.scan.lt;have MT:=lh MT
       go_wp2_with (at_builtin; go_must (refine wpList_append_lies _ rfl (.tmp 192) (.tmp 194) 53 rfl (sb + 1) 87 i0 _ 4 40 Tryz.underlying53 hi0 hz0 hz1 hz2 rfl (by decide) v l.length (l.flatMap Tok.cells) rfl (MT.out.own.alloc _) _ 1 1 (Tok.cells ⟨5,X,0,j⟩) rfl rfl (Yi (cs:=(Tok.cells ⟨5,X,0,j⟩).toArray) (t:=87) (fr:=(0,0)) (heap_alloc_new _ _)) (by simp [Tok.cells,Value.oneCell']) (by decide) (by unfold maxLen; omega) (by omega) (by simp; omega) _ rfl ?_); intro g cap w9 hown9 hgrow9 hat9 hgl9; have HG:=lh hgrow9; have HO9:=lh hown9; clear hgrow9 hown9 hat9 hgl9)
       have S9:=MT.out.app HZ.out HG.out;have S9:=lh S9;go_roundw
       case rel=>exact ⟨j + z,f,l ++ [⟨5,X,0,j⟩],_,rfl,S9.out,Z4x HO9.out,Z21 HQ.out HJ.out hlt HT.out,by omega,by omega,by simp; omega⟩
       case measure=>
        rw [S9.out.c1,CI.out];simp [intOf];omega
     ·have hp : ∀ m, Hid (Calls Tryz.prog 31 #[.string (text.extract j text.size), .string (lit3 m)] wr fun e w' => e = .returned (.bool (preB text j m)) ∧ wr = w') := fun m => lh ((Tryz.strings_HasPrefix _ _ wr).mono fun e w' h => ⟨by rw [h.1]; unfold preB Lib.hasPrefix; rw [extract_drop], h.2.symm⟩);have HP := lh hp;clear hp;have hm012 : m = 0 ∨ m = 1 ∨ m = 2 := by omega
      clear hm;rcases hm012 with rfl | rfl | rfl
      ·obtain ⟨Bp, hBp⟩ := zX (preB text j 0)
       have HPm:=HP.out 0;rw [← hBp] at HPm;have HBP:=lh hBp;clear hBp HP;go_wp2_with fail
       refine HPm.out.mono ?_;rintro e w7 ⟨rfl,rfl⟩;cases Bp
       ·have hsT:Z4a text j (0 + 1)=Z4a text j 0:=by
         show (if preB text j 0 then lit3 0 else Z4a text j 0)=_;rw [← HBP.out]; rfl
        have HT:=lh hsT;clear hsT;go_wp2;go_roundw
        case rel=>exact ⟨0 + 1,by go_num,by omega,by rw [HT.out]; exact M6.out,HLB.out⟩
        case measure=>simp [intOf]
       ·have hsT:Z4a text j (0 + 1)=lit3 0:=by
         show (if preB text j 0 then lit3 0 else Z4a text j 0)=_;rw [← HBP.out]; rfl
        have HT:=lh hsT;clear hsT;go_wp2;go_roundw
        case rel=>exact ⟨0 + 1,by go_num,by omega,by rw [HT.out]; exact M6.out.put 1 (.string (lit3 0)),(Yg _ _ _ _ HLT2.out).trans HLB.out⟩
        case measure=>simp [intOf]
      ·obtain ⟨Bp, hBp⟩ := zX (preB text j 1)
       have HPm:=HP.out 1;rw [← hBp] at HPm;have HBP:=lh hBp;clear hBp HP;go_wp2_with fail
       refine HPm.out.mono ?_;rintro e w7 ⟨rfl,rfl⟩;cases Bp
       ·have hsT:Z4a text j (1 + 1)=Z4a text j 1:=by
         show (if preB text j 1 then lit3 1 else Z4a text j 1)=_;rw [← HBP.out]; rfl
        have HT:=lh hsT;clear hsT;go_wp2;go_roundw
        case rel=>exact ⟨1 + 1,by go_num,by omega,by rw [HT.out]; exact M6.out,HLB.out⟩
        case measure=>simp [intOf]
       ·have hsT:Z4a text j (1 + 1)=lit3 1:=by
         show (if preB text j 1 then lit3 1 else Z4a text j 1)=_;rw [← HBP.out]; rfl
        have HT:=lh hsT;clear hsT;go_wp2;go_roundw
        case rel=>exact ⟨1 + 1,by go_num,by omega,by rw [HT.out]; exact M6.out.put 1 (.string (lit3 1)),(Yg _ _ _ _ HLT2.out).trans HLB.out⟩
        case measure=>simp [intOf]
      ·obtain ⟨Bp, hBp⟩ := zX (preB text j 2)
       have HPm:=HP.out 2;rw [← hBp] at HPm;have HBP:=lh hBp;clear hBp HP;go_wp2_with fail
       refine HPm.out.mono ?_;rintro e w7 ⟨rfl,rfl⟩;cases Bp
       ·have hsT:Z4a text j (2 + 1)=Z4a text j 2:=by
         show (if preB text j 2 then lit3 2 else Z4a text j 2)=_;rw [← HBP.out]; rfl
        have HT:=lh hsT;clear hsT;go_wp2;go_roundw
        case rel=>exact ⟨2 + 1,by go_num,by omega,by rw [HT.out]; exact M6.out,HLB.out⟩
        case measure=>simp [intOf]
       ·have hsT:Z4a text j (2 + 1)=lit3 2:=by
         show (if preB text j 2 then lit3 2 else Z4a text j 2)=_;rw [← HBP.out]; rfl
        have HT:=lh hsT;clear hsT;go_wp2;go_roundw
        case rel=>exact ⟨2 + 1,by go_num,by omega,by rw [HT.out]; exact M6.out.put 1 (.string (lit3 2)),(Yg _ _ _ _ HLT2.out).trans HLB.out⟩
        case measure=>simp [intOf]
   ·have HR3 := lh (Zfi M3.out.scan.blk (by omega) (by omega));have HLN : Hid (Z13 (Zc text j) = false) := lh (by rw [← HC.out]; exact HBl.out.symm);have HDC : Hid (Z0q (Zc text j) = true) := lh (by rw [← HC.out]; exact HBd.out.symm);go_wp2_with fail
    refine (HLt.out _).mono ?_;rintro e w4 ⟨rfl,rfl⟩;go_wp2_with fail
    refine (HDt.out _).mono ?_;rintro e w4 ⟨rfl,rfl⟩;go_wp2_with fail
    refine HR3.out.mono ?_;rintro e w4 ⟨k,hk,hjk,hks,rfl,hS⟩;obtain ⟨n,rfl⟩:∃ n,k=j + n:=⟨k - j,by omega⟩
    have M4:=M3.out.call hS;have HK:=lh hk;have HSP:=lh (Z12 Z0q text (text.size - j) j (Y5 _) (by omega));have hn1:1≤n:=by
     rcases Nat.lt_or_ge j (j + n) with h | h;·omega
     ·have h3:=HSP.out.2.2.2;rw [← HK.out] at h3;have h4:=h3 (by omega);rw [show j + n=j by omega,HDC.out] at h4;cases h4
    have HDG:Hid (∀ m,m < n→Z0q (Zc text (j + m))=true):=lh fun m hm=>HSP.out.2.2.1 _ (by omega) (by rw [← HK.out]; omega);clear HR3 hS hk M3 q0 q1 t0 t1 t2 t3 z0 z1 z2 z3 zs hts htl hsl HSP;obtain ⟨s,hs⟩:=zX (text.extract j (j + n))
    have hss:s.size=n:=by rw [hs,Z3n text hks]; omega
    have HSY:Hid (∀ m (h:m < s.size),(s[m].toNat:Int)=Zc text (j + m)):=lh fun m h=>by
     rw [← Z2a h]; subst hs; exact Z05 text (by omega) hks
    rw [← hs];have HS:=lh hs;clear hs;have hs0:(s[0].toNat:Int)=c:=by rw [HSY.out 0 (by omega),HC.out]; rfl
    have q0:=M4.scan.c0;have q1:=M4.scan.c1;have t0:=M4.cell 0 rfl;have t1:=M4.cell 1 rfl;have t2:=M4.cell 2 rfl;have t3:=M4.cell 3 rfl;have z0:=M4.fz 0;have z1:=M4.fz 1;have z2:=M4.fz 2;have z3:=M4.fz 3;have zs:=M4.scan.fz 1;have hts:=M4.lt;have htl:=M4.tlt;have hsl:=M4.scan.lt;have M4:=lh M4;by_cases h10:10 < n
    ·have HE := lh (Z1r HQ.out HJ.out hlt (Z4m HLN.out HDC.out HK.out (by omega)));go_wp2;refine Zf [0, 2, 4, 10, 7, 8] [6] (fun W => W.cell? ⟨tb, 3, none⟩ = some (.int .i64 j)) t3 fun _ => ?_;simp only [Zh, pD, zD, zE, zF, zG, zH, zI, zJ, zK]
     iterate 4
      first | refine Za _ ?_ | refine Zb ?_
      simp only [Act.put,zA,zB,zC]
     refine Z5 (fun K hK=>?_);go_simp
     refine hK _ _ ((Z8 htl).trans t3) ?_;clear hK K
     iterate 1
      first | refine Za _ ?_ | refine Zb ?_
      simp only [Act.put,zA,zB,zC]
     refine Z6 ?_;go_wp2;go_ret2
     rw [HE.out];exact Z6s (M4.out.scan.belowOf B1.out hb0) _
    by_cases h48:1 < n∧c=48
    ·obtain ⟨h1, rfl⟩ := h48;have HE := lh (Z1r HQ.out HJ.out hlt (Z4m HLN.out HDC.out HK.out (by rw [← HC.out]; omega)));go_wp2;refine Zf [0, 2, 4, 10, 7, 8] [6] (fun W => W.cell? ⟨tb, 3, none⟩ = some (.int .i64 j)) t3 fun _ => ?_;simp only [Zh, pD, zD, zE, zF, zG, zH, zI, zJ, zK]
     iterate 4
      first | refine Za _ ?_ | refine Zb ?_
      simp only [Act.put,zA,zB,zC]
     refine Z5 (fun K hK=>?_);go_simp
     refine hK _ _ ((Z8 htl).trans t3) ?_;clear hK K
     iterate 1
      first | refine Za _ ?_ | refine Zb ?_
      simp only [Act.put,zA,zB,zC]
     refine Z6 ?_;go_wp2;go_ret2
     rw [HE.out];exact Z6s (M4.out.scan.belowOf B1.out hb0) _
    have H48:Hid (¬ (10 < j + n - j∨(1 < j + n - j∧Zc text j=48))):=lh (by rw [← HC.out]; omega);have hcase:(1 < n∧(c == 48)=false)∨¬ 1 < n:=by
     by_cases h1:1 < n;·exact .inl ⟨h1,by simp; omega⟩
     ·exact .inr (by omega)
    clear h48;have hst2:∃ (m:Nat) (N:Int),Value.int .i64 0=.int .i64 m∧m≤n∧Mid w1 w4 sb tb text (j + n) v l #[.int .i64 0,.string ⟨#[]⟩,.int .i64 N,.int .i64 j]∧numF text (j + n) (n - m) (j + m) N=numF text (j + n) n j 0∧0≤N∧N < pw m:=
     ⟨0,0,rfl,by omega,M4.out,by simp,by omega,by simp [pw]⟩
    have ST2:=lh hst2;clear hst2 M4;obtain ⟨X,hX⟩:=zX (numF text (j + n) n j 0)
    rw [← hX] at ST2;have HX:=lh hX;clear hX;rcases hcase with ⟨h1,hc48⟩ | h1
    all_goals
     go_wp2;clear q0 q1 t0 t1 t2 t3 z0 z1 z2 z3 zs hts htl hsl;go_loopw [146] (fun x wr2=>∃ (m:Nat) (N:Int),x=.int .i64 m∧m≤n∧Mid w1 wr2 sb tb text (j + n) v l #[.int .i64 0,.string ⟨#[]⟩,.int .i64 N,.int .i64 j]∧numF text (j + n) (n - m) (j + m) N=X∧0≤N∧N < pw m) (fun x _=>20 - (intOf x).toNat)
     case atStart=>exact ST2.out
     case round=>
      obtain ⟨m,N,rfl,hmn,hM,hnf,hN0,hNp⟩:=hrel;have hszp:1≤s.size:=by omega
      have M6:=lh hM;have q0:=hM.scan.c0;have q1:=hM.scan.c1;have t0:=hM.cell 0 rfl;have t1:=hM.cell 1 rfl;have t2:=hM.cell 2 rfl;have t3:=hM.cell 3 rfl;have z0:=hM.fz 0;have z1:=hM.fz 1;have z2:=hM.fz 2;have z3:=hM.fz 3;have zs:=hM.scan.fz 1;have hts:=hM.lt;have htl:=hM.tlt;have hsl:=hM.scan.lt;have HNF:=lh hnf;clear hM hnf ST2;by_cases hlm:m < s.size
      ·have hNb : N < 1000000000 := Int.lt_of_lt_of_le hNp (Zmw m (by omega));have HNP := lh hNp;obtain ⟨d, hd⟩ := zX (Zc text (j + m))
       have hsm:(s[m].toNat:Int)=d:=by rw [HSY.out m hlm,hd]
       have hdg:=HDG.out m (by omega);rw [← hd] at hdg;have hd0:48≤d∧d≤57:=by simpa [Z0q] using hdg
       obtain ⟨hd1,hd2⟩:=hd0;have HD0:=lh hd;clear hd hdg hNp;go_wp2_with fail
       refine Zf [0,2,4,6,8,10,12,15] [8,9,10] (fun W=>W.cell? ⟨tb,2,none⟩=some (.int .i64 N)) t2 fun _=>?_;simp only [Zh,pD,zD,zE,zF,zG,zH,zI,zJ,zK]
       iterate 7
        first | refine Za _ ?_ | refine Zb ?_
        simp only [Act.put,zA,zB,zC]
       refine Z5 (fun K hK=>?_);go_simp
       refine hK _ _ t2 ?_;clear hK K;refine Z6 ?_;go_wp2;go_roundw
       case rel=>exact ⟨m + 1,10 * N + (d - 48),by go_num,by omega,(M6.out.put 2 (.int .i64 (10 * N + (d - 48)))).drew,by have h:=HNF.out; rw [Zh7 (by omega),← HD0.out] at h; exact h,by omega,by have:=HNP.out; simp only [pw]; omega⟩
       case measure=>simp [intOf]; omega
      ·have hme : n = m := by omega
       subst hme;have hNX:N=numF text (j + n) (j + n - j) j 0:=by rw [Nat.add_sub_cancel_left,← HX.out,← HNF.out]; exact Zfg.symm
       have HNX:=lh hNX;clear hNX hNp;have M7:Mid w1 _ sb tb text (j + n) v l #[.int .i64 3,.string ⟨#[]⟩,.int .i64 N,.int .i64 j]:=M6.out.put 0 (.int .i64 3);go_upto_region 37 with (fail)
       obtain ⟨w7,hw,M7⟩:=M7.name;rw [← hw];clear hw;clear q0 q1 t0 t1 t2 t3 z0 z1 z2 z3 zs hts htl hsl;have q0:=M7.scan.c0;have q1:=M7.scan.c1;have t0:=M7.cell 0 rfl;have t1:=M7.cell 1 rfl;have t2:=M7.cell 2 rfl;have t3:=M7.cell 3 rfl;have z0:=M7.fz 0;have z1:=M7.fz 1;have z2:=M7.fz 2;have z3:=M7.fz 3;have zs:=M7.scan.fz 1;have hts:=M7.lt;have htl:=M7.tlt;have hsl:=M7.scan.lt;have M7:=lh M7;by_cases hbig:1000000000 < N
       ·have HE := lh (Z1r HQ.out HJ.out hlt (Z4r HLN.out HDC.out HK.out H48.out (by rw [← HNX.out]; exact hbig)));go_wp2;refine Zf [0, 2, 4, 10, 7, 8] [6] (fun W => W.cell? ⟨tb, 3, none⟩ = some (.int .i64 j)) t3 fun _ => ?_;simp only [Zh, pD, zD, zE, zF, zG, zH, zI, zJ, zK]
        iterate 4
         first | refine Za _ ?_ | refine Zb ?_
         simp only [Act.put,zA,zB,zC]
        refine Z5 (fun K hK=>?_);go_simp
        refine hK _ _ ((Z8 htl).trans t3) ?_;clear hK K
        iterate 1
         first | refine Za _ ?_ | refine Zb ?_
         simp only [Act.put,zA,zB,zC]
        refine Z6 ?_;go_wp2;go_ret2
        rw [HE.out];exact Z6s (M7.out.scan.belowOf B1.out hb0) _
       ·have HT : Hid (Z1f text j = .ok (⟨3, ByteArray.empty, N, j⟩, j + n)) := lh (by have h := Z6e HLN.out HDC.out HK.out H48.out (by rw [← HNX.out]; exact hbig); rw [← HNX.out] at h; exact h);have htk := Z2k text hlt HT.out;have hk1 := htk.1;have hk2 := htk.2.1;clear htk;go_upto_region 46 with (fail)
        obtain ⟨wT,hw,MT⟩:=M7.out.name;rw [← hw];clear hw;clear q0 q1 t0 t1 t2 t3 z0 z1 z2 z3 zs hts htl hsl;have q0:=MT.scan.c0;have q1:=MT.scan.c1;have t0:=MT.cell 0 rfl;have t1:=MT.cell 1 rfl;have t2:=MT.cell 2 rfl;have t3:=MT.cell 3 rfl;have z0:=MT.fz 0;have z1:=MT.fz 1;have z2:=MT.fz 2;have z3:=MT.fz 3;have zs:=MT.scan.fz 1;have hts:=MT.lt;have htl:=MT.tlt;have hsl:=MT.scan.lt;have MT:=lh MT
        go_wp2_with (at_builtin; go_must (refine wpList_append_lies _ rfl (.tmp 192) (.tmp 194) 53 rfl (sb + 1) 87 i0 _ 4 40 Tryz.underlying53 hi0 hz0 hz1 hz2 rfl (by decide) v l.length (l.flatMap Tok.cells) rfl (MT.out.own.alloc _) _ 1 1 (Tok.cells ⟨3,ByteArray.empty,N,j⟩) rfl rfl (Yi (cs:=(Tok.cells ⟨3,ByteArray.empty,N,j⟩).toArray) (t:=87) (fr:=(0,0)) (heap_alloc_new _ _)) (by simp [Tok.cells,Value.oneCell']) (by decide) (by unfold maxLen; omega) (by omega) (by simp; omega) _ rfl ?_); intro g cap w9 hown9 hgrow9 hat9 hgl9; have HG:=lh hgrow9; have HO9:=lh hown9; clear hgrow9 hown9 hat9 hgl9)
        have S9:=MT.out.app HZ.out HG.out;have S9:=lh S9;go_roundw
        case rel=>exact ⟨j + n,f,l ++ [⟨3,ByteArray.empty,N,j⟩],_,rfl,S9.out,Z4x HO9.out,Z21 HQ.out HJ.out hlt HT.out,by omega,by omega,by simp; omega⟩
        case measure=>
         rw [S9.out.c1,CI.out];simp [intOf];omega
  ·have HR3 := lh (Zi4 M3.out.scan.blk (by omega) (by omega));have hlc : Z13 (Zc text j) = true := by rw [← HC.out]; exact HBl.out.symm
   have HLC:=lh hlc;clear hlc;go_wp2_with fail
   refine (HLt.out _).mono ?_;rintro e w4 ⟨rfl,rfl⟩;go_wp2_with fail
   refine HR3.out.mono ?_;rintro e w4 ⟨k,hk,hjk,hks,rfl,hS⟩;have M4:=M3.out.call hS;have HK:=lh hk;clear HR3 hS hk M3 q0 q1 t0 t1 t2 t3 z0 z1 z2 z3 zs hts htl hsl;have q0:=M4.scan.c0;have q1:=M4.scan.c1;have t0:=M4.cell 0 rfl;have t1:=M4.cell 1 rfl;have t2:=M4.cell 2 rfl;have t3:=M4.cell 3 rfl;have z0:=M4.fz 0;have z1:=M4.fz 1;have z2:=M4.fz 2;have z3:=M4.fz 3;have zs:=M4.scan.fz 1;have hts:=M4.lt;have htl:=M4.tlt;have hsl:=M4.scan.lt;obtain ⟨s,hs⟩:=zX (text.extract j k)
   have hss:s.size=k - j:=by rw [hs]; exact Z3n text hks
   rw [← hs];have HS:=lh hs;have HSS:=lh hss;clear hs hss;have M5:Mid w1 _ sb tb text k v l #[.int .i64 1,.string s,.int .i64 0,.int .i64 j]:=(M4.put 0 (.int .i64 1)).put 1 (.string s);go_upto_region 23 with (fail)
   obtain ⟨w5,hw,M5⟩:=M5.name;rw [← hw];clear hw;clear M4 q0 q1 t0 t1 t2 t3 z0 z1 z2 z3 zs hts htl hsl;have q0:=M5.scan.c0;have q1:=M5.scan.c1;have t0:=M5.cell 0 rfl;have t1:=M5.cell 1 rfl;have t2:=M5.cell 2 rfl;have t3:=M5.cell 3 rfl;have z0:=M5.fz 0;have z1:=M5.fz 1;have z2:=M5.fz 2;have z3:=M5.fz 3;have zs:=M5.scan.fz 1;have hts:=M5.lt;have htl:=M5.tlt;have hsl:=M5.scan.lt;obtain ⟨Bw,hBw⟩:=zX (Z2z s)
   have HIW:Hid (Calls Tryz.prog 47 #[.string s] w5 fun e w'=>e=.returned (.bool Bw)∧w5=w'):=lh (by rw [hBw]; exact (Zej w5 s (HW.out.below (M5.scan.belowOf B1.out hb0))).mono fun e w' h=>⟨h.1,h.2.symm⟩);have HBw:=lh hBw;have M5:=lh M5;have hsz:s.size=k - j:=HSS.out;clear hBw;go_wp2_with fail
   refine HIW.out.mono ?_;rintro e w6 ⟨rfl,rfl⟩;cases Bw
   ·by_cases h20 : 20 < k - j
    ·have h20' : decide (((k - j : Nat) : Int) > 20) = true := by simp; omega
     have HE:=lh (Z1r HQ.out HJ.out hlt (Z87 HLC.out HK.out (by rw [← HS.out]; exact HBw.out.symm) h20));go_wp2;refine Zf [0,2,4,10,7,8] [6] (fun W=>W.cell? ⟨tb,3,none⟩=some (.int .i64 j)) t3 fun _=>?_;simp only [Zh,pD,zD,zE,zF,zG,zH,zI,zJ,zK]
     iterate 4
      first | refine Za _ ?_ | refine Zb ?_
      simp only [Act.put,zA,zB,zC]
     refine Z5 (fun K hK=>?_);go_simp
     refine hK _ _ ((Z8 htl).trans t3) ?_;clear hK K
     iterate 1
      first | refine Za _ ?_ | refine Zb ?_
      simp only [Act.put,zA,zB,zC]
     refine Z6 ?_;go_wp2;go_ret2
     rw [HE.out];exact Z6s (M5.out.scan.belowOf B1.out hb0) _
    ·have HT : Hid (Z1f text j = .ok (⟨1, s, 0, j⟩, k)) := lh (by have h := Z7x HLC.out HK.out (by rw [← HS.out]; exact HBw.out.symm) h20; rw [← HS.out] at h; exact h);have htk := Z2k text hlt HT.out;have hk1 := htk.1;have hk2 := htk.2.1;clear htk;go_upto_region 46 with (fail)
     obtain ⟨wT,hw,MT⟩:=M5.out.name;rw [← hw];clear hw;clear q0 q1 t0 t1 t2 t3 z0 z1 z2 z3 zs hts htl hsl;have q0:=MT.scan.c0;have q1:=MT.scan.c1;have t0:=MT.cell 0 rfl;have t1:=MT.cell 1 rfl;have t2:=MT.cell 2 rfl;have t3:=MT.cell 3 rfl;have z0:=MT.fz 0;have z1:=MT.fz 1;have z2:=MT.fz 2;have z3:=MT.fz 3;have zs:=MT.scan.fz 1;have hts:=MT.lt;have htl:=MT.tlt;have hsl:=MT.scan.lt;have MT:=lh MT
     go_wp2_with (at_builtin; go_must (refine wpList_append_lies _ rfl (.tmp 192) (.tmp 194) 53 rfl (sb + 1) 87 i0 _ 4 40 Tryz.underlying53 hi0 hz0 hz1 hz2 rfl (by decide) v l.length (l.flatMap Tok.cells) rfl (MT.out.own.alloc _) _ 1 1 (Tok.cells ⟨1,s,0,j⟩) rfl rfl (Yi (cs:=(Tok.cells ⟨1,s,0,j⟩).toArray) (t:=87) (fr:=(0,0)) (heap_alloc_new _ _)) (by simp [Tok.cells,Value.oneCell']) (by decide) (by unfold maxLen; omega) (by omega) (by simp; omega) _ rfl ?_); intro g cap w9 hown9 hgrow9 hat9 hgl9; have HG:=lh hgrow9; have HO9:=lh hown9; clear hgrow9 hown9 hat9 hgl9)
     have S9:=MT.out.app HZ.out HG.out;have S9:=lh S9;go_roundw
     case rel=>exact ⟨k,f,l ++ [⟨1,s,0,j⟩],_,rfl,S9.out,Z4x HO9.out,Z21 HQ.out HJ.out hlt HT.out,by omega,by omega,by simp; omega⟩
     case measure=>
      rw [S9.out.c1,CI.out];simp [intOf];omega
   ·have HT : Hid (Z1f text j = .ok (⟨2, s, 0, j⟩, k)) := lh (by have h := Z84 HLC.out HK.out (by rw [← HS.out]; exact HBw.out.symm); rw [← HS.out] at h; exact h);have M6 : Mid w1 _ sb tb text k v l #[.int .i64 2, .string s, .int .i64 0, .int .i64 j] := M5.out.put 0 (.int .i64 2);have htk := Z2k text hlt HT.out;have hk1 := htk.1;have hk2 := htk.2.1;clear htk;go_upto_region 46 with (fail)
    obtain ⟨wT,hw,MT⟩:=M6.name;rw [← hw];clear hw;clear q0 q1 t0 t1 t2 t3 z0 z1 z2 z3 zs hts htl hsl;have q0:=MT.scan.c0;have q1:=MT.scan.c1;have t0:=MT.cell 0 rfl;have t1:=MT.cell 1 rfl;have t2:=MT.cell 2 rfl;have t3:=MT.cell 3 rfl;have z0:=MT.fz 0;have z1:=MT.fz 1;have z2:=MT.fz 2;have z3:=MT.fz 3;have zs:=MT.scan.fz 1;have hts:=MT.lt;have htl:=MT.tlt;have hsl:=MT.scan.lt;have MT:=lh MT
    go_wp2_with (at_builtin; go_must (refine wpList_append_lies _ rfl (.tmp 192) (.tmp 194) 53 rfl (sb + 1) 87 i0 _ 4 40 Tryz.underlying53 hi0 hz0 hz1 hz2 rfl (by decide) v l.length (l.flatMap Tok.cells) rfl (MT.out.own.alloc _) _ 1 1 (Tok.cells ⟨2,s,0,j⟩) rfl rfl (Yi (cs:=(Tok.cells ⟨2,s,0,j⟩).toArray) (t:=87) (fr:=(0,0)) (heap_alloc_new _ _)) (by simp [Tok.cells,Value.oneCell']) (by decide) (by unfold maxLen; omega) (by omega) (by simp; omega) _ rfl ?_); intro g cap w9 hown9 hgrow9 hat9 hgl9; have HG:=lh hgrow9; have HO9:=lh hown9; clear hgrow9 hown9 hat9 hgl9)
    have S9:=MT.out.app HZ.out HG.out;have S9:=lh S9;go_roundw
    case rel=>exact ⟨k,f,l ++ [⟨2,s,0,j⟩],_,rfl,S9.out,Z4x HO9.out,Z21 HQ.out HJ.out hlt HT.out,by omega,by omega,by simp; omega⟩
    case measure=>
     rw [S9.out.c1,CI.out];simp [intOf];omega
end Go.Proofs.YtmeiggjboakmpaaGreatDoor
