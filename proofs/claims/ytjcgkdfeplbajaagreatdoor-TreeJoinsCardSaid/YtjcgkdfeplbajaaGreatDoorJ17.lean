/- Package tree: assign. -/
import Derived.Test.YtjcgkdfeplbajaaGreatDoorJ16
namespace Go.Proofs.YtjcgkdfeplbajaaGreatDoor
open Go Go.RowKit
set_option maxRecDepth 100000
set_option maxHeartbeats 20000000
set_option linter.unusedVariables false
theorem Z8c (f:Nat) (hBn:Says 69 (fun rb=>#[.pointer (some ⟨rb,0,none⟩),.int .i64 0]) (.bin 0) f) (hV:Says 52 rArg .value f) :
 Says 65 rArg .assign (f + 1):=by
 intro w rb B d ts r hP hp;have hw:Zz (Z0 f (.bin 0) d ts) (fun x ts'=>if isT s_eq ts' then (if x.kind=23∨x.kind=36 then Zz (Z0 f .value d ts'.tail) fun y ts=>okT (.mk 24 ByteArray.empty 0 [x,y]) ts else some (.error (1,(hdT ts).at'))) else okT x ts')=some r:=hp;have HP:=lh hP;obtain ⟨tb,off,cap,h⟩:=hP.rd;have c0:=h.c0;have t3:=h.hd (j:=3) rfl;have hpos:=h.pos;have hm:=h.most;have hle:=h.le;unfold maxLen at hm;obtain ⟨n,hn⟩:=zX ts.length
 rw [← hn] at c0 hpos hle;have H1:=lh hw;unfold rArg;obtain ⟨pl,hpl⟩:=zX ((hdT ts).at')
 rw [← hpl] at t3;have HPL:=lh hpl;clear hP hp hw h hn hpl;have hlt:=HP.out.lt;rcases Zp H1.out with ⟨⟨c,p⟩,hv,rfl⟩ | ⟨t,us,hv,h2⟩
 ·have HV := lh (hBn w rb B d _ _ HP.out hv);clear hv;go_enter Tryz.func65, Tryz.ntmps65
  go_wp2_with fail
  refine HV.out.mono ?_;rintro e w2 ⟨⟨b,rfl,h1,h2⟩,hF⟩;exact ⟨rfl,⟨b,rfl,h1,h2⟩,hF⟩
 ·have HV := lh (hBn w rb B d _ _ HP.out hv);have hl := Z0k hv;have H2 := lh h2;clear hv h2;go_enter Tryz.func65, Tryz.ntmps65
  go_wp2_with fail
  refine HV.out.mono ?_;rintro e w2 ⟨a,rfl,hG,hR2,hF2⟩;have hblk:=hG.at'.blkOf;have d0:w2.cell? ⟨a.b,0,none⟩=some (.int .i64 a.kind):=by simp [World.cell?,hblk]
  have hka:a.kind=t.kind:=by rw [← hG.tree]; cases a; rfl
  have HKA:=lh hka;have P2:=lh (HP.out.next hR2 hF2 hl);have G2:=lh hG;have F2:=lh hF2;obtain ⟨ab,hab⟩:=zX a.b
  obtain ⟨ak,hak⟩:=zX a.kind
  have hal:=G2.out.at'.lt;rw [← hab] at d0 hal ⊢;rw [← hak] at d0;have HAB:=lh hab;have HAK:=lh hak;clear hR2 hF2 hG HV hl hblk hka hab hak c0 t3;by_cases he:isT s_eq us=true
  ·have h3 := H2.out;rw [Y5 he] at h3;have HI := Z2k w2 rb us d s_eq P2.out.rd;rw [he] at HI;unfold s_eq at HI;have HI := lh HI;have HE := lh he;clear he;go_wp2_with fail
   refine HI.out.mono ?_;rintro e w3 ⟨rfl,hB3⟩;have P3:=lh (P2.out.below hB3);have G3:=lh (G2.out.rfr hlt (RFr.below (rb:=rb) hB3));have F3:=lh (F2.out.trans (RFr.below (rb:=rb) hB3));have d0':=(hB3.cell (p:=⟨ab,0,none⟩) hal).trans d0;clear hB3 HI;by_cases hk:t.kind=23∨t.kind=36
   ·rw [Y5 hk] at h3;have H3 := lh h3;clear h3;have HT := Z0j w3 rb us d s_eq P3.out.rd HE.out;unfold s_eq at HT;have HT := lh HT;have hak2 : ak = 23 ∨ ak = 36 := by rw [HAK.out, HKA.out]; exact hk
    clear hk;rcases hak2 with rfl | rfl
    all_goals
     go_wp2_with fail
     refine HT.out.mono ?_;rintro e w5 ⟨rfl,hR5,hF5⟩;have P5:=P3.out.tail hR5 hF5;have G5:=lh (G3.out.rfr hlt hF5);have F5:=lh (F3.out.trans hF5);rcases Zp H3.out with ⟨⟨c,p⟩,hv,rfl⟩ | ⟨y,vs,hv,h4⟩
     ·have HV := lh (hV w5 rb B d _ _ P5 hv);clear hv hR5 hF5;go_wp2_with fail
      refine HV.out.mono ?_;rintro e w6 ⟨⟨b,rfl,h1,h2⟩,hF⟩;exact ⟨rfl,Z01.pre F5.out (r:=.error (c,p)) ⟨⟨b,rfl,h1,h2⟩,hF⟩⟩
     ·obtain rfl := Yc h4;have HV := lh (hV w5 rb B d _ _ P5 hv);clear hv hR5 hF5 h4;go_wp2_with fail
      refine HV.out.mono ?_;rintro e w6 ⟨c,rfl,hC,hR6,hF6⟩;have G6:=G5.out.rfr hlt hF6;have FIN:=lh (Got.two (k:=24) (t:=⟨#[]⟩) HP.out.le (F5.out.trans hF6) G6 (wA:=w5) (fun x hx=>(G5.out.new x hx).2) F5.out.size hC);have hb1:Below w6.heap.size w6 (w6.alloc (.cells #[.pointer (some ⟨ab,0,none⟩),.pointer (some ⟨c.b,0,none⟩)] 22)):=(Y2 _ _).alloc (Y0 _) _
      have hb2:Below w6.heap.size w6 ((w6.alloc (.cells #[.pointer (some ⟨ab,0,none⟩),.pointer (some ⟨c.b,0,none⟩)] 22)).alloc (.cells #[.int .i64 24,.string ⟨#[]⟩,.int .i64 0,.slice (some ⟨w6.heap.size,0,none⟩) 2 2] 34)):=hb1.alloc (by simp) _;have R6:=lh (hR6.below hb2);have F6:=lh ((F5.out.trans hF6).trans (RFr.below (rb:=rb) hb2));clear hC hR6 hF6 G6 HV hb1 hb2;go_wp2_with fail
      refine (Z0a _ rb 24 ⟨#[]⟩ _ 2 2).mono ?_;rintro e w7 ⟨rfl,rfl⟩;go_wp2;go_ret;refine ⟨.mk (w6.heap.size + 1) (.slice (some ⟨w6.heap.size,0,none⟩) 2 2) 24 ⟨#[]⟩ 0 [a,c],rfl,?_,R6.out,F6.out⟩;rw [HAB.out];exact FIN.out
   ·rw [Y3 hk] at h3;obtain rfl := Yc h3;have n23 : (ak != 23) = true := by rw [HAK.out, HKA.out]; simp; omega
    have n36:(ak != 36)=true:=by rw [HAK.out,HKA.out]; simp; omega
    clear h3 hk;go_wp2;refine ⟨rfl,?_⟩;rw [← HPL.out];exact Z01.err F3.out (Z6i (Y0 _)) ((Y2 _ _).alloc (Y0 _) _)
  ·have he' : isT s_eq us = false := by simpa using he
   have h3:=H2.out;rw [Y3 he] at h3;obtain rfl:=Yc h3;have HI:=Z2k w2 rb us d s_eq P2.out.rd;rw [he'] at HI;unfold s_eq at HI;have HI:=lh HI;clear h3 he he';go_wp2_with fail
   refine HI.out.mono ?_;rintro e w3 ⟨rfl,hB3⟩;have R3:=lh (P2.out.rd.below hB3);have G3:=lh (G2.out.rfr hlt (RFr.below (rb:=rb) hB3));have F3:=lh (F2.out.trans (RFr.below (rb:=rb) hB3));clear hB3;go_wp2;go_ret;rw [HAB.out];exact ⟨a,rfl,G3.out,R3.out,F3.out⟩
theorem Z4d (w0 w:World) (rb B d:Nat) (ts:List Tok) (a:ATree) (t:Tree) (r:Except (Int×Nat) (Tree×List Tok)) (hP:Pre w rb B d ts) (hG:Got w0 B w a t) (hF:RFr w0 w rb) (hr:endT t ts=some r) :
 Calls Tryz.prog 47 #[.pointer (some ⟨rb,0,none⟩),.pointer (some ⟨a.b,0,none⟩)] w (Z01 w0 rb B d r):=by
 have HP:=lh hP;have HG:=lh hG;have HF:=lh hF;rcases Z17 hr with ⟨hs,h1⟩ | ⟨hs,rfl⟩
 ·obtain rfl := Yc h1;have HC := lh (Z19 w rb ts d Z1x hP.rd hs);clear hP hG hF hr hs h1;go_enter Tryz.func47, Tryz.ntmps47
  go_wp2_with fail
  refine HC.out.mono ?_;rintro e w3 ⟨rfl,hR3,hF3⟩;have R3:=lh hR3;have F3:=lh hF3;clear hR3 hF3 HC;go_wp2;go_ret;exact ⟨a,rfl,HG.out.rfr HP.out.lt F3.out,R3.out,HF.out.trans F3.out⟩
 ·have HC := lh (Z25 w rb ts d Z1x hP.rd hs);clear hP hG hF hr hs;go_enter Tryz.func47, Tryz.ntmps47
  go_wp2_with fail
  refine HC.out.mono ?_;rintro e w3 ⟨⟨b,rfl,h1,h2⟩,hB⟩;exact ⟨rfl,Z01.err HF.out ⟨b,rfl,h1,h2⟩ hB⟩
def Zct (f d:Nat) (kind:Int) (text:ByteArray) (p:Tree) (ts:List Tok):PR:=Z0i Z16 ts fun ts=>Zz (Z0 f (.block true) d ts) fun b ts=>okT (.mk kind text 0 [p,b]) ts
theorem Z5s {ts:List Tok} {k:ByteArray→List Tok→PR} {kk:Tree→List Tok→PR} {r:Except (Int×Nat) (Tree×List Tok)} (h:Zz (Z1m ts k) kk=some r):((hdT ts).kind=1∧Zz (k (hdT ts).text ts.tail) kk=some r)∨((hdT ts).kind≠1∧r=.error (3,(hdT ts).at')):=by
 unfold Z1m at h;by_cases hk:(hdT ts).kind=1;·rw [Y5 hk] at h; exact .inl ⟨hk,h⟩
 ·rw [Y3 hk] at h; exact .inr ⟨hk,(Yc h).symm⟩
theorem Z4p {ts:List Tok} (h:(hdT ts).kind=1):0 < ts.length:=by
 cases ts with
 | nil=>simp [hdT] at h
 | cons t l=>simp
def Zb6 (g f d:Nat) (kind:Int) (text:ByteArray) (acc:List Tree) (us:List Tok):PR:=Zz (if acc.length=8 then Z1k 4 us else Z1m us fun s ts=>Z0 g (.params (acc ++ [.mk 23 s 0 []])) d ts) (Zct f d kind text)
theorem Zc3 (F:Nat) (kind:Int) (text:ByteArray) (hB:Says 45 (fun rb=>#[.pointer (some ⟨rb,0,none⟩),.bool true]) (.block true) F) :
 Says 49 (fun rb=>#[.pointer (some ⟨rb,0,none⟩),.int .i64 kind,.string text]) (.func kind text) (F + 1):=by
 intro w rb B d ts r hP hp;have hw:Z0i Z15 ts (fun ts=>Zz (Z0 F (.params []) d ts) (Zct F d kind text))=some r:=hp;have HP:=lh hP;have HBL:=lh hB;simp only;rcases Z17 hw with ⟨hs,h1⟩ | ⟨hs,rfl⟩
 ·have HC := lh (Z19 w rb ts d Z15 hP.rd hs);have H1 := lh h1;clear hP hp hw hs h1 hB;go_enter Tryz.func49, Tryz.ntmps49
  go_wp2_with fail
  refine HC.out.mono ?_;rintro e w1 ⟨rfl,hR1,hF1⟩;have P1:=lh (HP.out.tail hR1 hF1);have HN:=lh (Z0a w1 rb 40 ⟨#[]⟩ none 0 0);obtain ⟨nb,hnb⟩:=zX w1.heap.size
  have G0:=Got.leaf (k:=40) (t:=⟨#[]⟩) (n:=0) HP.out.le hF1;have hal:Below w1.heap.size w1 (w1.alloc (.cells #[.int .i64 40,.string ⟨#[]⟩,.int .i64 0,.slice none 0 0] 34)):=(Y2 _ _).alloc (Y0 _) _;have R0:=hR1.below hal;have F0:=hF1.trans (RFr.below (rb:=rb) hal);rw [← hnb] at G0 HN;obtain ⟨us0,hus0⟩:=zX ts.tail
  have hul:us0.length≤ts.length:=by rw [hus0]; simp
  rw [← hus0] at R0 H1;clear hus0;go_wp2_with fail
  refine HN.out.mono ?_;rintro e w2 ⟨rfl,hw2⟩;rw [← hw2] at G0 R0 F0;have hst:∃ (g:Nat) (acc:List Tree) (us:List Tok) (v:Value) (kids:List ATree),g≤F∧Zz (Z0 g (.params acc) d us) (Zct F d kind text)=some r∧Got w B w2 (.mk nb v 40 ⟨#[]⟩ 0 kids) (.mk 40 ⟨#[]⟩ 0 acc)∧Rd w2 rb us d∧RFr w w2 rb∧acc.length≤8∧us.length≤ts.length:=
   ⟨F,[],us0,_,[],Y0 _,H1.out,G0,R0,F0,by simp,hul⟩
  have ST:=lh hst;have HNB:=lh hnb;clear hst hw2 G0 R0 F0 HC HN hnb hF1 hR1 P1 H1 hal hul;go_wp2_with fail
  go_loopw [] (fun wr=>∃ (g:Nat) (acc:List Tree) (us:List Tok) (v:Value) (kids:List ATree),g≤F∧Zz (Z0 g (.params acc) d us) (Zct F d kind text)=some r∧Got w B wr (.mk nb v 40 ⟨#[]⟩ 0 kids) (.mk 40 ⟨#[]⟩ 0 acc)∧Rd wr rb us d∧RFr w wr rb∧acc.length≤8∧us.length≤ts.length) (fun wr=>leftOf wr rb)
  case atStart=>exact ST.out
  case round=>
   obtain ⟨g,acc,us,v,kids,hg,hq,hG,hR,hF,hl,hu⟩:=hrel;have G:=lh hG;have R:=lh hR;have FF:=lh hF;have RL:=lh hR.left;cases g with
   | zero=>cases hq
   | succ g=>
   rw [Z0] at hq;have HB:=Z2k wr rb us d Z16 hR;by_cases hb:isT Z16 us=true
   ·rw [hb] at HB;rw [Y5 hb] at hq;have hq : Zct F d kind text (.mk 40 ByteArray.empty 0 acc) us = some r := hq;have HB := lh HB;have HQ := lh hq;have HI := lh hb;unfold Z16 at HB;clear hG hR hF hq hb ST;go_wp2_with fail
    refine HB.out.mono ?_;rintro e w3 ⟨rfl,hB3⟩;have hlt:=HP.out.lt;have F3:=FF.out.trans (RFr.below (rb:=rb) hB3);have G3:=G.out.rfr hlt (RFr.below (rb:=rb) hB3);have R3:=R.out.below hB3;have P3:Pre w3 rb B d us:=⟨R3,HP.out.deep,hlt,Y4 HP.out.le F3.size,Y4 hu HP.out.few⟩
    have HC:=Z19 w3 rb us d Z16 R3 HI.out;unfold Z16 at HC;have HC:=lh HC;have F3:=lh F3;have G3:=lh G3;have P3:=lh P3;obtain ⟨_,h3⟩:isT Z16 us=true∧Zz (Z0 F (.block true) d us.tail) (fun b ts=>okT (.mk kind text 0 [.mk 40 ByteArray.empty 0 acc,b]) ts)=some r:=by
     rcases Z17 HQ.out with h | ⟨hs,_⟩;·exact h
     ·rw [HI.out] at hs; cases hs
    have H3:=lh h3;clear hB3 R3 h3 FF G R HB HQ;go_wp2_with fail
    refine HC.out.mono ?_;rintro e w4 ⟨rfl,hR4,hF4⟩;have P4:=lh (P3.out.tail hR4 hF4);have F4:=lh (F3.out.trans hF4);have G4:=lh (G3.out.rfr hlt hF4);clear hR4 hF4 HC F3 G3;rcases Zp H3.out with ⟨⟨c,p⟩,hv,rfl⟩ | ⟨t,ts2,hv,h4⟩
    ·have HV := lh (HBL.out w4 rb B d _ _ P4.out hv);clear hv;go_wp2_with fail
     refine HV.out.mono ?_;rintro e w5 ⟨⟨b,rfl,h1,h2⟩,hF⟩;exact ⟨rfl,Z01.pre F4.out (r:=.error (c,p)) ⟨⟨b,rfl,h1,h2⟩,hF⟩⟩
    ·have HV := lh (HBL.out w4 rb B d _ _ P4.out hv);obtain rfl := Yc h4;clear hv;go_wp2_with fail
     refine HV.out.mono ?_;rintro e w5 ⟨a,rfl,hG5,hR5,hF5⟩;have G5:=lh hG5;have R5:=lh hR5;have F5:=lh hF5;clear hG5 hR5 hF5 HV;have HN:=lh (Z0a (w5.alloc (.cells #[.pointer (some ⟨nb,0,none⟩),.pointer (some ⟨a.b,0,none⟩)] 22)) rb kind text (some ⟨w5.heap.size,0,none⟩) 2 2);go_wp2_with fail
     refine HN.out.mono ?_;rintro e w6 ⟨rfl,hw6⟩;have hfin:=Got.two (k:=kind) (t:=text) HP.out.le (F4.out.trans F5.out) (G4.out.rfr hlt F5.out) (wA:=w4) (fun x hx=>(G4.out.new x hx).2) F4.out.size G5.out;have hal6:=((Y2 w5.heap.size w5).alloc (Y0 _) (.cells #[.pointer (some ⟨nb,0,none⟩),.pointer (some ⟨a.b,0,none⟩)] 22))
     have hR6:Rd w6 rb ts2 d:=by rw [hw6]; exact (R5.out.below hal6).below ((Y2 _ _).alloc (Y0 _) _)
     have hF6:RFr w w6 rb:=by rw [hw6]; exact ((F4.out.trans F5.out).trans (RFr.below hal6)).trans (RFr.below ((Y2 _ _).alloc (Y0 _) _))
     have FIN:=lh hfin;have HW6:=lh hw6;have R6:=lh hR6;have F6:=lh hF6;clear hfin hw6 hR6 hF6 hal6 HN;go_wp2;go_ret;refine ⟨_,?pt,(by rw [HW6.out]; exact FIN.out),R6.out,F6.out⟩;case pt=>simp [ATree.b]
   ·have hb' : isT Z16 us = false := by simpa using hb
    rw [hb'] at HB;rw [Y3 hb] at hq;have HB:=lh HB;have HQ:=lh hq;unfold Z16 at HB;have hkl:kids.length=acc.length:=by
     have:=hG.tree;simp only [ATree.tree,Tree.mk.injEq,true_and] at this;rw [← this,Z1i,Yl]
    have HKL:=lh hkl;clear hG hR hF hq hb hb' ST hkl;go_wp2_with fail
    refine HB.out.mono ?_;rintro e w3 ⟨rfl,hB3⟩;have hlt:=HP.out.lt;have F3:=FF.out.trans (RFr.below (rb:=rb) hB3);have G3:=G.out.rfr hlt (RFr.below (rb:=rb) hB3);have R3:=R.out.below hB3;have P3:Pre w3 rb B d us:=⟨R3,HP.out.deep,hlt,Y4 HP.out.le F3.size,Y4 hu HP.out.few⟩
    obtain ⟨p,cp,rfl⟩:∃ p cp,v=.slice p kids.length cp:=by
     rcases Zm G3.at'.rowOf with ⟨h1,h2⟩ | ⟨g0,cap0,h1,_⟩
     ·simp only [ATree.v,ATree.kids] at h1 h2;exact ⟨none,0,by rw [h1,h2]⟩
     ·exact ⟨_,_,h1⟩
    have hblk:=G3.at'.blkOf;simp only [ATree.b,ATree.v,ATree.kind,ATree.text,ATree.n] at hblk;have n3:w3.cell? ⟨nb,3,none⟩=some (.slice p kids.length cp):=by simp [World.cell?,hblk]
    have F3:=lh F3;have G3:=lh G3;have P3:=lh P3;have HU:=lh hu;have HL:=lh hl;clear hB3 R3 FF G R HB hblk hu hl;by_cases h0:acc.length=0
    ·have a0 : decide (0 < kids.length) = false := by have := HKL.out; simp; exact List.eq_nil_of_length_eq_zero (by omega)
     have hq2:Zb6 g F d kind text acc us=some r:=by have h:=HQ.out; rw [Y3 (by omega)] at h; exact h
     have h8:¬ acc.length=8:=by omega
     have PQ:=lh (show Pre w3 rb B d us∧us.length≤ts.length from ⟨P3.out,HU.out⟩);have GQ:=G3;have FQ:=F3;have PL:=lh (Y0 us.length);clear HQ;have n8:((kids.length:Int) == 8)=false:=by have:=HKL.out; simp; omega
     have HQ2:=hq2;unfold Zb6 at HQ2;rw [Y3 h8] at HQ2;have HQ2:=lh HQ2;clear hq2;go_wp2_with fail
     refine Z4 [(true,0),(true,1),(true,2),(true,3),(true,4),(true,5),(true,6),(false,7),(false,8),(false,9),(false,10)] [11,12,13] (fun W=>W.cell? ⟨nb,3,none⟩=some (.slice p kids.length cp)) (by kernel_rfl) (by kernel_rfl) (fun _ _ d _ _ h=>by cases d <;> exact h) n3 (fun hS0=>?_);simp only [Zj,zD,zE,zF,zG,zH,zI]
     iterate 7
      first
       | (refine Z7 ?_ (by rfl) (fun w' hS'=>?_) ?_; rotate_left; (have s0:=hS'; go_simp; first | done | with_reducible rfl); simp only [Act.put,zA,zB,zC])
       | (refine Z6 (by rfl) ?_; simp only [Act.put,zA,zB,zC])
     refine Zd (fun K hK=>?_);go_simp
     have hus:us.length≤ts.length:=PQ.out.2;rcases Z5s HQ2.out with ⟨hk,h1⟩ | ⟨hk,rfl⟩
     ·refine (Z2c w3.drew rb us d PQ.out.1.rd.drew hk).mono ?_;rintro e wa ⟨rfl, hRa, hFa⟩;have hFwa : RFr w3 wa rb := (RFr.refl w3 rb).drew.trans hFa;have hNa := GQ.out.rfr hlt hFwa;have hblk := hNa.at'.blkOf;simp only [ATree.b, ATree.v, ATree.kind, ATree.text, ATree.n] at hblk;have m3 : wa.cell? ⟨nb, 3, none⟩ = some (.slice p kids.length cp) := by simp [World.cell?, hblk]
      refine hK _ _ m3 ?_;clear hK K;refine Zd (fun K hK=>?_);go_simp
      have hala:Below wa.heap.size wa (wa.alloc (.cells #[.int .i64 23,.string (hdT us).text,.int .i64 0,.slice none 0 0] 34)):=(Y2 _ _).alloc (Y0 _) _;have hA:=Got.leaf (w0:=wa) (w:=wa) (rb:=rb) (B:=B) (k:=23) (t:=(hdT us).text) (n:=0) (Y4 HP.out.le (FQ.out.trans hFwa).size) (RFr.refl _ _);refine (Z0a wa rb 23 (hdT us).text none 0 0).mono ?_;rintro e w3' ⟨rfl,hw3'⟩;rw [← hw3'] at hA hala;have hF23:RFr w3 w3' rb:=hFwa.trans (RFr.below hala);have hN3:=hNa.rfr hlt (RFr.below (rb:=rb) hala);have hR3:=hRa.below hala
      have hblk:=hN3.at'.blkOf;simp only [ATree.b,ATree.v,ATree.kind,ATree.text,ATree.n] at hblk;have m3:w3'.cell? ⟨nb,3,none⟩=some (.slice p kids.length cp):=by simp [World.cell?,hblk]
      have mz:w3'.frozen? ⟨nb,3,none⟩=false:=by simp [World.frozen?,hblk]
      have hnb3:nb < w3'.heap.size:=(Y1.1 hblk).1;have hnd:=hN3.nodup;simp only [ATree.blocks,List.nodup_cons,List.mem_append,Option.mem_toList,not_or] at hnd;have hne:=hnd.1.1;have hk4:kids.length≤8:=by have:=HKL.out; have:=HL.out; omega
      obtain ⟨a,ha⟩:∃ a:ATree,a=.mk wa.heap.size (.slice none 0 0) 23 (hdT us).text 0 []:=⟨_,rfl⟩
      rw [← ha] at hA;have hap:Value.pointer (some ⟨wa.heap.size,0,none⟩)=.pointer (some ⟨a.b,0,none⟩):=by rw [ha]; rfl
      rw [hap];clear ha hap;have N3:=lh hN3;have A3:=lh hA;have R3:=lh hR3;have F3':=lh (FQ.out.trans hF23);have NE:=lh hne;have NA:=lh (fun x hx=>(hNa.new x hx).2);have HQ3:=lh h1;refine hK _ _ m3 ?_;obtain ⟨i0,hi,hz0,hz1,hz2⟩:=info_parts Tryz.infoPtr;clear hK K hA hR3 hF23 hN3 hblk hnd hne h1 n3 hFa hFwa hNa hRa hala hw3';refine Zd (fun K hK=>?_);go_simp
      refine hK _ _ ((Zu hnb3).trans m3) ?_;clear hK K;refine Zd (fun K hK=>?_)
      refine step_append_lies _ (by rfl) (.tmp 35) (.tmp 40) 32 (by rfl) B 22 i0 _ 1 8 Tryz.underlying32 hi hz0 hz1 hz2 rfl (by decide) (.slice p kids.length cp) kids.length (kids.map ATree.ptr) (by rfl) (N3.out.at'.rowOf.alloc _) ⟨w3'.heap.size,0,none⟩ 1 1 [a.ptr] (by rfl) rfl (Ya (cs:=#[a.ptr]) (t:=22) (fr:=(0,0)) (heap_alloc_new w3' _)) (by simp [ATree.ptr,Value.oneCell']) (by decide) (by unfold maxLen; omega) (by omega) (by simp; have:=F3'.out.size; have:=HP.out.le; omega) (w3'.heap.size + 1) (by simp) ?_;intro gg cap w4 hown4 hgrow4 hat4 hlt4
      have m4:w4.cell? ⟨nb,3,none⟩=some (.slice p kids.length cp):=(hgrow4.cell_far ⟨nb,3,none⟩ (by simp; omega) (fun e=>NE.out e.symm)).trans ((Zu hnb3).trans m3);have mz4:w4.frozen? ⟨nb,3,none⟩=false:=(hgrow4.frozen_far ⟨nb,3,none⟩ (by simp; omega) (fun e=>NE.out e.symm)).trans ((Z0o hnb3).trans mz);refine hK _ _ m4 ?_;clear hK K;simp only [Act.put,zA,zB,zC]
      have hfin:=Got.push hlt HP.out.le N3.out (wA:=wa) NA.out A3.out F3'.out R3.out ((Y2 _ _).alloc (Y0 _) _) hgrow4 hown4 (by rcases hat4 with h | h; (exact .inl h); (exact .inr (by omega))) hlt4;have FIN:=lh hfin;clear hgrow4 hown4 hat4 hlt4 hfin;refine Zb ?_;go_wp2;go_roundw
      case rel=>
       refine ⟨g,acc ++ [.mk 23 (hdT us).text 0 []],us.tail,.slice (some ⟨gg,0,none⟩) (kids.length + 1) cap,kids ++ [a],by omega,HQ3.out,?_,FIN.out.2.2,FIN.out.2.1,by have:=HL.out; simp; omega,by rw [List.length_tail]; omega⟩;have h1:=FIN.out.1;have h2:=GQ.out.tree;simp only [ATree.tree,Tree.mk.injEq,true_and] at h2;rw [h2] at h1;exact h1
      case measure=>
       rw [FIN.out.2.2.left,RL.out];exact Y7 (by have:=Z4p hk; rw [List.length_tail]; omega) PL.out
     ·refine (Z3o w3.drew rb us d PQ.out.1.rd.drew hk).mono ?_;rintro e w9 ⟨⟨b,rfl,h1,h2⟩,hB⟩;exact ⟨rfl,Z01.err FQ.out.drew ⟨b,rfl,h1,h2⟩ hB⟩
    ·have a0 : decide (0 < kids.length) = true := by have := HKL.out; simp; omega
     have hq1:=HQ.out;rw [Y5 (by omega)] at hq1;by_cases hc:isT Z0n us=true
     ·have hq2 : Zb6 g F d kind text acc us.tail = some r := by rw [Z0i, Y5 hc] at hq1; exact hq1
      have HC:=Z19 w3 rb us d Z0n P3.out.rd hc;unfold Z0n at HC;have HC:=lh HC;clear hq1 hc HQ;go_wp2_with fail
      refine HC.out.mono ?_;rintro e w4q ⟨rfl,hR4,hF4⟩;have PQ:=lh (show Pre w4q rb B d us.tail∧us.tail.length≤ts.length from ⟨P3.out.tail hR4 hF4,by have:=HU.out; rw [List.length_tail]; omega⟩);have GQ:=lh (G3.out.rfr hlt hF4);have FQ:=lh (F3.out.trans hF4);have PL:=lh (show us.tail.length≤us.length by rw [List.length_tail]; omega);have hblk:=GQ.out.at'.blkOf;simp only [ATree.b,ATree.v,ATree.kind,ATree.text,ATree.n] at hblk;clear n3;have n3:w4q.cell? ⟨nb,3,none⟩=some (.slice p kids.length cp):=by simp [World.cell?,hblk]
      clear hR4 hF4 HC hblk F3 G3 P3;by_cases h8:acc.length=8
      ·have n8 : ((kids.length : Int) == 8) = true := by have := HKL.out; simp; omega
       have hr:r=.error (4,(hdT us.tail).at'):=by
        unfold Zb6 at hq2;rw [Y5 h8] at hq2;exact (Yc hq2).symm
       subst hr;have HE:=lh (Z1r w4q rb us.tail d 4 PQ.out.1.rd);clear hq2;go_wp2_with fail
       refine HE.out.mono ?_;rintro e w9 ⟨⟨b,rfl,h1,h2⟩,hB⟩;exact ⟨rfl,Z01.err FQ.out ⟨b,rfl,h1,h2⟩ hB⟩
      ·skip
       have n8:((kids.length:Int) == 8)=false:=by have:=HKL.out; simp; omega
       have HQ2:=hq2;unfold Zb6 at HQ2;rw [Y3 h8] at HQ2;have HQ2:=lh HQ2;clear hq2;go_wp2_with fail
       refine Z4 [(true,0),(true,1),(true,2),(true,3),(true,4),(true,5),(true,6),(false,7),(false,8),(false,9),(false,10)] [11,12,13] (fun W=>W.cell? ⟨nb,3,none⟩=some (.slice p kids.length cp)) (by kernel_rfl) (by kernel_rfl) (fun _ _ d _ _ h=>by cases d <;> exact h) n3 (fun hS0=>?_);simp only [Zj,zD,zE,zF,zG,zH,zI]
       iterate 7
        first
         | (refine Z7 ?_ (by rfl) (fun w' hS'=>?_) ?_; rotate_left; (have s0:=hS'; go_simp; first | done | with_reducible rfl); simp only [Act.put,zA,zB,zC])
         | (refine Z6 (by rfl) ?_; simp only [Act.put,zA,zB,zC])
       refine Zd (fun K hK=>?_);go_simp
       have hus:us.tail.length≤ts.length:=PQ.out.2;rcases Z5s HQ2.out with ⟨hk,h1⟩ | ⟨hk,rfl⟩
       ·refine (Z2c w4q.drew rb us.tail d PQ.out.1.rd.drew hk).mono ?_;rintro e wa ⟨rfl, hRa, hFa⟩;have hFwa : RFr w4q wa rb := (RFr.refl w4q rb).drew.trans hFa;have hNa := GQ.out.rfr hlt hFwa;have hblk := hNa.at'.blkOf;simp only [ATree.b, ATree.v, ATree.kind, ATree.text, ATree.n] at hblk;have m3 : wa.cell? ⟨nb, 3, none⟩ = some (.slice p kids.length cp) := by simp [World.cell?, hblk]
        refine hK _ _ m3 ?_;clear hK K;refine Zd (fun K hK=>?_);go_simp
        have hala:Below wa.heap.size wa (wa.alloc (.cells #[.int .i64 23,.string (hdT us.tail).text,.int .i64 0,.slice none 0 0] 34)):=(Y2 _ _).alloc (Y0 _) _;have hA:=Got.leaf (w0:=wa) (w:=wa) (rb:=rb) (B:=B) (k:=23) (t:=(hdT us.tail).text) (n:=0) (Y4 HP.out.le (FQ.out.trans hFwa).size) (RFr.refl _ _);refine (Z0a wa rb 23 (hdT us.tail).text none 0 0).mono ?_;rintro e w3' ⟨rfl,hw3'⟩;rw [← hw3'] at hA hala;have hF23:RFr w4q w3' rb:=hFwa.trans (RFr.below hala);have hN3:=hNa.rfr hlt (RFr.below (rb:=rb) hala);have hR3:=hRa.below hala
        have hblk:=hN3.at'.blkOf;simp only [ATree.b,ATree.v,ATree.kind,ATree.text,ATree.n] at hblk;have m3:w3'.cell? ⟨nb,3,none⟩=some (.slice p kids.length cp):=by simp [World.cell?,hblk]
        have mz:w3'.frozen? ⟨nb,3,none⟩=false:=by simp [World.frozen?,hblk]
        have hnb3:nb < w3'.heap.size:=(Y1.1 hblk).1;have hnd:=hN3.nodup;simp only [ATree.blocks,List.nodup_cons,List.mem_append,Option.mem_toList,not_or] at hnd;have hne:=hnd.1.1;have hk4:kids.length≤8:=by have:=HKL.out; have:=HL.out; omega
        obtain ⟨a,ha⟩:∃ a:ATree,a=.mk wa.heap.size (.slice none 0 0) 23 (hdT us.tail).text 0 []:=⟨_,rfl⟩
        rw [← ha] at hA;have hap:Value.pointer (some ⟨wa.heap.size,0,none⟩)=.pointer (some ⟨a.b,0,none⟩):=by rw [ha]; rfl
        rw [hap];clear ha hap;have N3:=lh hN3;have A3:=lh hA;have R3:=lh hR3;have F3':=lh (FQ.out.trans hF23);have NE:=lh hne;have NA:=lh (fun x hx=>(hNa.new x hx).2);have HQ3:=lh h1;refine hK _ _ m3 ?_;obtain ⟨i0,hi,hz0,hz1,hz2⟩:=info_parts Tryz.infoPtr;clear hK K hA hR3 hF23 hN3 hblk hnd hne h1 n3 hFa hFwa hNa hRa hala hw3';refine Zd (fun K hK=>?_);go_simp
        refine hK _ _ ((Zu hnb3).trans m3) ?_;clear hK K;refine Zd (fun K hK=>?_)
        refine step_append_lies _ (by rfl) (.tmp 35) (.tmp 40) 32 (by rfl) B 22 i0 _ 1 8 Tryz.underlying32 hi hz0 hz1 hz2 rfl (by decide) (.slice p kids.length cp) kids.length (kids.map ATree.ptr) (by rfl) (N3.out.at'.rowOf.alloc _) ⟨w3'.heap.size,0,none⟩ 1 1 [a.ptr] (by rfl) rfl (Ya (cs:=#[a.ptr]) (t:=22) (fr:=(0,0)) (heap_alloc_new w3' _)) (by simp [ATree.ptr,Value.oneCell']) (by decide) (by unfold maxLen; omega) (by omega) (by simp; have:=F3'.out.size; have:=HP.out.le; omega) (w3'.heap.size + 1) (by simp) ?_;intro gg cap w4 hown4 hgrow4 hat4 hlt4
        have m4:w4.cell? ⟨nb,3,none⟩=some (.slice p kids.length cp):=(hgrow4.cell_far ⟨nb,3,none⟩ (by simp; omega) (fun e=>NE.out e.symm)).trans ((Zu hnb3).trans m3);have mz4:w4.frozen? ⟨nb,3,none⟩=false:=(hgrow4.frozen_far ⟨nb,3,none⟩ (by simp; omega) (fun e=>NE.out e.symm)).trans ((Z0o hnb3).trans mz);refine hK _ _ m4 ?_;clear hK K;simp only [Act.put,zA,zB,zC]
        have hfin:=Got.push hlt HP.out.le N3.out (wA:=wa) NA.out A3.out F3'.out R3.out ((Y2 _ _).alloc (Y0 _) _) hgrow4 hown4 (by rcases hat4 with h | h; (exact .inl h); (exact .inr (by omega))) hlt4;have FIN:=lh hfin;clear hgrow4 hown4 hat4 hlt4 hfin;refine Zb ?_;go_wp2;go_roundw
        case rel=>
         refine ⟨g,acc ++ [.mk 23 (hdT us.tail).text 0 []],us.tail.tail,.slice (some ⟨gg,0,none⟩) (kids.length + 1) cap,kids ++ [a],by omega,HQ3.out,?_,FIN.out.2.2,FIN.out.2.1,by have:=HL.out; simp; omega,by rw [List.length_tail]; omega⟩;have h1:=FIN.out.1;have h2:=GQ.out.tree;simp only [ATree.tree,Tree.mk.injEq,true_and] at h2;rw [h2] at h1;exact h1
        case measure=>
         rw [FIN.out.2.2.left,RL.out];exact Y7 (by have:=Z4p hk; rw [List.length_tail]; omega) PL.out
       ·refine (Z3o w4q.drew rb us.tail d PQ.out.1.rd.drew hk).mono ?_;rintro e w9 ⟨⟨b,rfl,h1,h2⟩,hB⟩;exact ⟨rfl,Z01.err FQ.out.drew ⟨b,rfl,h1,h2⟩ hB⟩
     ·have hr : r = .error (3, (hdT us).at') := by rw [Z0i, Y3 hc] at hq1; exact (Yc hq1).symm
      subst hr;have HC:=Z25 w3 rb us d Z0n P3.out.rd (by simpa using hc);unfold Z0n at HC;have HC:=lh HC;clear hq1 hc HQ;go_wp2_with fail
      refine HC.out.mono ?_;rintro e w9 ⟨⟨b,rfl,h1,h2⟩,hB⟩;exact ⟨rfl,Z01.err F3.out ⟨b,rfl,h1,h2⟩ hB⟩
 ·have HC := lh (Z25 w rb ts d Z15 hP.rd hs);clear hP hp hw hs;go_enter Tryz.func49, Tryz.ntmps49
  go_wp2_with fail
  refine HC.out.mono ?_;rintro e w3 ⟨⟨b,rfl,h1,h2⟩,hB⟩;exact ⟨rfl,Z01.err (RFr.refl _ _) ⟨b,rfl,h1,h2⟩ hB⟩
theorem Zc2 (F:Nat) (hS:∀ g,g < F→Says 31 rArg .stmt g) :
 Says 12 (fun rb=>#[.pointer (some ⟨rb,0,none⟩),.int .i64 1,.string ⟨#[]⟩]) (.stmts 1 []) F:=by
 intro w rb B d ts r hP hp;have HC:=lh (Z0a w rb 1 ⟨#[]⟩ none 0 0);have HP:=lh hP;have HQ:=lh hp;have HS:=lh hS;have hmf:∀ (fn:Fn) (first cap:Array Value) (w:World),(Instr.makeFunc fn first cap).run Tryz.prog w=.ok (.func fn first cap) w:=fun _ _ _ _=>rfl;obtain ⟨nb,hnb⟩:=zX w.heap.size
 have G0:=Got.leaf (k:=1) (t:=⟨#[]⟩) (n:=0) hP.le (RFr.refl w rb);have R0:=hP.rd.below ((Y2 _ _).alloc (Y0 _) (.cells #[.int .i64 1,.string ⟨#[]⟩,.int .i64 0,.slice none 0 0] 34));have F0:RFr w (w.alloc (.cells #[.int .i64 1,.string ⟨#[]⟩,.int .i64 0,.slice none 0 0] 34)) rb:=RFr.below ((Y2 _ _).alloc (Y0 _) _);rw [← hnb] at G0 HC;clear hP hp hS;simp only;go_enter Tryz.func12,Tryz.ntmps12
 go_wp2_with fail
 refine HC.out.mono ?_;rintro e w1 ⟨rfl,hw1⟩;rw [← hw1] at G0 R0 F0;have hst:∃ (g:Nat) (acc:List Tree) (us:List Tok) (v:Value) (kids:List ATree),g≤F∧Z0 g (.stmts 1 acc) d us=some r∧Got w B w1 (.mk nb v 1 ⟨#[]⟩ 0 kids) (.mk 1 ⟨#[]⟩ 0 acc)∧Rd w1 rb us d∧RFr w w1 rb∧acc.length + us.length≤ts.length∧(∀ x∈acc,x.kind=15→x.kids≠[]):=
  ⟨F,[],ts,_,[],Y0 _,HQ.out,G0,R0,F0,by simp,fun x hx=>by cases hx⟩
 have ST:=lh hst;have HNB:=lh hnb;clear hst hw1 G0 R0 F0 HC hnb;go_wp2_with fail
 go_loopw [] (fun wr=>∃ (g:Nat) (acc:List Tree) (us:List Tok) (v:Value) (kids:List ATree),g≤F∧Z0 g (.stmts 1 acc) d us=some r∧Got w B wr (.mk nb v 1 ⟨#[]⟩ 0 kids) (.mk 1 ⟨#[]⟩ 0 acc)∧Rd wr rb us d∧RFr w wr rb∧acc.length + us.length≤ts.length∧(∀ x∈acc,x.kind=15→x.kids≠[])) (fun wr=>leftOf wr rb)
 case atStart=>exact ST.out
 case round=>
  obtain ⟨g,acc,us,v,kids,hg,hq,hG,hR,hF,hl,hx⟩:=hrel;have G:=lh hG;have R:=lh hR;have FF:=lh hF;have HX:=lh hx;have RL:=lh hR.left;cases g with
  | zero=>cases hq
  | succ g=>
  rw [Z0] at hq;obtain ⟨tb,off,cpp,hh⟩:=hR;have c0:=hh.c0;have k0:=hh.hd (j:=0) (x:=.int .i64 (hdT us).kind) rfl;rw [Nat.add_zero] at k0;have hps:=hh.pos;clear hh;by_cases hb:(hdT us).kind=6
  ·have nk : ((hdT us).kind != 6) = false := by simp [hb]
   rw [Y5 (by rw [Y5 rfl]; simpa using hb)] at hq;have hr:=Yc hq;have HRr:=lh hr.symm;clear hG hF hq hr hb hx ST;have hB2:Below wr.heap.size wr wr:=Y2 _ _;have hlt:=HP.out.lt;have F2:=lh (FF.out.trans (RFr.below (rb:=rb) hB2));have G2:=lh (G.out.rfr hlt (RFr.below (rb:=rb) hB2));have R2:=lh (R.out.below hB2);have hblk:=G2.out.at'.blkOf;have hrow:=G2.out.at'.rowOf;simp only [ATree.b,ATree.v,ATree.kind,ATree.text,ATree.n,ATree.kids] at hblk hrow;have n3:wr.cell? ⟨nb,3,none⟩=some v:=by simp [World.cell?,hblk]
   have nz:wr.frozen? ⟨nb,1,none⟩=false:=by simp [World.frozen?,hblk]
   have nc1:wr.cell? ⟨nb,1,none⟩=some (.string ⟨#[]⟩):=by simp [World.cell?,hblk]
   have htr:=G2.out.tree;simp only [ATree.tree,Tree.mk.injEq,true_and] at htr;have fin0:Z1y acc=false→Z01 w rb B d r (.returned (.pointer (some ⟨nb,0,none⟩))) wr:=fun h=>by
    rw [HRr.out,h];exact ⟨_,rfl,G2.out,R2.out,F2.out⟩
   have FIN0:=lh fin0;have fin1:Z1y acc=true→Z01 w rb B d r (.returned (.pointer (some ⟨nb,0,none⟩))) (wr.setCell ⟨nb,1,none⟩ (.string Z33)):=fun h=>by
    rw [HRr.out,h];obtain ⟨h1,h2,h3⟩:=Got.text (t':=Z33) hlt HP.out.le G2.out F2.out R2.out;exact ⟨_,rfl,h1,h3,h2⟩
   have FIN1:=lh fin1;have HTR:=lh htr;have hks:∀ a∈kids,TreeAt wr B a:=fun a ha=>G2.out.at'.kid (k:=a) ha;have HKS:=lh hks;clear hB2 hblk fin0 fin1 htr hks FF G R;cases kids with
   | nil =>
     have hs0:Z1y acc=false:=by rw [← HTR.out]; rfl
     have H0:=lh (FIN0.out hs0);clear hs0;rcases Zm hrow with ⟨rfl,_⟩ | ⟨g0,cap0,rfl,_,_,_⟩
     all_goals
      clear hrow;go_wp2;go_ret;exact H0.out
   | cons a0 ks =>
     rcases Zm hrow with ⟨_,h0⟩ | ⟨g0,cap0,rfl,k1,k2,k3⟩;·simp at h0
     have p0:=Z0z hrow (g:=g0) rfl (i:=0) (x:=a0.ptr) rfl;have hT0:=HKS.out a0 (by simp);have hb0:=hT0.blkOf;have hr0:=hT0.rowOf;have hx0:=HX.out a0.tree (by rw [← HTR.out]; simp [Zg]);obtain ⟨b0,v0,kd0,t0,n0,l0⟩:=a0;simp only [ATree.b,ATree.v,ATree.kind,ATree.text,ATree.n,ATree.kids,ATree.ptr,List.length_cons] at hb0 hr0 p0 k1 n3 ⊢;unfold maxLen at k2;have d0:wr.cell? ⟨b0,0,none⟩=some (.int .i64 kd0):=by simp [World.cell?,hb0]
     have d3:wr.cell? ⟨b0,3,none⟩=some v0:=by simp [World.cell?,hb0]
     by_cases h15:kd0=15
     ·subst h15;cases l0 with
      | nil=>exact absurd rfl (hx0 rfl)
      | cons x xs=>
      rcases Zm hr0 with ⟨_,h0⟩ | ⟨g1,cap1,rfl,j1,j2,j3⟩;·simp at h0
      have p1:=Z0z hr0 (g:=g1) rfl (i:=0) (x:=x.ptr) rfl;have hb1:=(hT0.kid (k:=x) (by simp [ATree.kids])).blkOf;obtain ⟨b1,v1,kd1,t1,n1,l1⟩:=x;simp only [ATree.b,ATree.v,ATree.kind,ATree.text,ATree.n,ATree.ptr,List.length_cons] at hb1 p1 j1 d3;unfold maxLen at j2;have e0:wr.cell? ⟨b1,0,none⟩=some (.int .i64 kd1):=by simp [World.cell?,hb1]
      have e1:wr.cell? ⟨b1,1,none⟩=some (.string t1):=by simp [World.cell?,hb1]
      have hstr:Z1y acc=(decide (kd1=18) && Z1f t1 Z0m):=by rw [← HTR.out]; rfl
      have HST:=lh hstr;clear hrow hr0 hT0 hb0 hb1 hx0 hstr;by_cases h18:kd1=18
      ·subst h18;by_cases hus : t1 = Z0m
       ·subst hus;have H1:=lh (FIN1.out (by rw [HST.out]; simp [Z1f]));unfold Z0m at e1;go_wp2;go_ret;exact H1.out
       ·have H0 := lh (FIN0.out (by rw [HST.out]; simp [Z1f, hus]));have hne : ¬ t1.toList = Z0m.toList := fun h => hus (Z2r h);have hne2 : (t1.toList == Z0m.toList) = false := by simpa using hne
        have hl:Z0m.toList=[117,115,101,32,115,116,114,105,99,116]:=by rw [Lib.toList_data]; rfl
        have hne3:¬ t1.toList=[117,115,101,32,115,116,114,105,99,116]:=by rw [← hl]; exact hne
        have hne4:(t1.toList == [117,115,101,32,115,116,114,105,99,116])=false:=by simpa using hne3
        unfold Z0m at hne hne2;clear hus hl;go_wp2;go_ret;exact H0.out
      ·have n18 : (kd1 == 18) = false := by simpa using h18
       have H0:=lh (FIN0.out (by rw [HST.out]; simp [h18]));clear h18;go_wp2;go_ret;exact H0.out
     ·have n15 : (kd0 == 15) = false := by simpa using h15
      have H0:=lh (FIN0.out (by rw [← HTR.out]; cases l0 <;> simp [Zg,ATree.tree,Z1y,h15]));clear hrow hr0 hT0 hb0 hx0 h15;go_wp2;go_ret;exact H0.out
  ·have nk : ((hdT us).kind != 6) = true := by simpa using hb
   rw [Y3 (by rw [Y5 rfl]; simpa using hb)] at hq;have HQ2:=lh hq;clear hG hF hq hb hx ST;have hB2:Below wr.heap.size wr wr:=Y2 _ _;have F2:=FF.out.trans (RFr.below (rb:=rb) hB2);have G2:=G.out.rfr HP.out.lt (RFr.below (rb:=rb) hB2);have R2:=R.out.below hB2;have n3:wr.cell? ⟨nb,3,none⟩=some v:=by have:=G2.at'.blkOf; simp only [ATree.b,ATree.v,ATree.kind,ATree.text,ATree.n] at this; simp [World.cell?,this]
   have F2:=lh F2;have G2:=lh G2;have R2:=lh R2;clear hB2 FF G R;go_wp2_with fail
   refine Z4 [(true,0),(true,1),(true,2),(true,3),(true,4),(true,5),(true,6),(true,7),(false,8),(false,9),(false,10)] [11,12,13] (fun W=>W.cell? ⟨nb,3,none⟩=some v) (by kernel_rfl) (by kernel_rfl) (fun _ _ d _ _ h=>by cases d <;> exact h) n3 (fun hS0=>?_);simp only [Zj,zD,zE,zF,zG,zH,zI]
   iterate 8
    first
     | (refine Z7 ?_ (by rfl) (fun w' hS'=>?_) ?_; rotate_left; (have s0:=hS'; go_simp; first | done | with_reducible rfl); simp only [Act.put,zA,zB,zC])
     | (refine Z6 (by rfl) ?_; simp only [Act.put,zA,zB,zC])
   refine Zd (fun K hK=>?_);go_simp
   have hlt:=HP.out.lt;have hRF2:RFr wr wr.drew rb:=(RFr.refl wr rb).drew;have hus:us.length≤4000:=by have:=HP.out.few; omega
   have hle2:B≤wr.drew.heap.size:=Y4 HP.out.le F2.out.size;rcases Zp HQ2.out with ⟨⟨c,p⟩,hv,rfl⟩ | ⟨t,vs,hv,hq3⟩
   ·refine (Z04 wr.drew rb B us d _ _ R2.out.drew (by have:=HP.out.deep; omega) hlt hv fun hd h1 w1 hR1 hs=>HS.out g (by omega) w1 rb B (d + 1) us _ ⟨hR1,hd,hlt,by omega,hus⟩ h1).mono ?_;rintro e w3 ⟨⟨b,rfl,h1,h2⟩,hF3⟩;exact ⟨rfl,Z01.pre F2.out.drew (r:=.error (c,p)) ⟨⟨b,rfl,h1,h2⟩,hF3⟩⟩
   ·have hvl:vs.length < us.length:=Leaves.within (Z0c g .stmt (d + 1) us) t vs hv;have hvx:t.kind=15→t.kids≠[]:=by
     unfold Z00 at hv;by_cases h30:30 < d + 1;·rw [Y5 h30] at hv; cases hv
     ·rw [Y3 h30] at hv;cases g with
      | zero=>cases hv
      | succ g=>exact Z79 hv
    have HVX:=lh hvx;have HQ3:=lh hq3;refine (Z04 wr.drew rb B us d _ _ R2.out.drew (by have:=HP.out.deep; omega) hlt hv fun hd h1 w1 hR1 hs=>HS.out g (by omega) w1 rb B (d + 1) us _ ⟨hR1,hd,hlt,by omega,hus⟩ h1).mono ?_;rintro e w3 ⟨a,rfl,hA,hR3,hF3⟩;have hF23:RFr wr w3 rb:=hRF2.trans hF3;have hN3:=G2.out.rfr hlt hF23;have hblk:=hN3.at'.blkOf;simp only [ATree.b,ATree.v,ATree.kind,ATree.text,ATree.n] at hblk;have m3:w3.cell? ⟨nb,3,none⟩=some v:=by simp [World.cell?,hblk]
    have mz:w3.frozen? ⟨nb,3,none⟩=false:=by simp [World.frozen?,hblk]
    have hnb3:nb < w3.heap.size:=(Y1.1 hblk).1;have hnd:=hN3.nodup;simp only [ATree.blocks,List.nodup_cons,List.mem_append,Option.mem_toList,not_or] at hnd;have hne:v.ownBlock≠some nb:=hnd.1.1;have hkl:kids.length=acc.length:=by
     have:=hN3.tree;simp only [ATree.tree,Tree.mk.injEq,true_and] at this;rw [← this,Z1i,Yl]
    have hk4:kids.length≤4000:=by have:=HP.out.few; omega
    have N3:=lh hN3;have A3:=lh hA;have R3:=lh hR3;have F3:=lh (F2.out.trans hF23);have NE:=lh hne;have HKL:=lh hkl;refine hK _ _ m3 ?_;obtain ⟨i0,hi,hz0,hz1,hz2⟩:=info_parts Tryz.infoPtr;clear hK K hA hR3 hF3 hF23 hN3 hblk hnd hne hvx hq3 hv hkl n3 hRF2;refine Zd (fun K hK=>?_);go_simp
    refine hK _ _ ((Zu hnb3).trans m3) ?_;clear hK K;refine Zd (fun K hK=>?_);refine step_append_lies _ (by rfl) (.tmp 37) (.tmp 42) 32 (by rfl) B 22 i0 _ 1 8 Tryz.underlying32 hi hz0 hz1 hz2 rfl (by decide) v kids.length (kids.map ATree.ptr) (by rfl) (N3.out.at'.rowOf.alloc _) ⟨w3.heap.size,0,none⟩ 1 1 [a.ptr] (by rfl) rfl (Ya (cs:=#[a.ptr]) (t:=22) (fr:=(0,0)) (heap_alloc_new w3 _)) (by simp [ATree.ptr,Value.oneCell']) (by decide) (by unfold maxLen; omega) (by omega) (by simp; have:=F3.out.size; have:=HP.out.le; omega) (w3.heap.size + 1) (by simp) ?_
    intro gg cap w4 hown4 hgrow4 hat4 hlt4;have m4:w4.cell? ⟨nb,3,none⟩=some v:=(hgrow4.cell_far ⟨nb,3,none⟩ (by simp; omega) (fun e=>NE.out e.symm)).trans ((Zu hnb3).trans m3);have mz4:w4.frozen? ⟨nb,3,none⟩=false:=(hgrow4.frozen_far ⟨nb,3,none⟩ (by simp; omega) (fun e=>NE.out e.symm)).trans ((Z0o hnb3).trans mz);refine hK _ _ m4 ?_;clear hK K;simp only [Act.put,zA,zB,zC]
    have hfin:=Got.push hlt HP.out.le N3.out (wA:=wr.drew) (fun x hx=>(G2.out.new x hx).2) A3.out F3.out R3.out ((Y2 _ _).alloc (Y0 _) _) hgrow4 hown4 (by rcases hat4 with h | h; (exact .inl h); (exact .inr (by omega))) hlt4;have FIN:=lh hfin;clear hgrow4 hown4 hat4 hlt4 hfin;refine Zb ?_;go_wp2;go_roundw
    case rel=>
     refine ⟨g,acc ++ [t],vs,.slice (some ⟨gg,0,none⟩) (kids.length + 1) cap,kids ++ [a],by omega,HQ3.out,?_,FIN.out.2.2,FIN.out.2.1,by simp; omega,fun x hx=>?_⟩
     ·have h1:=FIN.out.1;have h2:=G2.out.tree;simp only [ATree.tree,Tree.mk.injEq,true_and] at h2;rw [h2] at h1;exact h1
     ·rcases List.mem_append.1 hx with hx | hx;·exact HX.out x hx
      ·simp only [List.mem_singleton] at hx; subst hx; exact HVX.out
    case measure=>
     rw [FIN.out.2.2.left,RL.out];exact hvl
end Go.Proofs.YtjcgkdfeplbajaaGreatDoor
namespace Go.Proofs.YtjcgkdfeplbajaaGreatDoor
open Go Go.RowKit Go.Maps
set_option maxRecDepth 100000
set_option maxHeartbeats 20000000
set_option linter.unusedVariables false
theorem Zd6 (w:World) (s:ByteArray) (hlen:s.size≤maxLen) (c0:Int) (hc:(litD Zfg).atKey (.string s.data.toList) (.lit (.int .i64 0))=.lit (.int .i64 c0)) :
 Calls Tryz.prog 74 #[.string s] w fun e w'=>e=.returned (.int .i64 c0)∧Below w.heap.size w w':=by
 have hmm:=@run_makeMap Tryz.prog;have h0:=World.ownsMap_made (H:=Unit) w Tryz.prog 9 (plainElem Tryz.prog 3);have hB0:Below w.heap.size w (w.alloc (.map #[] 0)):=(Y2 _ _).alloc (Y0 _) _;have HL:=lh hlen;have HC:=lh hc;clear hlen hc;go_enter Tryz.func74,Tryz.ntmps74
 go_wp2_with (first | (refine Z07 _ rfl _ _ _ 153 rfl 9 3 Tryz.keyedS Tryz.underlying153 _ _ 0 _ rfl h0 (by unfold maxLen; omega) _ _ _ rfl rfl (Ym Yj (by decide)) _ [] (plainElem_int Yk (by decide)) ?_; intro w1 h1 g1) | (refine Z07 _ rfl _ _ _ 153 rfl 9 3 Tryz.keyedS Tryz.underlying153 _ _ 1 _ rfl h1 (by unfold maxLen; omega) _ _ _ rfl rfl (Ym Yj (by decide)) _ [] (plainElem_int Yk (by decide)) ?_; intro w2 h2 g2) | (refine Z07 _ rfl _ _ _ 153 rfl 9 3 Tryz.keyedS Tryz.underlying153 _ _ 2 _ rfl h2 (by unfold maxLen; omega) _ _ _ rfl rfl (Ym Yj (by decide)) _ [] (plainElem_int Yk (by decide)) ?_; intro w3 h3 g3) | (refine Z07 _ rfl _ _ _ 153 rfl 9 3 Tryz.keyedS Tryz.underlying153 _ _ 3 _ rfl h3 (by unfold maxLen; omega) _ _ _ rfl rfl (Ym Yj (by decide)) _ [] (plainElem_int Yk (by decide)) ?_; intro w4 h4 g4) | (refine Z07 _ rfl _ _ _ 153 rfl 9 3 Tryz.keyedS Tryz.underlying153 _ _ 4 _ rfl h4 (by unfold maxLen; omega) _ _ _ rfl rfl (Ym Yj (by decide)) _ [] (plainElem_int Yk (by decide)) ?_; intro w5 h5 g5) | (refine Z07 _ rfl _ _ _ 153 rfl 9 3 Tryz.keyedS Tryz.underlying153 _ _ 5 _ rfl h5 (by unfold maxLen; omega) _ _ _ rfl rfl (Ym Yj (by decide)) _ [] (plainElem_int Yk (by decide)) ?_; intro w6 h6 g6) | (refine Z07 _ rfl _ _ _ 153 rfl 9 3 Tryz.keyedS Tryz.underlying153 _ _ 6 _ rfl h6 (by unfold maxLen; omega) _ _ _ rfl rfl (Ym Yj (by decide)) _ [] (plainElem_int Yk (by decide)) ?_; intro w7 h7 g7) | (at_lookup; refine wpList_lookup_own_int _ rfl _ _ 153 rfl 9 3 .i64 Tryz.keyedS Tryz.underlying153 Yk (Tryz.zeroI _) _ 7 _ rfl h7 _ _ rfl (Ym Yj HL.out) ?_; intro c hat hwc))
 go_ret;have e:=HC.out.symm.trans hat;obtain rfl:c0=c:=by
  have:(DataW.lit (.int .i64 c0):DataW Unit)=.lit (.int .i64 c):=e;simpa using this
 have s0:w.heap.size≤(w.alloc (.map #[] 0)).heap.size:=hB0.size;have B1:=Z1h hB0 g1 (Y0 _) s0;have B2:=Z1h B1 g2 (Y0 _) B1.size;have B3:=Z1h B2 g3 (Y0 _) B2.size;have B4:=Z1h B3 g4 (Y0 _) B3.size;have B5:=Z1h B4 g5 (Y0 _) B4.size;have B6:=Z1h B5 g6 (Y0 _) B5.size;exact ⟨rfl,Z1h B6 g7 (Y0 _) B6.size⟩
theorem Zez (w:World) (s:ByteArray) (hs:Z6z s≠0):Calls Tryz.prog 74 #[.string s] w fun e w'=>e=.returned (.int .i64 (Z6z s))∧Below w.heap.size w w':=by
 have key:s=s_or∨s=Z5a∨s=Z3k∨s=Z45∨s=Z5t∨s=Z66∨s=Z68:=by
  unfold Z6z Z1f at hs;simp only [decide_eq_true_eq] at hs;by_cases h1:s=s_or;·exact .inl h1
  by_cases h2:s=Z5a;·exact .inr (.inl h2)
  by_cases h3:s=Z3k;·exact .inr (.inr (.inl h3))
  by_cases h4:s=Z45;·exact .inr (.inr (.inr (.inl h4)))
  by_cases h5:s=Z5t;·exact .inr (.inr (.inr (.inr (.inl h5))))
  by_cases h6:s=Z66;·exact .inr (.inr (.inr (.inr (.inr (.inl h6)))))
  by_cases h7:s=Z68;·exact .inr (.inr (.inr (.inr (.inr (.inr h7)))))
  simp [h1,h2,h3,h4,h5,h6,h7] at hs
 rcases key with rfl | rfl | rfl | rfl | rfl | rfl | rfl;all_goals exact Zd6 w _ (by decide) _ (by kernel_rfl)
end Go.Proofs.YtjcgkdfeplbajaaGreatDoor
