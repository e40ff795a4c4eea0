/- Package tree: write: functions; calls and objects. -/
import Derived.Test.YtjcgkdfeplbajaaGreatDoorJ13
import Derived.Test.YtjcgkdfeplbajaaGreatDoorJ14
namespace Go.Proofs.YtjcgkdfeplbajaaGreatDoor
open Go Go.RowKit
set_option maxRecDepth 100000
set_option maxHeartbeats 20000000
set_option linter.unusedVariables false
set_option linter.unusedSimpArgs false
def Zbk (w0:World) (a:ATree) (m:List UInt8):Prop:=∀ (B b:Nat) (l:List UInt8) (w:World),BW w0 B b l w→l.length + m.length≤140737488355328 →
 Calls Tryz.prog 38 #[.pointer (some ⟨b,0,none⟩),.pointer (some ⟨a.b,0,none⟩)] w (Wrote w0 B b l w m)
theorem Zef {w0:World} {Bt:Nat} (a:ATree) (hT:TreeAt w0 Bt a) (p q:ATree) (hks:a.kids=[p,q]) (hp:Z3f w0 p.kids) (hq:Z12 w0 q) (hsz:a.text.size≤1000000) :
 Zbk w0 a (Z5 (fnP a.text (lP true (Zg p.kids)) (sP q.tree))):=by
 intro B b l w hW hF;have c1:=hT.c1;obtain ⟨g,cp,c3',hge,hmx,hgl,hk⟩:=Z0r hT (by rw [hks]; simp);have c3:w0.cell? ⟨a.b,3,none⟩=some (.slice (some ⟨g,0,none⟩) 2 cp):=by rw [hks] at c3'; exact c3'
 have hge2:2≤cp:=by rw [hks] at hge; exact hge
 unfold maxLen at hmx;have k0:=hk 0 p (by rw [hks]; rfl);have k1:=hk 1 q (by rw [hks]; rfl);unfold ATree.ptr at k0 k1;have hTp:TreeAt w0 Bt p:=hT.kid (by rw [hks]; simp);have hSl:=Z5b hTp;have cp3:=hTp.c3;obtain ⟨pp,pc,hpv,_,_⟩:=hTp.vOf;rw [hpv] at cp3 hSl;have hl:=fun l w h=>hp ⟨#[40]⟩ ⟨#[41,32]⟩ (.slice pp p.kids.length pc) B b l w hSl h;have hs:=fun l w=>hq.says B b l w;obtain ⟨ml,eml⟩:=zX (Z5 (lP true (Zg p.kids)))
 obtain ⟨mb,emb⟩:=zX (Z5 (sP q.tree))
 obtain ⟨tx,htx⟩:=zX a.text
 have hX:Z5 (fnP a.text (lP true (Zg p.kids)) (sP q.tree))=[102,117,110,99,116,105,111,110] ++ ((if tx.size=0 then [] else 32 :: tx.data.toList) ++ (40 :: (ml ++ ([41,32] ++ mb)))):=by
  rw [eml,emb,htx];unfold fnP;rw [Z8,Za,Z8,Za,Z8,Z8];by_cases hz:a.text.size=0;·rw [Y5 hz,Y5 hz]; rfl
  ·rw [Y3 hz,Y3 hz];rw [Z8,Z8,Z18,List.append_nil];rfl
 rw [hX] at hF ⊢;rw [← eml] at hl;rw [← emb] at hs;rw [← htx] at c1 hsz;have HLs:=lh hl;have HSt:=lh hs;have hlens:(p.kids.length:Int)≤140737488355328∨True:=.inr trivial;obtain ⟨pn,hpn⟩:=zX p.kids.length
 rw [← hpn] at cp3;have HLs:Hid (∀ (l:List UInt8) (w:World),BW w0 B b l w→l.length + ((⟨#[40]⟩:ByteArray).data.toList.length + ml.length + (⟨#[41,32]⟩:ByteArray).data.toList.length)≤140737488355328→Calls Tryz.prog 60 #[.pointer (some ⟨b,0,none⟩),.string ⟨#[40]⟩,.slice pp pn pc,.string ⟨#[41,32]⟩] w (Wrote w0 B b l w ((⟨#[40]⟩:ByteArray).data.toList ++ (ml ++ (⟨#[41,32]⟩:ByteArray).data.toList)))):=by
  rw [hpn]; exact HLs
 obtain ⟨sx,hsx⟩:∃ sx:ByteArray,sx=⟨#[32]⟩ ++ tx:=⟨_,rfl⟩
 have hsl:32 :: tx.data.toList=sx.data.toList:=by rw [hsx]; simp [ByteArray.data_append]
 rw [hsl] at hF ⊢;have HSX:=lh hsx;have q1:¬ 9223372036854775807 < 1 + tx.size:=by omega
 have HW:=lh hW;clear hl hs eml emb hpv hSl hp hq hT hTp hks c3' hge hX htx hsx hsl hW hpn hlens;by_cases hz:tx=ByteArray.empty
 ·rw [Y5 (by rw [hz]; rfl)] at hF ⊢;simp only [List.nil_append, List.length_append, List.length_cons, List.length_nil] at hF;subst hz;have HS0 := lh (HW.out.str ⟨#[102, 117, 110, 99, 116, 105, 111, 110]⟩ (by show l.length + 8 ≤ _; omega));go_enter Tryz.func38, Tryz.ntmps38
  go_wp2_with fail
  refine HS0.out.mono ?_;rintro e w1 ⟨rfl,hw1,hb1⟩;have HW1:=lh hw1;have HB1:=lh hb1;have x1:=HW1.out.cell c1;have x3:=HW1.out.cell c3;have y0:=HW1.out.cell k0;have y1:=HW1.out.cell k1;have z3:=HW1.out.cell cp3;clear hw1 hb1 HS0;go_wp2_with fail
  refine (HLs.out _ _ HW1.out (by show _ + (1 + ml.length + 2)≤_; first | omega | (simp only [List.length_append,List.length_cons,List.length_nil]; omega))).mono ?_;rintro e w2 ⟨rfl,hw2,hb2⟩;have HW2:=lh hw2;have HB2:=lh (HB1.out.trans hb2);have x1_2:=HW2.out.cell c1;have x3_2:=HW2.out.cell c3;have y1_2:=HW2.out.cell k1;clear hw2 hb2;go_wp2_with fail
  refine (HSt.out _ _ HW2.out (by show (_ ++ ([40] ++ (ml ++ [41,32]))).length + _≤_; simp only [List.length_append,List.length_cons,List.length_nil]; omega)).mono ?_;rintro e w3 ⟨rfl,hw3,hb3⟩;have HW3:=lh hw3;have HB3:=lh (HB2.out.trans hb3);clear hw3 hb3;go_wp2_with fail
  first | go_end0 | refine bodyPost_ret (results_none rfl _ _ _) rfl ?_
  exact ⟨rfl,by simpa using HW3.out,HB3.out⟩
 ·have hz0 : tx.size ≠ 0 := fun e => hz (ByteArray.size_eq_zero_iff.1 e);rw [Y3 hz0] at hF ⊢;have hsxl : sx.data.toList.length = 1 + tx.size := by rw [HSX.out]; simp [ByteArray.data_append]; omega
  simp only [List.length_append,List.length_cons,List.length_nil] at hF;have HS0:=lh (HW.out.str ⟨#[102,117,110,99,116,105,111,110]⟩ (by show l.length + 8≤_; omega));go_enter Tryz.func38,Tryz.ntmps38
  go_wp2_with fail
  refine HS0.out.mono ?_;rintro e w1 ⟨rfl,hw1,hb1⟩;have HW1:=lh hw1;have HB1:=lh hb1;have x1:=HW1.out.cell c1;have x3:=HW1.out.cell c3;have y0:=HW1.out.cell k0;have y1:=HW1.out.cell k1;have z3:=HW1.out.cell cp3;clear hw1 hb1 HS0;have hie:tx.toList.isEmpty=false:=by
   cases hc:tx.toList with
   | nil=>exact absurd (Z2r (by rw [hc]; kernel_rfl)) hz
   | cons u r=>rfl
  go_wp2_with fail
  rw [← HSX.out];refine (HW1.out.str sx (by rw [hsxl]; show (l ++ _).length + _≤_; simp only [List.length_append,List.length_cons,List.length_nil]; omega)).mono ?_;rintro e w2 ⟨rfl,hw2,hb2⟩;have HW2:=lh hw2;have HB2:=lh (HB1.out.trans hb2);have x1_2:=HW2.out.cell c1;have x3_2:=HW2.out.cell c3;have y0_2:=HW2.out.cell k0;have y1_2:=HW2.out.cell k1;have z3_2:=HW2.out.cell cp3;clear hw2 hb2;go_wp2_with fail
  refine (HLs.out _ _ HW2.out (by show _ + (1 + ml.length + 2)≤_; simp only [List.length_append,List.length_cons,List.length_nil]; omega)).mono ?_;rintro e w3 ⟨rfl,hw3,hb3⟩;have HW3:=lh hw3;have HB3:=lh (HB2.out.trans hb3);have x1_3:=HW3.out.cell c1;have x3_3:=HW3.out.cell c3;have y1_3:=HW3.out.cell k1;clear hw3 hb3;go_wp2_with fail
  refine (HSt.out _ _ HW3.out (by show (_ ++ ([40] ++ (ml ++ [41,32]))).length + _≤_; simp only [List.length_append,List.length_cons,List.length_nil]; omega)).mono ?_;rintro e w4 ⟨rfl,hw4,hb4⟩;have HW4:=lh hw4;have HB4:=lh (HB3.out.trans hb4);clear hw4 hb4;go_wp2_with fail
  first | go_end0 | refine bodyPost_ret (results_none rfl _ _ _) rfl ?_
  exact ⟨rfl,by simpa using HW4.out,HB4.out⟩
theorem Zc1 {w0:World} {Bt:Nat} (a:ATree) (hT:TreeAt w0 Bt a) (h1:a.kind=37) (p q:ATree) (hks:a.kids=[p,q]) (hf:Zbk w0 a (Z5 (fnP a.text (lP true (Zg p.kids)) (sP q.tree)))):Ze w0 a:=by
 have c0:=hT.c0;rw [h1] at c0;have hv:∀ need,Z5 (vP a.tree need)=if decide ((9:Int) < need)=true then 40 :: (Z5 (fnP a.text (lP true (Zg p.kids)) (sP q.tree)) ++ [41]) else Z5 (fnP a.text (lP true (Zg p.kids)) (sP q.tree)):=fun need=>by
  obtain ⟨ab,av,ak,tx,an,aks⟩:=a;obtain ⟨pb,pv,pk,pt,pn,pks⟩:=p;simp only [ATree.kind,ATree.kids,ATree.text] at h1 hks ⊢;subst h1;subst hks;exact Z0y _ _ _ _ _ _ (by simp only [Zg,ATree.tree]; rw [Zei]) 9 (by decide)
 obtain ⟨mf,emf⟩:=zX (Z5 (fnP a.text (lP true (Zg p.kids)) (sP q.tree)))
 rw [← emf] at hf;simp only [← emf] at hv;have HF2:=lh hf;clear hT h1 hks emf hf;intro need B b l w hW hF;unfold Fits at hF;rw [hv] at hF ⊢;have HW:=lh hW;unfold ATree.ptr;by_cases hp:9 < need
 ·rw [decide_eq_true hp, Y5 rfl] at hF ⊢;try simp only [List.length_append, List.length_cons, List.length_nil] at hF
  have HW0:=HW;have HB0:Hid (Below B w w):=lh (Y2 _ _);have x0_0:=HW0.out.cell c0;have HS:Hid (∀ w,Calls Tryz.prog 57 #[.int .i64 (37)] w fun e w'=>e=.returned (.int .i64 (9))∧w'=w):=lh fun w=>by have h:=Zc (37) w; rwa [show Zf (37)=9 by first | assumption | decide] at h
  have hcmp:(9 < need)=True:=by simp; omega
  clear hW HW hp hv;go_enter_defers Tryz.func37,Tryz.ntmps37
  go_wp2_with fail
  refine (HS.out _).mono ?_;rintro e w' ⟨rfl,hw'⟩;rw [hw'];clear hw' w' HS;go_wp2_with fail
  refine (HW0.out.byte 40 (by omega)).mono ?_;rintro e w1 ⟨rfl,hw1,hb1⟩;have HW1:=lh hw1;have HB1:=lh (HB0.out.trans hb1);have x0_1:=HW1.out.cell c0;clear hw1 hb1;go_wp2_with fail
  refine (HF2.out B b _ _ HW1.out (by first | omega | (simp only [List.length_append,List.length_cons,List.length_nil]; omega))).mono ?_;rintro e w2 ⟨rfl,hw2,hb2⟩;have HW2:=lh hw2;have HB2:=lh (HB1.out.trans hb2);have x0_2:=HW2.out.cell c0;clear hw2 hb2;go_wp2_with fail
  refine leaves_cons (f:=17) (args:=#[.pointer (some ⟨b,0,none⟩),.int .u8 41]) (by simp) (by simp [go_sem]) ?_;refine (HW2.out.byteD 41 (by first | omega | (simp only [List.length_append,List.length_cons,List.length_nil]; omega)) .returning).mono ?_;rintro e u' w'' ⟨rfl,rfl,hwf,hbf⟩;refine ⟨.tuple #[],by simp [results,Tryz.results37,go_sem],rfl,?_,HB2.out.trans hbf⟩;simpa using hwf
 ·rw [decide_eq_false hp, Y3 (by simp)] at hF ⊢;try simp only [List.length_append, List.length_cons, List.length_nil] at hF
  have HW0:=HW;have HB0:Hid (Below B w w):=lh (Y2 _ _);have x0_0:=HW0.out.cell c0;have HS:Hid (∀ w,Calls Tryz.prog 57 #[.int .i64 (37)] w fun e w'=>e=.returned (.int .i64 (9))∧w'=w):=lh fun w=>by have h:=Zc (37) w; rwa [show Zf (37)=9 by first | assumption | decide] at h
  have hcmp:(9 < need)=False:=by simp; omega
  clear hW HW hp hv;go_enter_defers Tryz.func37,Tryz.ntmps37
  go_wp2_with fail
  refine (HS.out _).mono ?_;rintro e w' ⟨rfl,hw'⟩;rw [hw'];clear hw' w' HS;go_wp2_with fail
  refine (HF2.out B b _ _ HW0.out (by first | omega | (simp only [List.length_append,List.length_cons,List.length_nil]; omega))).mono ?_;rintro e w1 ⟨rfl,hw1,hb1⟩;have HW1:=lh hw1;have HB1:=lh (HB0.out.trans hb1);have x0_1:=HW1.out.cell c0;clear hw1 hb1;go_wp2_with fail
  refine ⟨.tuple #[],by simp [results,Tryz.results37,go_sem],rfl,?_,HB1.out⟩;have hwf:=HW1.out;simpa using hwf
theorem Zca {w0:World} {Bt:Nat} (a:ATree) (hT:TreeAt w0 Bt a) (h1:a.kind=38) (hl:Z3f w0 a.kids):Ze w0 a:=by
 have c0:=hT.c0;rw [h1] at c0;have c3:=hT.c3;have hSl:=Z5b hT;obtain ⟨pp,pc,hpv,_,_⟩:=hT.vOf;rw [hpv] at c3 hSl;have hv:∀ need,Z5 (vP a.tree need)=if decide ((9:Int) < need)=true then 40 :: ((123 :: (Z5 (lP true (Zg a.kids)) ++ [125])) ++ [41]) else 123 :: (Z5 (lP true (Zg a.kids)) ++ [125]):=fun need=>by
  obtain ⟨ab,av,ak,tx,an,aks⟩:=a;simp only [ATree.kind,ATree.kids] at h1 ⊢;subst h1;exact Z0y _ _ _ _ _ _ (by rw [Zeh,Z8,Za]; rfl) 9 (by decide)
 obtain ⟨pn,hpn⟩:=zX a.kids.length
 have hl2:=fun B b l w h=>hl ⟨#[123]⟩ ⟨#[125]⟩ (.slice pp a.kids.length pc) B b l w hSl h;obtain ⟨ml,eml⟩:=zX (Z5 (lP true (Zg a.kids)))
 rw [← eml,← hpn] at hl2;rw [← hpn] at c3;simp only [← eml] at hv;have HLs:=lh hl2;clear hT h1 hSl hpv hpn eml hl hl2;intro need B b l w hW hF;unfold Fits at hF;rw [hv] at hF ⊢;have HW:=lh hW;unfold ATree.ptr;by_cases hp:9 < need
 ·rw [decide_eq_true hp, Y5 rfl] at hF ⊢;try simp only [List.length_append, List.length_cons, List.length_nil] at hF
  have HW0:=HW;have HB0:Hid (Below B w w):=lh (Y2 _ _);have x0_0:=HW0.out.cell c0;have x1_0:=HW0.out.cell c3;have HS:Hid (∀ w,Calls Tryz.prog 57 #[.int .i64 (38)] w fun e w'=>e=.returned (.int .i64 (9))∧w'=w):=lh fun w=>by have h:=Zc (38) w; rwa [show Zf (38)=9 by first | assumption | decide] at h
  have hcmp:(9 < need)=True:=by simp; omega
  clear hW HW hp hv;go_enter_defers Tryz.func37,Tryz.ntmps37
  go_wp2_with fail
  refine (HS.out _).mono ?_;rintro e w' ⟨rfl,hw'⟩;rw [hw'];clear hw' w' HS;go_wp2_with fail
  refine (HW0.out.byte 40 (by omega)).mono ?_;rintro e w1 ⟨rfl,hw1,hb1⟩;have HW1:=lh hw1;have HB1:=lh (HB0.out.trans hb1);have x0_1:=HW1.out.cell c0;have x1_1:=HW1.out.cell c3;clear hw1 hb1;go_wp2_with fail
  refine (HLs.out B b _ _ HW1.out (by show _ + (1 + ml.length + 1)≤_; first | omega | (simp only [List.length_append,List.length_cons,List.length_nil]; omega))).mono ?_;rintro e w2 ⟨rfl,hw2,hb2⟩;have HW2:=lh hw2;have HB2:=lh (HB1.out.trans hb2);have x0_2:=HW2.out.cell c0;have x1_2:=HW2.out.cell c3;clear hw2 hb2;go_wp2_with fail
  refine leaves_cons (f:=17) (args:=#[.pointer (some ⟨b,0,none⟩),.int .u8 41]) (by simp) (by simp [go_sem]) ?_;refine (HW2.out.byteD 41 (by first | omega | (simp only [List.length_append,List.length_cons,List.length_nil]; omega)) .returning).mono ?_;rintro e u' w'' ⟨rfl,rfl,hwf,hbf⟩;refine ⟨.tuple #[],by simp [results,Tryz.results37,go_sem],rfl,?_,HB2.out.trans hbf⟩;simpa using hwf
 ·rw [decide_eq_false hp, Y3 (by simp)] at hF ⊢;try simp only [List.length_append, List.length_cons, List.length_nil] at hF
  have HW0:=HW;have HB0:Hid (Below B w w):=lh (Y2 _ _);have x0_0:=HW0.out.cell c0;have x1_0:=HW0.out.cell c3;have HS:Hid (∀ w,Calls Tryz.prog 57 #[.int .i64 (38)] w fun e w'=>e=.returned (.int .i64 (9))∧w'=w):=lh fun w=>by have h:=Zc (38) w; rwa [show Zf (38)=9 by first | assumption | decide] at h
  have hcmp:(9 < need)=False:=by simp; omega
  clear hW HW hp hv;go_enter_defers Tryz.func37,Tryz.ntmps37
  go_wp2_with fail
  refine (HS.out _).mono ?_;rintro e w' ⟨rfl,hw'⟩;rw [hw'];clear hw' w' HS;go_wp2_with fail
  refine (HLs.out B b _ _ HW0.out (by show _ + (1 + ml.length + 1)≤_; first | omega | (simp only [List.length_append,List.length_cons,List.length_nil]; omega))).mono ?_;rintro e w1 ⟨rfl,hw1,hb1⟩;have HW1:=lh hw1;have HB1:=lh (HB0.out.trans hb1);have x0_1:=HW1.out.cell c0;have x1_1:=HW1.out.cell c3;clear hw1 hb1;go_wp2_with fail
  refine ⟨.tuple #[],by simp [results,Tryz.results37,go_sem],rfl,?_,HB1.out⟩;have hwf:=HW1.out;simpa using hwf
theorem Z8q {w0:World} {Bt:Nat} (a:ATree) (hT:TreeAt w0 Bt a) (h1:a.kind=35) (x:ATree) (r:List ATree) (hks:a.kids=x :: r) (hx:Ze w0 x) (hl:Z3f w0 r) (hrl:r.length≤100000) (g cp:Nat) (c3':w0.cell? ⟨a.b,3,none⟩=some (.slice (some ⟨g,0,none⟩) a.kids.length cp)) (hge:a.kids.length≤cp) (hmx:cp≤maxLen) (hk:∀ (i:Nat) (x:ATree),a.kids[i]?=some x→w0.cell? ⟨g,i,none⟩=some x.ptr) (hcp:cp=1):Ze w0 a:=by
 have c0:=hT.c0;rw [h1] at c0;obtain ⟨pn,hpn⟩:=zX r.length
 have c3:w0.cell? ⟨a.b,3,none⟩=some (.slice (some ⟨g,0,none⟩) (pn + 1) cp):=by rw [hks] at c3'; rw [hpn]; exact c3'
 have hge2:pn + 1≤cp:=by rw [hks] at hge; rw [hpn]; exact hge
 unfold maxLen at hmx;have k0:=hk 0 x (by rw [hks]; rfl);unfold ATree.ptr at k0;have hv:∀ need,Z5 (vP a.tree need)=if decide ((8:Int) < need)=true then 40 :: ((Z5 (vP x.tree 8) ++ (40 :: (Z5 (lP true (Zg r)) ++ [41]))) ++ [41]) else Z5 (vP x.tree 8) ++ (40 :: (Z5 (lP true (Zg r)) ++ [41])):=fun need=>by
  obtain ⟨ab,av,ak,tx,an,aks⟩:=a;simp only [ATree.kind,ATree.kids] at h1 hks ⊢;subst h1;subst hks;exact Z0y _ _ _ _ _ _ (by simp only [Zg]; rw [Z8x,Za,Z8,Za]; rfl) 8 (by decide)
 have hsl:Z75 w0 (.slice (some ⟨g,0,none⟩) pn 0) r:=by
  rw [hpn];refine ⟨(some ⟨g,0,none⟩),0,rfl,by omega,by unfold maxLen; omega,fun i y hy=>⟨g,1,?_,?_⟩⟩
  ·have:=(List.getElem?_eq_some_iff.1 hy).1;first | rfl | omega
  ·have:=hk (i + 1) y (by rw [hks]; exact hy);rwa [Nat.add_comm] at this
 have hl2:=fun B b l w=>hl ⟨#[40]⟩ ⟨#[41]⟩ (.slice (some ⟨g,0,none⟩) pn 0) B b l w hsl;obtain ⟨ml,eml⟩:=zX (Z5 (lP true (Zg r)))
 rw [← eml] at hl2;simp only [← eml] at hv;have HLs:=lh hl2;have hpI:(1:Int)≤((pn + 1:Nat):Int):=by omega
 have hpb:pn≤100000:=by omega
 clear eml hl hl2 hsl hpn hrl;have hmx:=hx.says (8);obtain ⟨mx,emx⟩:=zX (Z5 (vP x.tree (8)))
 rw [← emx] at hmx;simp only [← emx] at hv;have Hmx:=lh hmx;clear emx hmx;clear hT h1 hks hk c3' hge;subst hcp;have hp0:pn=0:=by omega
 subst hp0;simp only [Nat.zero_add] at c3;clear hge2 hpI hpb;intro need B b l w hW hF;unfold Fits at hF;rw [hv] at hF ⊢;have HW:=lh hW;unfold ATree.ptr;by_cases hp:8 < need
 ·rw [decide_eq_true hp, Y5 rfl] at hF ⊢;try simp only [List.length_append, List.length_cons, List.length_nil] at hF
  have HW0:=HW;have HB0:Hid (Below B w w):=lh (Y2 _ _);have x0_0:=HW0.out.cell c0;have x1_0:=HW0.out.cell c3;have x2_0:=HW0.out.cell k0;have HS:Hid (∀ w,Calls Tryz.prog 57 #[.int .i64 (35)] w fun e w'=>e=.returned (.int .i64 (8))∧w'=w):=lh fun w=>by have h:=Zc (35) w; rwa [show Zf (35)=8 by first | assumption | decide] at h
  have hcmp:(8 < need)=True:=by simp; omega
  clear hW HW hp hv;go_enter_defers Tryz.func37,Tryz.ntmps37
  go_wp2_with fail
  refine (HS.out _).mono ?_;rintro e w' ⟨rfl,hw'⟩;rw [hw'];clear hw' w' HS;go_wp2_with fail
  refine (HW0.out.byte 40 (by omega)).mono ?_;rintro e w1 ⟨rfl,hw1,hb1⟩;have HW1:=lh hw1;have HB1:=lh (HB0.out.trans hb1);have x0_1:=HW1.out.cell c0;have x1_1:=HW1.out.cell c3;have x2_1:=HW1.out.cell k0;clear hw1 hb1;go_wp2_with fail
  refine (Hmx.out B b _ _ HW1.out (by first | omega | (simp only [List.length_append,List.length_cons,List.length_nil]; omega))).mono ?_;rintro e w2 ⟨rfl,hw2,hb2⟩;have HW2:=lh hw2;have HB2:=lh (HB1.out.trans hb2);have x0_2:=HW2.out.cell c0;have x1_2:=HW2.out.cell c3;have x2_2:=HW2.out.cell k0;clear hw2 hb2;go_wp2_with fail
  refine (HLs.out B b _ _ HW2.out (by show _ + (1 + ml.length + 1)≤_; simp only [List.length_append,List.length_cons,List.length_nil]; omega)).mono ?_;rintro e w3 ⟨rfl,hw3,hb3⟩;have HW3:=lh hw3;have HB3:=lh (HB2.out.trans hb3);have x0_3:=HW3.out.cell c0;have x1_3:=HW3.out.cell c3;have x2_3:=HW3.out.cell k0;clear hw3 hb3;go_wp2_with fail
  refine leaves_cons (f:=17) (args:=#[.pointer (some ⟨b,0,none⟩),.int .u8 41]) (by simp) (by simp [go_sem]) ?_;refine (HW3.out.byteD 41 (by first | omega | (simp only [List.length_append,List.length_cons,List.length_nil]; omega)) .returning).mono ?_;rintro e u' w'' ⟨rfl,rfl,hwf,hbf⟩;refine ⟨.tuple #[],by simp [results,Tryz.results37,go_sem],rfl,?_,HB3.out.trans hbf⟩;simpa using hwf
 ·rw [decide_eq_false hp, Y3 (by simp)] at hF ⊢;try simp only [List.length_append, List.length_cons, List.length_nil] at hF
  have HW0:=HW;have HB0:Hid (Below B w w):=lh (Y2 _ _);have x0_0:=HW0.out.cell c0;have x1_0:=HW0.out.cell c3;have x2_0:=HW0.out.cell k0;have HS:Hid (∀ w,Calls Tryz.prog 57 #[.int .i64 (35)] w fun e w'=>e=.returned (.int .i64 (8))∧w'=w):=lh fun w=>by have h:=Zc (35) w; rwa [show Zf (35)=8 by first | assumption | decide] at h
  have hcmp:(8 < need)=False:=by simp; omega
  clear hW HW hp hv;go_enter_defers Tryz.func37,Tryz.ntmps37
  go_wp2_with fail
  refine (HS.out _).mono ?_;rintro e w' ⟨rfl,hw'⟩;rw [hw'];clear hw' w' HS;go_wp2_with fail
  refine (Hmx.out B b _ _ HW0.out (by first | omega | (simp only [List.length_append,List.length_cons,List.length_nil]; omega))).mono ?_;rintro e w1 ⟨rfl,hw1,hb1⟩;have HW1:=lh hw1;have HB1:=lh (HB0.out.trans hb1);have x0_1:=HW1.out.cell c0;have x1_1:=HW1.out.cell c3;have x2_1:=HW1.out.cell k0;clear hw1 hb1;go_wp2_with fail
  refine (HLs.out B b _ _ HW1.out (by show _ + (1 + ml.length + 1)≤_; simp only [List.length_append,List.length_cons,List.length_nil]; omega)).mono ?_;rintro e w2 ⟨rfl,hw2,hb2⟩;have HW2:=lh hw2;have HB2:=lh (HB1.out.trans hb2);have x0_2:=HW2.out.cell c0;have x1_2:=HW2.out.cell c3;have x2_2:=HW2.out.cell k0;clear hw2 hb2;go_wp2_with fail
  refine ⟨.tuple #[],by simp [results,Tryz.results37,go_sem],rfl,?_,HB2.out⟩;have hwf:=HW2.out;simpa using hwf
theorem Z8e {w0:World} {Bt:Nat} (a:ATree) (hT:TreeAt w0 Bt a) (h1:a.kind=35) (x:ATree) (r:List ATree) (hks:a.kids=x :: r) (hx:Ze w0 x) (hl:Z3f w0 r) (hrl:r.length≤100000) (g cp:Nat) (c3':w0.cell? ⟨a.b,3,none⟩=some (.slice (some ⟨g,0,none⟩) a.kids.length cp)) (hge:a.kids.length≤cp) (hmx:cp≤maxLen) (hk:∀ (i:Nat) (x:ATree),a.kids[i]?=some x→w0.cell? ⟨g,i,none⟩=some x.ptr) (hcp:¬ cp=1):Ze w0 a:=by
 have c0:=hT.c0;rw [h1] at c0;obtain ⟨pn,hpn⟩:=zX r.length
 have c3:w0.cell? ⟨a.b,3,none⟩=some (.slice (some ⟨g,0,none⟩) (pn + 1) cp):=by rw [hks] at c3'; rw [hpn]; exact c3'
 have hge2:pn + 1≤cp:=by rw [hks] at hge; rw [hpn]; exact hge
 unfold maxLen at hmx;have k0:=hk 0 x (by rw [hks]; rfl);unfold ATree.ptr at k0;have hv:∀ need,Z5 (vP a.tree need)=if decide ((8:Int) < need)=true then 40 :: ((Z5 (vP x.tree 8) ++ (40 :: (Z5 (lP true (Zg r)) ++ [41]))) ++ [41]) else Z5 (vP x.tree 8) ++ (40 :: (Z5 (lP true (Zg r)) ++ [41])):=fun need=>by
  obtain ⟨ab,av,ak,tx,an,aks⟩:=a;simp only [ATree.kind,ATree.kids] at h1 hks ⊢;subst h1;subst hks;exact Z0y _ _ _ _ _ _ (by simp only [Zg]; rw [Z8x,Za,Z8,Za]; rfl) 8 (by decide)
 have hsl:Z75 w0 (.slice (some ⟨g,1,none⟩) pn (cp - 1)) r:=by
  rw [hpn];refine ⟨(some ⟨g,1,none⟩),(cp - 1),rfl,by omega,by unfold maxLen; omega,fun i y hy=>⟨g,1,?_,?_⟩⟩
  ·have:=(List.getElem?_eq_some_iff.1 hy).1;first | rfl | omega
  ·have:=hk (i + 1) y (by rw [hks]; exact hy);rwa [Nat.add_comm] at this
 have hl2:=fun B b l w=>hl ⟨#[40]⟩ ⟨#[41]⟩ (.slice (some ⟨g,1,none⟩) pn (cp - 1)) B b l w hsl;obtain ⟨ml,eml⟩:=zX (Z5 (lP true (Zg r)))
 rw [← eml] at hl2;simp only [← eml] at hv;have HLs:=lh hl2;have hpI:(1:Int)≤((pn + 1:Nat):Int):=by omega
 have hpb:pn≤100000:=by omega
 clear eml hl hl2 hsl hpn hrl;have hmx:=hx.says (8);obtain ⟨mx,emx⟩:=zX (Z5 (vP x.tree (8)))
 rw [← emx] at hmx;simp only [← emx] at hv;have Hmx:=lh hmx;clear emx hmx;clear hT h1 hks hk c3' hge;intro need B b l w hW hF;unfold Fits at hF;rw [hv] at hF ⊢;have HW:=lh hW;unfold ATree.ptr;by_cases hp:8 < need
 ·rw [decide_eq_true hp, Y5 rfl] at hF ⊢;try simp only [List.length_append, List.length_cons, List.length_nil] at hF
  have HW0:=HW;have HB0:Hid (Below B w w):=lh (Y2 _ _);have x0_0:=HW0.out.cell c0;have x1_0:=HW0.out.cell c3;have x2_0:=HW0.out.cell k0;have HS:Hid (∀ w,Calls Tryz.prog 57 #[.int .i64 (35)] w fun e w'=>e=.returned (.int .i64 (8))∧w'=w):=lh fun w=>by have h:=Zc (35) w; rwa [show Zf (35)=8 by first | assumption | decide] at h
  have hcmp:(8 < need)=True:=by simp; omega
  clear hW HW hp hv;go_enter_defers Tryz.func37,Tryz.ntmps37
  go_wp2_with fail
  refine (HS.out _).mono ?_;rintro e w' ⟨rfl,hw'⟩;rw [hw'];clear hw' w' HS;go_wp2_with fail
  refine (HW0.out.byte 40 (by omega)).mono ?_;rintro e w1 ⟨rfl,hw1,hb1⟩;have HW1:=lh hw1;have HB1:=lh (HB0.out.trans hb1);have x0_1:=HW1.out.cell c0;have x1_1:=HW1.out.cell c3;have x2_1:=HW1.out.cell k0;clear hw1 hb1;go_wp2_with fail
  refine (Hmx.out B b _ _ HW1.out (by first | omega | (simp only [List.length_append,List.length_cons,List.length_nil]; omega))).mono ?_;rintro e w2 ⟨rfl,hw2,hb2⟩;have HW2:=lh hw2;have HB2:=lh (HB1.out.trans hb2);have x0_2:=HW2.out.cell c0;have x1_2:=HW2.out.cell c3;have x2_2:=HW2.out.cell k0;clear hw2 hb2;go_wp2_with fail
  refine (HLs.out B b _ _ HW2.out (by show _ + (1 + ml.length + 1)≤_; simp only [List.length_append,List.length_cons,List.length_nil]; omega)).mono ?_;rintro e w3 ⟨rfl,hw3,hb3⟩;have HW3:=lh hw3;have HB3:=lh (HB2.out.trans hb3);have x0_3:=HW3.out.cell c0;have x1_3:=HW3.out.cell c3;have x2_3:=HW3.out.cell k0;clear hw3 hb3;go_wp2_with fail
  refine leaves_cons (f:=17) (args:=#[.pointer (some ⟨b,0,none⟩),.int .u8 41]) (by simp) (by simp [go_sem]) ?_;refine (HW3.out.byteD 41 (by first | omega | (simp only [List.length_append,List.length_cons,List.length_nil]; omega)) .returning).mono ?_;rintro e u' w'' ⟨rfl,rfl,hwf,hbf⟩;refine ⟨.tuple #[],by simp [results,Tryz.results37,go_sem],rfl,?_,HB3.out.trans hbf⟩;simpa using hwf
 ·rw [decide_eq_false hp, Y3 (by simp)] at hF ⊢;try simp only [List.length_append, List.length_cons, List.length_nil] at hF
  have HW0:=HW;have HB0:Hid (Below B w w):=lh (Y2 _ _);have x0_0:=HW0.out.cell c0;have x1_0:=HW0.out.cell c3;have x2_0:=HW0.out.cell k0;have HS:Hid (∀ w,Calls Tryz.prog 57 #[.int .i64 (35)] w fun e w'=>e=.returned (.int .i64 (8))∧w'=w):=lh fun w=>by have h:=Zc (35) w; rwa [show Zf (35)=8 by first | assumption | decide] at h
  have hcmp:(8 < need)=False:=by simp; omega
  clear hW HW hp hv;go_enter_defers Tryz.func37,Tryz.ntmps37
  go_wp2_with fail
  refine (HS.out _).mono ?_;rintro e w' ⟨rfl,hw'⟩;rw [hw'];clear hw' w' HS;go_wp2_with fail
  refine (Hmx.out B b _ _ HW0.out (by first | omega | (simp only [List.length_append,List.length_cons,List.length_nil]; omega))).mono ?_;rintro e w1 ⟨rfl,hw1,hb1⟩;have HW1:=lh hw1;have HB1:=lh (HB0.out.trans hb1);have x0_1:=HW1.out.cell c0;have x1_1:=HW1.out.cell c3;have x2_1:=HW1.out.cell k0;clear hw1 hb1;go_wp2_with fail
  refine (HLs.out B b _ _ HW1.out (by show _ + (1 + ml.length + 1)≤_; simp only [List.length_append,List.length_cons,List.length_nil]; omega)).mono ?_;rintro e w2 ⟨rfl,hw2,hb2⟩;have HW2:=lh hw2;have HB2:=lh (HB1.out.trans hb2);have x0_2:=HW2.out.cell c0;have x1_2:=HW2.out.cell c3;have x2_2:=HW2.out.cell k0;clear hw2 hb2;go_wp2_with fail
  refine ⟨.tuple #[],by simp [results,Tryz.results37,go_sem],rfl,?_,HB2.out⟩;have hwf:=HW2.out;simpa using hwf
theorem Zar {w0:World} {Bt:Nat} (a:ATree) (hT:TreeAt w0 Bt a) (h1:a.kind=35) (x:ATree) (r:List ATree) (hks:a.kids=x :: r) (hx:Ze w0 x) (hl:Z3f w0 r) (hrl:r.length≤100000):Ze w0 a:=by
 obtain ⟨g,cp,c3',hge,hmx,hgl,hk⟩:=Z0r hT (by rw [hks]; simp);by_cases hcp:cp=1;·exact Z8q a hT h1 x r hks hx hl hrl g cp c3' hge hmx hk hcp
 ·exact Z8e a hT h1 x r hks hx hl hrl g cp c3' hge hmx hk hcp
theorem Zew {w0:World} {Bt:Nat} (a:ATree) (hT:TreeAt w0 Bt a) (h1:a.kind=5) (p q:ATree) (hks:a.kids=[p,q]) (hf:Zbk w0 a (Z5 (fnP a.text (lP true (Zg p.kids)) (sP q.tree)))):Z12 w0 a:=by
 have c0:=hT.c0;rw [h1] at c0;have c1:=hT.c1;have hv:Z5 (sP a.tree)=Z5 (fnP a.text (lP true (Zg p.kids)) (sP q.tree)):=by
  obtain ⟨ab,av,ak,tx,an,aks⟩:=a;obtain ⟨pb,pv,pk,pt,pn,pks⟩:=p;simp only [ATree.kind,ATree.kids,ATree.text] at h1 hks ⊢;subst h1;subst hks;simp only [Zg,ATree.tree];rw [Zec]
 obtain ⟨mf,emf⟩:=zX (Z5 (fnP a.text (lP true (Zg p.kids)) (sP q.tree)))
 rw [← emf] at hf;simp only [← emf] at hv;have HF2:=lh hf;clear hT h1 hks emf hf;intro B b l w hW hF;unfold Fits at hF;rw [hv] at hF ⊢;try simp only [List.length_append,List.length_cons,List.length_nil] at hF
 have HW0:=lh hW;have HB0:Hid (Below B w w):=lh (Y2 _ _);unfold ATree.ptr;have x0_0:=HW0.out.cell c0;clear hW hv;go_enter Tryz.func16,Tryz.ntmps16
 go_wp2_with fail
 refine (HF2.out B b _ _ HW0.out (by first | omega | (simp only [List.length_append,List.length_cons,List.length_nil]; omega))).mono ?_;rintro e w1 ⟨rfl,hw1,hb1⟩;have HW1:=lh hw1;have HB1:=lh (HB0.out.trans hb1);have x0_1:=HW1.out.cell c0;clear hw1 hb1;go_wp2_with fail
 first | go_end0 | refine bodyPost_ret (results_none rfl _ _ _) rfl ?_
 exact ⟨rfl,by simpa using HW1.out,HB1.out⟩
theorem Zer {w0:World} {Bt:Nat} (a:ATree) (hT:TreeAt w0 Bt a) (h1:a.kind=15) (x:ATree) (hks:a.kids=[x]) (hx:Ze w0 x):Z12 w0 a:=by
 have c0:=hT.c0;rw [h1] at c0;have c1:=hT.c1;obtain ⟨g,cp,c3',hge,hmx,hgl,hk⟩:=Z0r hT (by rw [hks]; simp);have c3:w0.cell? ⟨a.b,3,none⟩=some (.slice (some ⟨g,0,none⟩) 1 cp):=by rw [hks] at c3'; exact c3'
 have hge2:1≤cp:=by rw [hks] at hge; exact hge
 unfold maxLen at hmx;have k0:=hk 0 x (by rw [hks]; rfl);unfold ATree.ptr at k0;have HAB:=lh hT.lt;have hv:Z5 (sP a.tree)=(if Z74 (Z5 (vP x.tree 0)) then 40 :: (Z5 (vP x.tree 0) ++ [41]) else Z5 (vP x.tree 0)) ++ [59]:=by
  obtain ⟨ab,av,ak,tx,an,aks⟩:=a;simp only [ATree.kind,ATree.kids] at h1 hks;subst h1;subst hks;simp only [Zg,ATree.tree];rw [Zbz,Za];unfold Zdx Z8t;split;·rw [Z8,Za]; rfl
  ·rfl
 have hmx:=hx.says 0;obtain ⟨mx,emx⟩:=zX (Z5 (vP x.tree 0))
 rw [← emx] at hmx;simp only [← emx] at hv;have Hmx:=lh hmx;clear emx hmx;clear hT h1 hks c3' hge;intro B b l w hW hF;unfold Fits at hF;rw [hv] at hF ⊢;have hml:l.length + (mx.length + 1)≤140737488355328:=by
  rw [Yi] at hF;split at hF;·simp only [List.length_append,List.length_cons,List.length_nil] at hF; omega
  ·simp only [List.length_append,List.length_cons,List.length_nil] at hF; omega
 have HF:=lh hF;have HW:=lh hW;have hWn:BW w0 w.heap.size w.heap.size [] (w.alloc (.cells #[.pointer none,.slice none 0 0] 55)):=⟨(BAt.new w).is,hW.bel.alloc (Y4 hW.low hW.sz) _,Y4 hW.low hW.sz,by rw [World.size_alloc]; omega⟩
 have HWN:=lh hWn;have y0:=hWn.cell c0;have y3:=hWn.cell c3;have yk:=hWn.cell k0;have x0:=hW.cell c0;have x3:=hW.cell c3;have xk:=hW.cell k0;have hab:a.b < w.heap.size:=by
  have h1:a.b < w0.heap.size:=HAB.out;have:=hW.bel.size; omega
 have hgb:g < w.heap.size:=by have:=hW.bel.size; omega
 have q1:¬ 9223372036854775807 < 1 + mx.length:=by omega
 have q2:¬ 9223372036854775807 < 1 + mx.length + 1:=by omega
 have q3:¬ 9223372036854775807 < 1 + mx.length + 1 + 1:=by omega
 have q4:¬ 9223372036854775807 < mx.length + 1:=by omega
 obtain ⟨b1,hb1⟩:=zX (Lib.hasPrefix mx [123])
 obtain ⟨b2,hb2⟩:=zX (Lib.hasPrefix mx [102,117,110,99,116,105,111,110,40])
 obtain ⟨b3,hb3⟩:=zX (Lib.hasPrefix mx [102,117,110,99,116,105,111,110,32])
 have hst:Z74 mx=(b1 || b2 || b3):=by rw [hb1,hb2,hb3]; rfl
 have P1:Hid (∀ w,Calls Tryz.prog 26 #[.string ⟨mx.toArray⟩,.string ⟨#[123]⟩] w fun e w'=>e=.returned (.bool b1)∧w'=w):=lh fun w=>by rw [hb1]; exact Tryz.strings_HasPrefix ⟨mx.toArray⟩ ⟨#[123]⟩ w
 have P2:Hid (∀ w,Calls Tryz.prog 26 #[.string ⟨mx.toArray⟩,.string ⟨#[102,117,110,99,116,105,111,110,40]⟩] w fun e w'=>e=.returned (.bool b2)∧w'=w):=lh fun w=>by rw [hb2]; exact Tryz.strings_HasPrefix ⟨mx.toArray⟩ ⟨#[102,117,110,99,116,105,111,110,40]⟩ w
 have P3:Hid (∀ w,Calls Tryz.prog 26 #[.string ⟨mx.toArray⟩,.string ⟨#[102,117,110,99,116,105,111,110,32]⟩] w fun e w'=>e=.returned (.bool b3)∧w'=w):=lh fun w=>by rw [hb3]; exact Tryz.strings_HasPrefix ⟨mx.toArray⟩ ⟨#[102,117,110,99,116,105,111,110,32]⟩ w
 rw [hst] at HF ⊢;obtain ⟨res,hres⟩:=zX ((if (b1 || b2 || b3)=true then 40 :: (mx ++ [41]) else mx) ++ [59])
 rw [← hres] at HF ⊢;have HR:=lh hres;obtain ⟨s1,hs1⟩:∃ s:ByteArray,s=⟨#[40]⟩ ++ ⟨mx.toArray⟩ ++ ⟨#[41]⟩ ++ ⟨#[59]⟩:=⟨_,rfl⟩
 obtain ⟨s2,hs2⟩:∃ s:ByteArray,s=⟨mx.toArray⟩ ++ ⟨#[59]⟩:=⟨_,rfl⟩
 have t1:s1.data.toList=40 :: (mx ++ [41]) ++ [59]:=by rw [hs1]; simp [ByteArray.data_append]
 have t2:s2.data.toList=mx ++ [59]:=by rw [hs2]; simp [ByteArray.data_append]
 have S1:=lh hs1;have S2:=lh hs2;have T1:=lh t1;have T2:=lh t2;have HMX:Hid (([]:List UInt8).length + mx.length≤140737488355328):=lh (by simp; omega);clear hW hF hWn hb1 hb2 hb3 hst hs1 hs2 t1 t2 hv hres;unfold ATree.ptr;go_enter Tryz.func16,Tryz.ntmps16
 go_wp2_with fail
 refine (Hmx.out w.heap.size w.heap.size _ _ HWN.out HMX.out).mono ?_;rintro e w2 ⟨rfl,hw2,hn2⟩;have HW2:=lh hw2;have HN2:=lh (((Y2 w.heap.size w).alloc (Y0 _) _).trans hn2);clear hw2 hn2;go_wp2_with fail
 refine (Tryz.Builder_String_any w.heap.size w.heap.size mx w2 (by have h:=HW2.out.is; rwa [List.nil_append] at h) HW2.out.sz).mono ?_;rintro e w3 ⟨rfl,hn3⟩;have HN3:=lh (HN2.out.trans hn3);have HW3:=lh (HW.out.keep HN3.out);have HB3:=lh (HN3.out.mono HW.out.sz |> fun h=>h);clear hn3;go_wp2_with fail
 refine (P1.out _).mono ?_;rintro e w' ⟨rfl,hw'⟩;rw [hw'];clear hw' w';cases b1 <;> (focus go_wp2_with fail)
 all_goals (try (focus (refine (P2.out _).mono ?_; rintro e w' ⟨rfl,hw'⟩; rw [hw']; clear hw' w'; cases b2 <;> (focus go_wp2_with fail))))
 all_goals (try (focus (refine (P3.out _).mono ?_; rintro e w' ⟨rfl,hw'⟩; rw [hw']; clear hw' w'; cases b3 <;> (focus go_wp2_with fail))))
 all_goals focus
  first
   | (rw [← S1.out]
      refine (HW3.out.str s1 (by have:=HF.out; rw [HR.out] at this; rw [T1.out]; simpa using this)).mono ?_;rintro e w4 ⟨rfl,hw4,hb4⟩;go_wp2_with fail
      first | go_end0 | refine bodyPost_ret (results_none rfl _ _ _) rfl ?_
      exact ⟨rfl,by rw [T1.out] at hw4; rw [HR.out]; simpa using hw4,HB3.out.trans hb4⟩)
   | (rw [← S2.out]
      refine (HW3.out.str s2 (by rw [T2.out,Yi,List.length_singleton]; omega)).mono ?_;rintro e w4 ⟨rfl,hw4,hb4⟩;go_wp2_with fail
      first | go_end0 | refine bodyPost_ret (results_none rfl _ _ _) rfl ?_
      exact ⟨rfl,by rw [T2.out] at hw4; rw [HR.out]; simpa using hw4,HB3.out.trans hb4⟩)
theorem Zek (f:Bool) (L:List Tree) (x:Tree):bP f (L ++ [x])=bP f L ++ (sepP (f && L.isEmpty) [sp] ++ sP x):=by
 induction L generalizing f with
 | nil=>rw [List.nil_append,Z4z,Z80,Z80]; simp
 | cons y L ih=>rw [List.cons_append,Z4z,Z4z,ih]; simp
theorem Zfh:∀ (M N:List ATree) (f:Bool),(Z5 (bP f (Zg M))).length≤(Z5 (bP f (Zg (M ++ N)))).length:=by
 intro M;induction M with
 | nil=>intro N f; rw [show Zg ([]:List ATree)=[] from rfl,Z80]; simp [Z18]
 | cons y M ih =>
   intro N f;rw [List.cons_append,Zg,Zg,Z4z,Z4z,Za,Za,Za,Za];simp only [List.length_append];have:=ih N false;omega
theorem Z9e {w0:World} {Bt:Nat} (a:ATree) (hT:TreeAt w0 Bt a) (h1:a.kind=6) (hL:∀ x∈a.kids,Z12 w0 x) (hlen:a.kids.length≤1000000):Z12 w0 a:=by
 have c0:=hT.c0;rw [h1] at c0;have c3:=hT.c3;have hV:=Z5b hT;have hv:Z5 (sP a.tree)=123 :: (Z5 (bP true (Zg a.kids)) ++ [125]):=by
  obtain ⟨ab,av,ak,tx,an,aks⟩:=a;simp only [ATree.kind,ATree.kids] at h1 ⊢;subst h1;simp only [ATree.tree];rw [Z8o,Z8,Za]; rfl
 obtain ⟨L,hLL⟩:=zX a.kids
 rw [← hLL] at hL hlen hv hV;clear hLL;intro B b l w hW hF;unfold Fits at hF;rw [hv] at hF ⊢;simp only [List.length_append,List.length_cons,List.length_nil] at hF;obtain ⟨p,cp,hpv,hge,hmx,hk⟩:=hV;rw [hpv] at c3;have HF:=lh hF;have HW:=lh hW;have HK:=lh hk;have HL:=lh hL;have x0:=HW.out.cell c0;have x3:=HW.out.cell c3;obtain ⟨n,hn⟩:=zX L.length
 have HN:=lh hn;rw [← hn] at hge hlen c3 x3;unfold maxLen at hmx;have HO:=lh (hW.byte 123 (by omega));unfold ATree.ptr;clear hW hF hk hL hn hv hpv hT;go_enter Tryz.func16,Tryz.ntmps16
 go_wp2_with fail
 refine HO.out.mono ?_;rintro e' w1 ⟨rfl,hw1,hb1⟩;have HW1:=lh hw1;have HB1:=lh hb1;have y3:=HW1.out.cell c3;clear hw1 hb1 HO;go_wp2_with fail
 go_loopw [89] (fun i wr=>∃ k:Nat,k≤n∧i=.int .i64 k∧Hid (BW w0 B b (l ++ [123] ++ Z5 (bP true (Zg (L.take k)))) wr)∧Hid (Below B w wr)) (fun i _=>n - (intOf i).toNat)
 case atStart=>exact ⟨0,by omega,rfl,by simpa [Zg,Z80,Z18] using HW1,HB1⟩
 case round=>
  obtain ⟨k,hkn,rfl,HWk,HBk⟩:=hrel;clear HW1 HB1;by_cases hlt:k < n
  ·obtain ⟨x, hx⟩ : ∃ x, L[k]? = some x := ⟨_, Y6 (by rw [← HN.out]; exact hlt)⟩
   obtain ⟨g,off,rfl,hc⟩:=HK.out k x hx;have cx:=HWk.out.cell hc;have hWx:=(HL.out x (Yd hx)).says;have htk:L.take (k + 1)=L.take k ++ [x]:=by rw [List.take_add_one,hx]; rfl
   have hsn:Z5 (bP true (Zg (L.take (k + 1))))=Z5 (bP true (Zg (L.take k))) ++ ((if k=0 then [] else [32]) ++ Z5 (sP x.tree)):=by
    rw [htk,Z1z,show Zg [x]=[x.tree] from rfl,Zek,Za,Za];congr 2
    have hem:(Zg (L.take k)).isEmpty=decide (k=0):=by
     cases k with
     | zero=>rfl
     | succ k =>
       cases L with
       | nil=>cases hx
       | cons y L=>rfl
    rw [hem];by_cases h0:k=0;·rw [decide_eq_true h0,Y5 h0]; rfl
    ·rw [decide_eq_false h0,Y3 h0]; rfl
   have hpre:(Z5 (bP true (Zg (L.take (k + 1))))).length≤(Z5 (bP true (Zg L))).length:=by
    have h:=Zfh (L.take (k + 1)) (L.drop (k + 1)) true;rwa [List.take_append_drop] at h
   obtain ⟨P,hP⟩:=zX (Z5 (bP true (Zg (L.take k))))
   obtain ⟨X,hX⟩:=zX (Z5 (sP x.tree))
   have hft:=HF.out;rw [hsn,← hP,← hX] at hpre;simp only [List.length_append] at hpre;have hbd:l.length + (1 + (P.length + ((if k=0 then ([]:List UInt8) else [32]).length + X.length)))≤140737488355328:=by omega
   have HBD:=lh hbd;have HSN:=lh hsn;have HPX:=lh (And.intro hP hX);rw [← hP] at HWk;rw [← hX] at hWx;have HWX:=lh hWx;unfold ATree.ptr at cx;have hkI:((k:Nat):Int) < (n:Int):=by omega
   clear hc htk hsn hpre hft hbd hP hX hWx hx;by_cases h0:k=0
   ·subst h0;rw [Nat.add_zero] at cx;go_wp2_with fail
    refine (HWX.out B b _ _ HWk.out (by have:=HBD.out; simp only [if_pos,List.length_nil,List.length_append,List.length_cons] at this ⊢; omega)).mono ?_;rintro e' w2 ⟨rfl,hw2,hb2⟩;have HW2:=lh hw2;have HB2:=lh (HBk.out.trans hb2);clear hw2 hb2;go_wp2;go_roundw
    case rel=>exact ⟨1,by omega,rfl,lh (by have h:=HW2.out; rw [HSN.out,← HPX.out.1,← HPX.out.2]; simpa using h),HB2⟩
    case measure=>simp [intOf]; omega
   ·have hkp : (0 : Int) < ((k : Nat) : Int) := by omega
    go_wp2_with fail
    refine (HWk.out.byte 32 (by have:=HBD.out; rw [Y3 h0] at this; simp only [List.length_append,List.length_cons,List.length_nil] at this ⊢; omega)).mono ?_;rintro e' w2 ⟨rfl,hw2,hb2⟩;have HW2:=lh hw2;have HB2:=lh (HBk.out.trans hb2);clear hw2 hb2;go_wp2_with fail
    refine (HWX.out B b _ _ HW2.out (by have:=HBD.out; rw [Y3 h0] at this; simp only [List.length_append,List.length_cons,List.length_nil] at this ⊢; omega)).mono ?_;rintro e' w3 ⟨rfl,hw3,hb3⟩;have HW3:=lh hw3;have HB3:=lh (HB2.out.trans hb3);clear hw3 hb3;go_wp2;go_roundw
    case rel=>exact ⟨k + 1,by omega,rfl,lh (by have h:=HW3.out; rw [HSN.out,← HPX.out.1,← HPX.out.2,Y3 h0]; simpa using h),HB3⟩
    case measure=>simp [intOf]; omega
  ·have hkn2 : k = n := by omega
   subst hkn2;have HWn:Hid (BW w0 B b (l ++ [123] ++ Z5 (bP true (Zg L))) wr):=lh (by
    have h:=HWk.out;rwa [Ye (by rw [HN.out]; exact Y0 _)] at h)
   have HE:=lh (HWn.out.byte 125 (by have:=HF.out; simp only [List.length_append,List.length_cons,List.length_nil] at this ⊢; omega));clear HWk;go_wp2_with fail
   refine HE.out.mono ?_;rintro e' w2 ⟨rfl,hw2,hb2⟩;have HW2:=lh hw2;have HB2:=lh (HBk.out.trans hb2);clear hw2 hb2 HE;go_wp2;first | go_end0 | refine bodyPost_ret (results_none rfl _ _ _) rfl ?_
   exact ⟨rfl,by simpa using HW2.out,HB2.out⟩
theorem Zea (L M:List Tree):cP (L ++ M)=cP L ++ cP M:=by
 induction L with
 | nil=>rw [Z95]; rfl
 | cons y L ih =>
   obtain ⟨k,t,n,ks⟩:=y;rw [List.cons_append,cP.eq_def,cP.eq_def (.mk k t n ks :: L)];simp only;rw [ih,List.append_assoc]
def Z4j (w0:World) (Bt:Nat) (x:ATree):Prop:=∃ c,TreeAt w0 Bt x∧x.kids=[c]∧(x.kind=13∨x.kind=14)∧x.text.size≤1000000∧Z12 w0 c
theorem Zem {x c:ATree} (hk:x.kids=[c]) (h:x.kind=13∨x.kind=14):Z5 (cP [x.tree])=(if x.kind=13 then [32,99,97,116,99,104,32,40] ++ (x.text.data.toList ++ [41,32]) else [32,102,105,110,97,108,108,121,32]) ++ Z5 (sP c.tree):=by
 rcases h with h | h
 ·rw [Y5 h];obtain ⟨ab,av,ak,tx,an,aks⟩:=x;simp only [ATree.kind,ATree.kids,ATree.text] at h hk ⊢;subst h hk;simp only [ATree.tree,Zg];rw [Z8a,Z95,List.append_nil];simp only [Z8];simp [Pc.bytes,Z10]
 ·rw [Y3 (by omega)];obtain ⟨ab,av,ak,tx,an,aks⟩:=x;simp only [ATree.kind,ATree.kids,ATree.text] at h hk ⊢;subst h hk;simp only [ATree.tree,Zg];rw [Z5y,Z95,List.append_nil];simp only [Z8];simp [Pc.bytes,Zs]
theorem Zb4 {w0:World} {Bt:Nat} (a:ATree) (hT:TreeAt w0 Bt a) (h1:a.kind=12) (y:ATree) (L:List ATree) (hks:a.kids=y :: L) (hy:Z12 w0 y) (hne:1≤L.length) (hL:∀ x∈L,Z4j w0 Bt x) (hlen:L.length≤1000000):Z12 w0 a:=by
 have c0:=hT.c0;rw [h1] at c0;obtain ⟨g,cp,c3',hge,hmx,hgl,hk⟩:=Z0r hT (by rw [hks]; simp);obtain ⟨n,hn⟩:=zX L.length
 have c3:w0.cell? ⟨a.b,3,none⟩=some (.slice (some ⟨g,0,none⟩) (n + 1) cp):=by rw [hks] at c3'; rw [hn]; exact c3'
 have hge2:n + 1≤cp:=by rw [hks] at hge; rw [hn]; exact hge
 unfold maxLen at hmx;have k0:=hk 0 y (by rw [hks]; rfl);have hkk:∀ (i:Nat) (x:ATree),L[i]?=some x→w0.cell? ⟨g,1 + i,none⟩=some x.ptr:=fun i x hx=>by
  have:=hk (i + 1) x (by rw [hks]; exact hx);rwa [Nat.add_comm] at this
 unfold ATree.ptr at k0;have hv:Z5 (sP a.tree)=[116,114,121,32] ++ (Z5 (sP y.tree) ++ Z5 (cP (Zg L))):=by
  obtain ⟨ab,av,ak,tx,an,aks⟩:=a;simp only [ATree.kind,ATree.kids] at h1 hks;subst h1;subst hks;simp only [ATree.tree,Zg];rw [Z9k,Z8,Z8,Za]; rfl
 intro B b l w hW hF;unfold Fits at hF;have hys:=hy.says;obtain ⟨Y,hY⟩:=zX (Z5 (sP y.tree))
 rw [← hY] at hv hys;rw [hv] at hF ⊢;simp only [List.length_append,List.length_cons,List.length_nil] at hF;have HF:=lh hF;have HW:=lh hW;have HK:=lh hkk;have HL:=lh hL;have HY:=lh hys;have x0:=HW.out.cell c0;have x3:=HW.out.cell c3;have HN:=lh hn;rw [← hn] at hne hlen;have HO:=lh (hW.str ⟨#[116,114,121,32]⟩ (by show _ + 4≤_; omega));have hcp1:¬ cp=1:=by omega
 have hnI:(1:Int)≤((n + 1:Nat):Int):=by omega
 unfold ATree.ptr;clear hW hF hk hkk hL hn hv hT hks hys hy hY c3' hge;go_enter Tryz.func16,Tryz.ntmps16
 go_wp2_with fail
 refine HO.out.mono ?_;rintro e' w1 ⟨rfl,hw1,hb1⟩;have HW1:=lh hw1;have HB1:=lh hb1;have y3:=HW1.out.cell c3;have y0:=HW1.out.cell k0;clear hw1 hb1 HO;go_wp2_with fail
 refine (HY.out B b _ _ HW1.out (by have:=HF.out; show (l ++ [116,114,121,32]).length + _≤_; simp only [List.length_append,List.length_cons,List.length_nil]; omega)).mono ?_;rintro e' w2 ⟨rfl,hw2,hb2⟩;have HW2:Hid (BW w0 B b (l ++ [116,114,121,32] ++ Y) w2):=lh hw2;have HB2:=lh (HB1.out.trans hb2);have z3:=HW2.out.cell c3;clear hw2 hb2 HY;go_wp2_with fail
 go_loopw [200] (fun i wr=>∃ k:Nat,k≤n∧i=.int .i64 k∧Hid (BW w0 B b (l ++ [116,114,121,32] ++ Y ++ Z5 (cP (Zg (L.take k)))) wr)∧Hid (Below B w wr)) (fun i _=>n - (intOf i).toNat)
 case atStart=>exact ⟨0,by omega,rfl,by simpa [Zg,Z95,Z18] using HW2,HB2⟩
 case round=>
  obtain ⟨k,hkn,rfl,HWk,HBk⟩:=hrel;clear HW2 HB2 HW1 HB1;by_cases hlt:k < n
  ·obtain ⟨x, hx⟩ : ∃ x, L[k]? = some x := ⟨_, Y6 (by rw [← HN.out]; exact hlt)⟩
   have hc:=HK.out k x hx;have cx:=HWk.out.cell hc;obtain ⟨c,hTx,hxk,hxk2,hxt,hcs⟩:=HL.out x (Yd hx);have htk:L.take (k + 1)=L.take k ++ [x]:=by rw [List.take_add_one,hx]; rfl
   have hsn:Z5 (cP (Zg (L.take (k + 1))))=Z5 (cP (Zg (L.take k))) ++ Z5 (cP [x.tree]):=by
    rw [htk,Z1z,show Zg [x]=[x.tree] from rfl,Zea,Za]
   rw [Zem hxk hxk2] at hsn;have hpre:(Z5 (cP (Zg (L.take (k + 1))))).length≤(Z5 (cP (Zg L))).length:=by
    have h:Zg L=Zg (L.take (k + 1)) ++ Zg (L.drop (k + 1)):=by rw [← Z1z,List.take_append_drop]
    rw [h,Zea,Za,Yi]; omega
   obtain ⟨P,hP⟩:=zX (Z5 (cP (Zg (L.take k))))
   obtain ⟨X,hX⟩:=zX (Z5 (sP c.tree))
   have hWx:=hcs.says;have hft:=HF.out;rw [hsn,← hP,← hX] at hpre;have e0:=HWk.out.cell hTx.c0;have e1:=HWk.out.cell hTx.c1;have d3:=hTx.c3;obtain ⟨gx,cpx,d3',hgex,hmxx,hglx,hkx⟩:=Z0r hTx (by rw [hxk]; simp);rw [hxk] at d3';have d3'':w0.cell? ⟨x.b,3,none⟩=some (.slice (some ⟨gx,0,none⟩) 1 cpx):=d3';have hgex1:1≤cpx:=by rw [hxk] at hgex; exact hgex
   unfold maxLen at hmxx;have ec:=hkx 0 c (by rw [hxk]; rfl);unfold ATree.ptr at ec;rw [← hP] at HWk;rw [← hX] at hWx;have HWX:=lh hWx;unfold ATree.ptr at cx;have hkI:((k:Nat):Int) < (n:Int):=by omega
   have HD3:=lh d3'';have HEC:=lh ec;obtain ⟨tx,htx⟩:=zX x.text
   rw [← htx] at e1 hxt hsn hpre;obtain ⟨sx,hsx⟩:∃ sx:ByteArray,sx=⟨#[32,99,97,116,99,104,32,40]⟩ ++ tx ++ ⟨#[41,32]⟩:=⟨_,rfl⟩
   have hsl:[32,99,97,116,99,104,32,40] ++ (tx.data.toList ++ [41,32])=sx.data.toList:=by rw [hsx]; simp [ByteArray.data_append]
   rw [hsl] at hsn hpre;have HSX:=lh hsx;have HSN:=lh hsn;have HPX:=lh (And.intro hP hX);have q1:¬ 9223372036854775807 < 8 + tx.size:=by omega
   have q2:¬ 9223372036854775807 < 8 + tx.size + 2:=by omega
   clear hc htk hsn hP hX hWx hx d3 d3' d3'' hgex hkx ec hsl hsx htx hTx hcs hxk;rcases hxk2 with hk13 | hk14
   ·rw [hk13] at e0;rw [Y5 hk13] at hpre;simp only [List.length_append] at hpre;have hbd : l.length + (4 + (Y.length + (P.length + (sx.data.toList.length + X.length)))) ≤ 140737488355328 := by omega
    have HBD:=lh hbd;clear hpre hft hbd;go_wp2_with fail
    rw [← HSX.out];refine (HWk.out.str sx (by have:=HBD.out; simp only [List.length_append,List.length_cons,List.length_nil] at this ⊢; omega)).mono ?_;rintro e' w3 ⟨rfl,hw3,hb3⟩;have HW3:=lh hw3;have HB3:=lh (HBk.out.trans hb3);have u3:=HW3.out.cell HD3.out;have uc:=HW3.out.cell HEC.out;clear hw3 hb3;go_wp2_with fail
    refine (HWX.out B b _ _ HW3.out (by have:=HBD.out; simp only [List.length_append,List.length_cons,List.length_nil] at this ⊢; omega)).mono ?_;rintro e' w4 ⟨rfl,hw4,hb4⟩;have HW4:=lh hw4;have HB4:=lh (HB3.out.trans hb4);clear hw4 hb4;go_wp2;go_roundw
    case rel=>exact ⟨k + 1,by omega,rfl,lh (by have h:=HW4.out; rw [HSN.out,← HPX.out.1,← HPX.out.2,Y5 hk13]; simpa using h),HB4⟩
    case measure=>simp [intOf]; omega
   ·rw [hk14] at e0;have hk13 : ¬ x.kind = 13 := by omega
    rw [Y3 hk13] at hpre;simp only [List.length_append] at hpre;have hbd:l.length + (4 + (Y.length + (P.length + (9 + X.length))))≤140737488355328:=by simp only [List.length_cons,List.length_nil] at hpre; omega
    have HBD:=lh hbd;clear hpre hft hbd;go_wp2_with fail
    refine (HWk.out.str ⟨#[32,102,105,110,97,108,108,121,32]⟩ (by have:=HBD.out; simp only [List.length_append,List.length_cons,List.length_nil] at this ⊢; omega)).mono ?_;rintro e' w3 ⟨rfl,hw3,hb3⟩;have HW3:=lh hw3;have HB3:=lh (HBk.out.trans hb3);have u3:=HW3.out.cell HD3.out;have uc:=HW3.out.cell HEC.out;clear hw3 hb3;go_wp2_with fail
    refine (HWX.out B b _ _ HW3.out (by have:=HBD.out; simp only [List.length_append,List.length_cons,List.length_nil] at this ⊢; omega)).mono ?_;rintro e' w4 ⟨rfl,hw4,hb4⟩;have HW4:=lh hw4;have HB4:=lh (HB3.out.trans hb4);clear hw4 hb4;go_wp2;go_roundw
    case rel=>exact ⟨k + 1,by omega,rfl,lh (by have h:=HW4.out; rw [HSN.out,← HPX.out.1,← HPX.out.2,Y3 hk13]; simpa using h),HB4⟩
    case measure=>simp [intOf]; omega
  ·have hkn2 : k = n := by omega
   subst hkn2;have HWn:Hid (BW w0 B b (l ++ [116,114,121,32] ++ Y ++ Z5 (cP (Zg L))) wr):=lh (by
    have h:=HWk.out;rwa [Ye (by rw [HN.out]; exact Y0 _)] at h)
   clear HWk;go_wp2;first | go_end0 | refine bodyPost_ret (results_none rfl _ _ _) rfl ?_
   exact ⟨rfl,by simpa using HWn.out,HBk.out⟩
end Go.Proofs.YtjcgkdfeplbajaaGreatDoor
