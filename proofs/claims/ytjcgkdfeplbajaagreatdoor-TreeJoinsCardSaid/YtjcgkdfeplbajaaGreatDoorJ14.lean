/- Package tree: write: with kids. -/
import Derived.Test.YtjcgkdfeplbajaaGreatDoorJ12
namespace Go.Proofs.YtjcgkdfeplbajaaGreatDoor
open Go Go.RowKit
set_option maxRecDepth 100000
set_option maxHeartbeats 20000000
set_option linter.unusedVariables false
set_option linter.unusedSimpArgs false
theorem Zc0 {w0:World} {Bt:Nat} (a:ATree) (hT:TreeAt w0 Bt a) (h1:a.kind=24) (x y:ATree) (hks:a.kids=[x,y]) (hx:Ze w0 x) (hy:Ze w0 y):Ze w0 a:=by
 have c0:=hT.c0;rw [h1] at c0;have c1:=hT.c1;obtain ⟨g,cp,c3',hge,hmx,hgl,hk⟩:=Z0r hT (by rw [hks]; simp);have c3:w0.cell? ⟨a.b,3,none⟩=some (.slice (some ⟨g,0,none⟩) 2 cp):=by rw [hks] at c3'; exact c3'
 have hge2:2≤cp:=by rw [hks] at hge; exact hge
 unfold maxLen at hmx;have k0:=hk 0 x (by rw [hks]; rfl);have k1:=hk 1 y (by rw [hks]; rfl);unfold ATree.ptr at k0 k1;have hv:∀ need,Z5 (vP a.tree need)=if decide ((0:Int) < need)=true then 40 :: ((Z5 (vP x.tree 8) ++ ([32,61,32] ++ Z5 (vP y.tree 0))) ++ [41]) else Z5 (vP x.tree 8) ++ ([32,61,32] ++ Z5 (vP y.tree 0)):=fun need=>by
  obtain ⟨ab,av,ak,tx,an,aks⟩:=a;simp only [ATree.kind,ATree.kids,ATree.text] at h1 hks ⊢;subst h1;subst hks;exact Z0y _ _ _ _ _ _ (by simp only [Zg]; rw [Zbp,Za,Z8,Z8,Z8]; rfl) 0 (by decide)
 have hmx:=hx.says (8);obtain ⟨mx,emx⟩:=zX (Z5 (vP x.tree (8)))
 rw [← emx] at hmx;simp only [← emx] at hv;have Hmx:=lh hmx;clear emx hmx;have hmy:=hy.says (0);obtain ⟨my,emy⟩:=zX (Z5 (vP y.tree (0)))
 rw [← emy] at hmy;simp only [← emy] at hv;have Hmy:=lh hmy;clear emy hmy;clear hT h1 hks hk c3' hge;intro need B b l w hW hF;unfold Fits at hF;rw [hv] at hF ⊢;have HW:=lh hW;unfold ATree.ptr;by_cases hp:0 < need
 ·rw [decide_eq_true hp, Y5 rfl] at hF ⊢;try simp only [List.length_append, List.length_cons, List.length_nil] at hF
  have HW0:=HW;have HB0:Hid (Below B w w):=lh (Y2 _ _);have x0_0:=HW0.out.cell c0;have x1_0:=HW0.out.cell c3;have x2_0:=HW0.out.cell k0;have x3_0:=HW0.out.cell k1;have HS:Hid (∀ w,Calls Tryz.prog 57 #[.int .i64 (24)] w fun e w'=>e=.returned (.int .i64 (0))∧w'=w):=lh fun w=>by have h:=Zc (24) w; rwa [show Zf (24)=0 by first | assumption | decide] at h
  have hcmp:(0 < need)=True:=by simp; omega
  clear hW HW hp hv;go_enter_defers Tryz.func37,Tryz.ntmps37
  go_wp2_with fail
  refine (HS.out _).mono ?_;rintro e w' ⟨rfl,hw'⟩;rw [hw'];clear hw' w' HS;go_wp2_with fail
  refine (HW0.out.byte 40 (by omega)).mono ?_;rintro e w1 ⟨rfl,hw1,hb1⟩;have HW1:=lh hw1;have HB1:=lh (HB0.out.trans hb1);have x0_1:=HW1.out.cell c0;have x1_1:=HW1.out.cell c3;have x2_1:=HW1.out.cell k0;have x3_1:=HW1.out.cell k1;clear hw1 hb1;go_wp2_with fail
  refine (Hmx.out B b _ _ HW1.out (by first | omega | (simp only [List.length_append,List.length_cons,List.length_nil]; omega))).mono ?_;rintro e w2 ⟨rfl,hw2,hb2⟩;have HW2:=lh hw2;have HB2:=lh (HB1.out.trans hb2);have x0_2:=HW2.out.cell c0;have x1_2:=HW2.out.cell c3;have x2_2:=HW2.out.cell k0;have x3_2:=HW2.out.cell k1;clear hw2 hb2;go_wp2_with fail
  refine (HW2.out.str ⟨#[32,61,32]⟩ (by first | omega | (simp only [List.length_append,List.length_cons,List.length_nil]; omega))).mono ?_;rintro e w3 ⟨rfl,hw3,hb3⟩;have HW3:=lh hw3;have HB3:=lh (HB2.out.trans hb3);have x0_3:=HW3.out.cell c0;have x1_3:=HW3.out.cell c3;have x2_3:=HW3.out.cell k0;have x3_3:=HW3.out.cell k1;clear hw3 hb3;go_wp2_with fail
  refine (Hmy.out B b _ _ HW3.out (by first | omega | (simp only [List.length_append,List.length_cons,List.length_nil]; omega))).mono ?_;rintro e w4 ⟨rfl,hw4,hb4⟩;have HW4:=lh hw4;have HB4:=lh (HB3.out.trans hb4);have x0_4:=HW4.out.cell c0;have x1_4:=HW4.out.cell c3;have x2_4:=HW4.out.cell k0;have x3_4:=HW4.out.cell k1;clear hw4 hb4;go_wp2_with fail
  refine leaves_cons (f:=17) (args:=#[.pointer (some ⟨b,0,none⟩),.int .u8 41]) (by simp) (by simp [go_sem]) ?_;refine (HW4.out.byteD 41 (by first | omega | (simp only [List.length_append,List.length_cons,List.length_nil]; omega)) .returning).mono ?_;rintro e u' w'' ⟨rfl,rfl,hwf,hbf⟩;refine ⟨.tuple #[],by simp [results,Tryz.results37,go_sem],rfl,?_,HB4.out.trans hbf⟩;simpa using hwf
 ·rw [decide_eq_false hp, Y3 (by simp)] at hF ⊢;try simp only [List.length_append, List.length_cons, List.length_nil] at hF
  have HW0:=HW;have HB0:Hid (Below B w w):=lh (Y2 _ _);have x0_0:=HW0.out.cell c0;have x1_0:=HW0.out.cell c3;have x2_0:=HW0.out.cell k0;have x3_0:=HW0.out.cell k1;have HS:Hid (∀ w,Calls Tryz.prog 57 #[.int .i64 (24)] w fun e w'=>e=.returned (.int .i64 (0))∧w'=w):=lh fun w=>by have h:=Zc (24) w; rwa [show Zf (24)=0 by first | assumption | decide] at h
  have hcmp:(0 < need)=False:=by simp; omega
  clear hW HW hp hv;go_enter_defers Tryz.func37,Tryz.ntmps37
  go_wp2_with fail
  refine (HS.out _).mono ?_;rintro e w' ⟨rfl,hw'⟩;rw [hw'];clear hw' w' HS;go_wp2_with fail
  refine (Hmx.out B b _ _ HW0.out (by first | omega | (simp only [List.length_append,List.length_cons,List.length_nil]; omega))).mono ?_;rintro e w1 ⟨rfl,hw1,hb1⟩;have HW1:=lh hw1;have HB1:=lh (HB0.out.trans hb1);have x0_1:=HW1.out.cell c0;have x1_1:=HW1.out.cell c3;have x2_1:=HW1.out.cell k0;have x3_1:=HW1.out.cell k1;clear hw1 hb1;go_wp2_with fail
  refine (HW1.out.str ⟨#[32,61,32]⟩ (by first | omega | (simp only [List.length_append,List.length_cons,List.length_nil]; omega))).mono ?_;rintro e w2 ⟨rfl,hw2,hb2⟩;have HW2:=lh hw2;have HB2:=lh (HB1.out.trans hb2);have x0_2:=HW2.out.cell c0;have x1_2:=HW2.out.cell c3;have x2_2:=HW2.out.cell k0;have x3_2:=HW2.out.cell k1;clear hw2 hb2;go_wp2_with fail
  refine (Hmy.out B b _ _ HW2.out (by first | omega | (simp only [List.length_append,List.length_cons,List.length_nil]; omega))).mono ?_;rintro e w3 ⟨rfl,hw3,hb3⟩;have HW3:=lh hw3;have HB3:=lh (HB2.out.trans hb3);have x0_3:=HW3.out.cell c0;have x1_3:=HW3.out.cell c3;have x2_3:=HW3.out.cell k0;have x3_3:=HW3.out.cell k1;clear hw3 hb3;go_wp2_with fail
  refine ⟨.tuple #[],by simp [results,Tryz.results37,go_sem],rfl,?_,HB3.out⟩;have hwf:=HW3.out;simpa using hwf
theorem Z84 {w0:World} {Bt:Nat} (a:ATree) (hT:TreeAt w0 Bt a) (h1:a.kind=25) (x y:ATree) (hks:a.kids=[x,y]) (hx:Ze w0 x) (hy:Ze w0 y) (hS:Z2u w0):Ze w0 a:=by
 have c0:=hT.c0;rw [h1] at c0;have c1:=hT.c1;obtain ⟨g,cp,c3',hge,hmx,hgl,hk⟩:=Z0r hT (by rw [hks]; simp);have c3:w0.cell? ⟨a.b,3,none⟩=some (.slice (some ⟨g,0,none⟩) 2 cp):=by rw [hks] at c3'; exact c3'
 have hge2:2≤cp:=by rw [hks] at hge; exact hge
 unfold maxLen at hmx;have k0:=hk 0 x (by rw [hks]; rfl);have k1:=hk 1 y (by rw [hks]; rfl);unfold ATree.ptr at k0 k1;have cs:=hS 0 ⟨#[32,124,124,32]⟩ rfl;have hv:∀ need,Z5 (vP a.tree need)=if decide ((1:Int) < need)=true then 40 :: ((Z5 (vP x.tree 1) ++ ([32,124,124,32] ++ Z5 (vP y.tree 2))) ++ [41]) else Z5 (vP x.tree 1) ++ ([32,124,124,32] ++ Z5 (vP y.tree 2)):=fun need=>by
  obtain ⟨ab,av,ak,tx,an,aks⟩:=a;simp only [ATree.kind,ATree.kids,ATree.text] at h1 hks ⊢;subst h1;subst hks;exact Z0y _ _ _ _ _ _ (by simp only [Zg]; rw [Z57 (by omega) (by omega),Za,Za]; rfl) 1 (by decide)
 have hmx:=hx.says (1);obtain ⟨mx,emx⟩:=zX (Z5 (vP x.tree (1)))
 rw [← emx] at hmx;simp only [← emx] at hv;have Hmx:=lh hmx;clear emx hmx;have hmy:=hy.says (2);obtain ⟨my,emy⟩:=zX (Z5 (vP y.tree (2)))
 rw [← emy] at hmy;simp only [← emy] at hv;have Hmy:=lh hmy;clear emy hmy;clear hT h1 hks hk c3' hge;intro need B b l w hW hF;unfold Fits at hF;rw [hv] at hF ⊢;have HW:=lh hW;unfold ATree.ptr;by_cases hp:1 < need
 ·rw [decide_eq_true hp, Y5 rfl] at hF ⊢;try simp only [List.length_append, List.length_cons, List.length_nil] at hF
  have HW0:=HW;have HB0:Hid (Below B w w):=lh (Y2 _ _);have x0_0:=HW0.out.cell c0;have x1_0:=HW0.out.cell c3;have x2_0:=HW0.out.cell k0;have x3_0:=HW0.out.cell k1;have x4_0:=HW0.out.cell cs;have HS:Hid (∀ w,Calls Tryz.prog 57 #[.int .i64 (25)] w fun e w'=>e=.returned (.int .i64 (1))∧w'=w):=lh fun w=>by have h:=Zc (25) w; rwa [show Zf (25)=1 by first | assumption | decide] at h
  have hcmp:(1 < need)=True:=by simp; omega
  clear hW HW hp hv;go_enter_defers Tryz.func37,Tryz.ntmps37
  go_wp2_with fail
  refine (HS.out _).mono ?_;rintro e w' ⟨rfl,hw'⟩;rw [hw'];clear hw' w' HS;go_wp2_with fail
  refine (HW0.out.byte 40 (by omega)).mono ?_;rintro e w1 ⟨rfl,hw1,hb1⟩;have HW1:=lh hw1;have HB1:=lh (HB0.out.trans hb1);have x0_1:=HW1.out.cell c0;have x1_1:=HW1.out.cell c3;have x2_1:=HW1.out.cell k0;have x3_1:=HW1.out.cell k1;have x4_1:=HW1.out.cell cs;clear hw1 hb1;go_wp2_with fail
  refine (Hmx.out B b _ _ HW1.out (by first | omega | (simp only [List.length_append,List.length_cons,List.length_nil]; omega))).mono ?_;rintro e w2 ⟨rfl,hw2,hb2⟩;have HW2:=lh hw2;have HB2:=lh (HB1.out.trans hb2);have x0_2:=HW2.out.cell c0;have x1_2:=HW2.out.cell c3;have x2_2:=HW2.out.cell k0;have x3_2:=HW2.out.cell k1;have x4_2:=HW2.out.cell cs;clear hw2 hb2;go_wp2_with fail
  refine (HW2.out.str ⟨#[32,124,124,32]⟩ (by first | omega | (simp only [List.length_append,List.length_cons,List.length_nil]; omega))).mono ?_;rintro e w3 ⟨rfl,hw3,hb3⟩;have HW3:=lh hw3;have HB3:=lh (HB2.out.trans hb3);have x0_3:=HW3.out.cell c0;have x1_3:=HW3.out.cell c3;have x2_3:=HW3.out.cell k0;have x3_3:=HW3.out.cell k1;have x4_3:=HW3.out.cell cs;clear hw3 hb3;go_wp2_with fail
  refine (Hmy.out B b _ _ HW3.out (by first | omega | (simp only [List.length_append,List.length_cons,List.length_nil]; omega))).mono ?_;rintro e w4 ⟨rfl,hw4,hb4⟩;have HW4:=lh hw4;have HB4:=lh (HB3.out.trans hb4);have x0_4:=HW4.out.cell c0;have x1_4:=HW4.out.cell c3;have x2_4:=HW4.out.cell k0;have x3_4:=HW4.out.cell k1;have x4_4:=HW4.out.cell cs;clear hw4 hb4;go_wp2_with fail
  refine leaves_cons (f:=17) (args:=#[.pointer (some ⟨b,0,none⟩),.int .u8 41]) (by simp) (by simp [go_sem]) ?_;refine (HW4.out.byteD 41 (by first | omega | (simp only [List.length_append,List.length_cons,List.length_nil]; omega)) .returning).mono ?_;rintro e u' w'' ⟨rfl,rfl,hwf,hbf⟩;refine ⟨.tuple #[],by simp [results,Tryz.results37,go_sem],rfl,?_,HB4.out.trans hbf⟩;simpa using hwf
 ·rw [decide_eq_false hp, Y3 (by simp)] at hF ⊢;try simp only [List.length_append, List.length_cons, List.length_nil] at hF
  have HW0:=HW;have HB0:Hid (Below B w w):=lh (Y2 _ _);have x0_0:=HW0.out.cell c0;have x1_0:=HW0.out.cell c3;have x2_0:=HW0.out.cell k0;have x3_0:=HW0.out.cell k1;have x4_0:=HW0.out.cell cs;have HS:Hid (∀ w,Calls Tryz.prog 57 #[.int .i64 (25)] w fun e w'=>e=.returned (.int .i64 (1))∧w'=w):=lh fun w=>by have h:=Zc (25) w; rwa [show Zf (25)=1 by first | assumption | decide] at h
  have hcmp:(1 < need)=False:=by simp; omega
  clear hW HW hp hv;go_enter_defers Tryz.func37,Tryz.ntmps37
  go_wp2_with fail
  refine (HS.out _).mono ?_;rintro e w' ⟨rfl,hw'⟩;rw [hw'];clear hw' w' HS;go_wp2_with fail
  refine (Hmx.out B b _ _ HW0.out (by first | omega | (simp only [List.length_append,List.length_cons,List.length_nil]; omega))).mono ?_;rintro e w1 ⟨rfl,hw1,hb1⟩;have HW1:=lh hw1;have HB1:=lh (HB0.out.trans hb1);have x0_1:=HW1.out.cell c0;have x1_1:=HW1.out.cell c3;have x2_1:=HW1.out.cell k0;have x3_1:=HW1.out.cell k1;have x4_1:=HW1.out.cell cs;clear hw1 hb1;go_wp2_with fail
  refine (HW1.out.str ⟨#[32,124,124,32]⟩ (by first | omega | (simp only [List.length_append,List.length_cons,List.length_nil]; omega))).mono ?_;rintro e w2 ⟨rfl,hw2,hb2⟩;have HW2:=lh hw2;have HB2:=lh (HB1.out.trans hb2);have x0_2:=HW2.out.cell c0;have x1_2:=HW2.out.cell c3;have x2_2:=HW2.out.cell k0;have x3_2:=HW2.out.cell k1;have x4_2:=HW2.out.cell cs;clear hw2 hb2;go_wp2_with fail
  refine (Hmy.out B b _ _ HW2.out (by first | omega | (simp only [List.length_append,List.length_cons,List.length_nil]; omega))).mono ?_;rintro e w3 ⟨rfl,hw3,hb3⟩;have HW3:=lh hw3;have HB3:=lh (HB2.out.trans hb3);have x0_3:=HW3.out.cell c0;have x1_3:=HW3.out.cell c3;have x2_3:=HW3.out.cell k0;have x3_3:=HW3.out.cell k1;have x4_3:=HW3.out.cell cs;clear hw3 hb3;go_wp2_with fail
  refine ⟨.tuple #[],by simp [results,Tryz.results37,go_sem],rfl,?_,HB3.out⟩;have hwf:=HW3.out;simpa using hwf
theorem Z93 {w0:World} {Bt:Nat} (a:ATree) (hT:TreeAt w0 Bt a) (h1:a.kind=26) (x y:ATree) (hks:a.kids=[x,y]) (hx:Ze w0 x) (hy:Ze w0 y) (hS:Z2u w0):Ze w0 a:=by
 have c0:=hT.c0;rw [h1] at c0;have c1:=hT.c1;obtain ⟨g,cp,c3',hge,hmx,hgl,hk⟩:=Z0r hT (by rw [hks]; simp);have c3:w0.cell? ⟨a.b,3,none⟩=some (.slice (some ⟨g,0,none⟩) 2 cp):=by rw [hks] at c3'; exact c3'
 have hge2:2≤cp:=by rw [hks] at hge; exact hge
 unfold maxLen at hmx;have k0:=hk 0 x (by rw [hks]; rfl);have k1:=hk 1 y (by rw [hks]; rfl);unfold ATree.ptr at k0 k1;have cs:=hS 1 ⟨#[32,38,38,32]⟩ rfl;have hv:∀ need,Z5 (vP a.tree need)=if decide ((2:Int) < need)=true then 40 :: ((Z5 (vP x.tree 2) ++ ([32,38,38,32] ++ Z5 (vP y.tree 3))) ++ [41]) else Z5 (vP x.tree 2) ++ ([32,38,38,32] ++ Z5 (vP y.tree 3)):=fun need=>by
  obtain ⟨ab,av,ak,tx,an,aks⟩:=a;simp only [ATree.kind,ATree.kids,ATree.text] at h1 hks ⊢;subst h1;subst hks;exact Z0y _ _ _ _ _ _ (by simp only [Zg]; rw [Z57 (by omega) (by omega),Za,Za]; rfl) 2 (by decide)
 have hmx:=hx.says (2);obtain ⟨mx,emx⟩:=zX (Z5 (vP x.tree (2)))
 rw [← emx] at hmx;simp only [← emx] at hv;have Hmx:=lh hmx;clear emx hmx;have hmy:=hy.says (3);obtain ⟨my,emy⟩:=zX (Z5 (vP y.tree (3)))
 rw [← emy] at hmy;simp only [← emy] at hv;have Hmy:=lh hmy;clear emy hmy;clear hT h1 hks hk c3' hge;intro need B b l w hW hF;unfold Fits at hF;rw [hv] at hF ⊢;have HW:=lh hW;unfold ATree.ptr;by_cases hp:2 < need
 ·rw [decide_eq_true hp, Y5 rfl] at hF ⊢;try simp only [List.length_append, List.length_cons, List.length_nil] at hF
  have HW0:=HW;have HB0:Hid (Below B w w):=lh (Y2 _ _);have x0_0:=HW0.out.cell c0;have x1_0:=HW0.out.cell c3;have x2_0:=HW0.out.cell k0;have x3_0:=HW0.out.cell k1;have x4_0:=HW0.out.cell cs;have HS:Hid (∀ w,Calls Tryz.prog 57 #[.int .i64 (26)] w fun e w'=>e=.returned (.int .i64 (2))∧w'=w):=lh fun w=>by have h:=Zc (26) w; rwa [show Zf (26)=2 by first | assumption | decide] at h
  have hcmp:(2 < need)=True:=by simp; omega
  clear hW HW hp hv;go_enter_defers Tryz.func37,Tryz.ntmps37
  go_wp2_with fail
  refine (HS.out _).mono ?_;rintro e w' ⟨rfl,hw'⟩;rw [hw'];clear hw' w' HS;go_wp2_with fail
  refine (HW0.out.byte 40 (by omega)).mono ?_;rintro e w1 ⟨rfl,hw1,hb1⟩;have HW1:=lh hw1;have HB1:=lh (HB0.out.trans hb1);have x0_1:=HW1.out.cell c0;have x1_1:=HW1.out.cell c3;have x2_1:=HW1.out.cell k0;have x3_1:=HW1.out.cell k1;have x4_1:=HW1.out.cell cs;clear hw1 hb1;go_wp2_with fail
  refine (Hmx.out B b _ _ HW1.out (by first | omega | (simp only [List.length_append,List.length_cons,List.length_nil]; omega))).mono ?_;rintro e w2 ⟨rfl,hw2,hb2⟩;have HW2:=lh hw2;have HB2:=lh (HB1.out.trans hb2);have x0_2:=HW2.out.cell c0;have x1_2:=HW2.out.cell c3;have x2_2:=HW2.out.cell k0;have x3_2:=HW2.out.cell k1;have x4_2:=HW2.out.cell cs;clear hw2 hb2;go_wp2_with fail
  refine (HW2.out.str ⟨#[32,38,38,32]⟩ (by first | omega | (simp only [List.length_append,List.length_cons,List.length_nil]; omega))).mono ?_;rintro e w3 ⟨rfl,hw3,hb3⟩;have HW3:=lh hw3;have HB3:=lh (HB2.out.trans hb3);have x0_3:=HW3.out.cell c0;have x1_3:=HW3.out.cell c3;have x2_3:=HW3.out.cell k0;have x3_3:=HW3.out.cell k1;have x4_3:=HW3.out.cell cs;clear hw3 hb3;go_wp2_with fail
  refine (Hmy.out B b _ _ HW3.out (by first | omega | (simp only [List.length_append,List.length_cons,List.length_nil]; omega))).mono ?_;rintro e w4 ⟨rfl,hw4,hb4⟩;have HW4:=lh hw4;have HB4:=lh (HB3.out.trans hb4);have x0_4:=HW4.out.cell c0;have x1_4:=HW4.out.cell c3;have x2_4:=HW4.out.cell k0;have x3_4:=HW4.out.cell k1;have x4_4:=HW4.out.cell cs;clear hw4 hb4;go_wp2_with fail
  refine leaves_cons (f:=17) (args:=#[.pointer (some ⟨b,0,none⟩),.int .u8 41]) (by simp) (by simp [go_sem]) ?_;refine (HW4.out.byteD 41 (by first | omega | (simp only [List.length_append,List.length_cons,List.length_nil]; omega)) .returning).mono ?_;rintro e u' w'' ⟨rfl,rfl,hwf,hbf⟩;refine ⟨.tuple #[],by simp [results,Tryz.results37,go_sem],rfl,?_,HB4.out.trans hbf⟩;simpa using hwf
 ·rw [decide_eq_false hp, Y3 (by simp)] at hF ⊢;try simp only [List.length_append, List.length_cons, List.length_nil] at hF
  have HW0:=HW;have HB0:Hid (Below B w w):=lh (Y2 _ _);have x0_0:=HW0.out.cell c0;have x1_0:=HW0.out.cell c3;have x2_0:=HW0.out.cell k0;have x3_0:=HW0.out.cell k1;have x4_0:=HW0.out.cell cs;have HS:Hid (∀ w,Calls Tryz.prog 57 #[.int .i64 (26)] w fun e w'=>e=.returned (.int .i64 (2))∧w'=w):=lh fun w=>by have h:=Zc (26) w; rwa [show Zf (26)=2 by first | assumption | decide] at h
  have hcmp:(2 < need)=False:=by simp; omega
  clear hW HW hp hv;go_enter_defers Tryz.func37,Tryz.ntmps37
  go_wp2_with fail
  refine (HS.out _).mono ?_;rintro e w' ⟨rfl,hw'⟩;rw [hw'];clear hw' w' HS;go_wp2_with fail
  refine (Hmx.out B b _ _ HW0.out (by first | omega | (simp only [List.length_append,List.length_cons,List.length_nil]; omega))).mono ?_;rintro e w1 ⟨rfl,hw1,hb1⟩;have HW1:=lh hw1;have HB1:=lh (HB0.out.trans hb1);have x0_1:=HW1.out.cell c0;have x1_1:=HW1.out.cell c3;have x2_1:=HW1.out.cell k0;have x3_1:=HW1.out.cell k1;have x4_1:=HW1.out.cell cs;clear hw1 hb1;go_wp2_with fail
  refine (HW1.out.str ⟨#[32,38,38,32]⟩ (by first | omega | (simp only [List.length_append,List.length_cons,List.length_nil]; omega))).mono ?_;rintro e w2 ⟨rfl,hw2,hb2⟩;have HW2:=lh hw2;have HB2:=lh (HB1.out.trans hb2);have x0_2:=HW2.out.cell c0;have x1_2:=HW2.out.cell c3;have x2_2:=HW2.out.cell k0;have x3_2:=HW2.out.cell k1;have x4_2:=HW2.out.cell cs;clear hw2 hb2;go_wp2_with fail
  refine (Hmy.out B b _ _ HW2.out (by first | omega | (simp only [List.length_append,List.length_cons,List.length_nil]; omega))).mono ?_;rintro e w3 ⟨rfl,hw3,hb3⟩;have HW3:=lh hw3;have HB3:=lh (HB2.out.trans hb3);have x0_3:=HW3.out.cell c0;have x1_3:=HW3.out.cell c3;have x2_3:=HW3.out.cell k0;have x3_3:=HW3.out.cell k1;have x4_3:=HW3.out.cell cs;clear hw3 hb3;go_wp2_with fail
  refine ⟨.tuple #[],by simp [results,Tryz.results37,go_sem],rfl,?_,HB3.out⟩;have hwf:=HW3.out;simpa using hwf
theorem Z8i {w0:World} {Bt:Nat} (a:ATree) (hT:TreeAt w0 Bt a) (h1:a.kind=27) (x y:ATree) (hks:a.kids=[x,y]) (hx:Ze w0 x) (hy:Ze w0 y) (hS:Z2u w0):Ze w0 a:=by
 have c0:=hT.c0;rw [h1] at c0;have c1:=hT.c1;obtain ⟨g,cp,c3',hge,hmx,hgl,hk⟩:=Z0r hT (by rw [hks]; simp);have c3:w0.cell? ⟨a.b,3,none⟩=some (.slice (some ⟨g,0,none⟩) 2 cp):=by rw [hks] at c3'; exact c3'
 have hge2:2≤cp:=by rw [hks] at hge; exact hge
 unfold maxLen at hmx;have k0:=hk 0 x (by rw [hks]; rfl);have k1:=hk 1 y (by rw [hks]; rfl);unfold ATree.ptr at k0 k1;have cs:=hS 2 ⟨#[32,61,61,61,32]⟩ rfl;have hv:∀ need,Z5 (vP a.tree need)=if decide ((3:Int) < need)=true then 40 :: ((Z5 (vP x.tree 3) ++ ([32,61,61,61,32] ++ Z5 (vP y.tree 4))) ++ [41]) else Z5 (vP x.tree 3) ++ ([32,61,61,61,32] ++ Z5 (vP y.tree 4)):=fun need=>by
  obtain ⟨ab,av,ak,tx,an,aks⟩:=a;simp only [ATree.kind,ATree.kids,ATree.text] at h1 hks ⊢;subst h1;subst hks;exact Z0y _ _ _ _ _ _ (by simp only [Zg]; rw [Z57 (by omega) (by omega),Za,Za]; rfl) 3 (by decide)
 have hmx:=hx.says (3);obtain ⟨mx,emx⟩:=zX (Z5 (vP x.tree (3)))
 rw [← emx] at hmx;simp only [← emx] at hv;have Hmx:=lh hmx;clear emx hmx;have hmy:=hy.says (4);obtain ⟨my,emy⟩:=zX (Z5 (vP y.tree (4)))
 rw [← emy] at hmy;simp only [← emy] at hv;have Hmy:=lh hmy;clear emy hmy;clear hT h1 hks hk c3' hge;intro need B b l w hW hF;unfold Fits at hF;rw [hv] at hF ⊢;have HW:=lh hW;unfold ATree.ptr;by_cases hp:3 < need
 ·rw [decide_eq_true hp, Y5 rfl] at hF ⊢;try simp only [List.length_append, List.length_cons, List.length_nil] at hF
  have HW0:=HW;have HB0:Hid (Below B w w):=lh (Y2 _ _);have x0_0:=HW0.out.cell c0;have x1_0:=HW0.out.cell c3;have x2_0:=HW0.out.cell k0;have x3_0:=HW0.out.cell k1;have x4_0:=HW0.out.cell cs;have HS:Hid (∀ w,Calls Tryz.prog 57 #[.int .i64 (27)] w fun e w'=>e=.returned (.int .i64 (3))∧w'=w):=lh fun w=>by have h:=Zc (27) w; rwa [show Zf (27)=3 by first | assumption | decide] at h
  have hcmp:(3 < need)=True:=by simp; omega
  clear hW HW hp hv;go_enter_defers Tryz.func37,Tryz.ntmps37
  go_wp2_with fail
  refine (HS.out _).mono ?_;rintro e w' ⟨rfl,hw'⟩;rw [hw'];clear hw' w' HS;go_wp2_with fail
  refine (HW0.out.byte 40 (by omega)).mono ?_;rintro e w1 ⟨rfl,hw1,hb1⟩;have HW1:=lh hw1;have HB1:=lh (HB0.out.trans hb1);have x0_1:=HW1.out.cell c0;have x1_1:=HW1.out.cell c3;have x2_1:=HW1.out.cell k0;have x3_1:=HW1.out.cell k1;have x4_1:=HW1.out.cell cs;clear hw1 hb1;go_wp2_with fail
  refine (Hmx.out B b _ _ HW1.out (by first | omega | (simp only [List.length_append,List.length_cons,List.length_nil]; omega))).mono ?_;rintro e w2 ⟨rfl,hw2,hb2⟩;have HW2:=lh hw2;have HB2:=lh (HB1.out.trans hb2);have x0_2:=HW2.out.cell c0;have x1_2:=HW2.out.cell c3;have x2_2:=HW2.out.cell k0;have x3_2:=HW2.out.cell k1;have x4_2:=HW2.out.cell cs;clear hw2 hb2;go_wp2_with fail
  refine (HW2.out.str ⟨#[32,61,61,61,32]⟩ (by first | omega | (simp only [List.length_append,List.length_cons,List.length_nil]; omega))).mono ?_;rintro e w3 ⟨rfl,hw3,hb3⟩;have HW3:=lh hw3;have HB3:=lh (HB2.out.trans hb3);have x0_3:=HW3.out.cell c0;have x1_3:=HW3.out.cell c3;have x2_3:=HW3.out.cell k0;have x3_3:=HW3.out.cell k1;have x4_3:=HW3.out.cell cs;clear hw3 hb3;go_wp2_with fail
  refine (Hmy.out B b _ _ HW3.out (by first | omega | (simp only [List.length_append,List.length_cons,List.length_nil]; omega))).mono ?_;rintro e w4 ⟨rfl,hw4,hb4⟩;have HW4:=lh hw4;have HB4:=lh (HB3.out.trans hb4);have x0_4:=HW4.out.cell c0;have x1_4:=HW4.out.cell c3;have x2_4:=HW4.out.cell k0;have x3_4:=HW4.out.cell k1;have x4_4:=HW4.out.cell cs;clear hw4 hb4;go_wp2_with fail
  refine leaves_cons (f:=17) (args:=#[.pointer (some ⟨b,0,none⟩),.int .u8 41]) (by simp) (by simp [go_sem]) ?_;refine (HW4.out.byteD 41 (by first | omega | (simp only [List.length_append,List.length_cons,List.length_nil]; omega)) .returning).mono ?_;rintro e u' w'' ⟨rfl,rfl,hwf,hbf⟩;refine ⟨.tuple #[],by simp [results,Tryz.results37,go_sem],rfl,?_,HB4.out.trans hbf⟩;simpa using hwf
 ·rw [decide_eq_false hp, Y3 (by simp)] at hF ⊢;try simp only [List.length_append, List.length_cons, List.length_nil] at hF
  have HW0:=HW;have HB0:Hid (Below B w w):=lh (Y2 _ _);have x0_0:=HW0.out.cell c0;have x1_0:=HW0.out.cell c3;have x2_0:=HW0.out.cell k0;have x3_0:=HW0.out.cell k1;have x4_0:=HW0.out.cell cs;have HS:Hid (∀ w,Calls Tryz.prog 57 #[.int .i64 (27)] w fun e w'=>e=.returned (.int .i64 (3))∧w'=w):=lh fun w=>by have h:=Zc (27) w; rwa [show Zf (27)=3 by first | assumption | decide] at h
  have hcmp:(3 < need)=False:=by simp; omega
  clear hW HW hp hv;go_enter_defers Tryz.func37,Tryz.ntmps37
  go_wp2_with fail
  refine (HS.out _).mono ?_;rintro e w' ⟨rfl,hw'⟩;rw [hw'];clear hw' w' HS;go_wp2_with fail
  refine (Hmx.out B b _ _ HW0.out (by first | omega | (simp only [List.length_append,List.length_cons,List.length_nil]; omega))).mono ?_;rintro e w1 ⟨rfl,hw1,hb1⟩;have HW1:=lh hw1;have HB1:=lh (HB0.out.trans hb1);have x0_1:=HW1.out.cell c0;have x1_1:=HW1.out.cell c3;have x2_1:=HW1.out.cell k0;have x3_1:=HW1.out.cell k1;have x4_1:=HW1.out.cell cs;clear hw1 hb1;go_wp2_with fail
  refine (HW1.out.str ⟨#[32,61,61,61,32]⟩ (by first | omega | (simp only [List.length_append,List.length_cons,List.length_nil]; omega))).mono ?_;rintro e w2 ⟨rfl,hw2,hb2⟩;have HW2:=lh hw2;have HB2:=lh (HB1.out.trans hb2);have x0_2:=HW2.out.cell c0;have x1_2:=HW2.out.cell c3;have x2_2:=HW2.out.cell k0;have x3_2:=HW2.out.cell k1;have x4_2:=HW2.out.cell cs;clear hw2 hb2;go_wp2_with fail
  refine (Hmy.out B b _ _ HW2.out (by first | omega | (simp only [List.length_append,List.length_cons,List.length_nil]; omega))).mono ?_;rintro e w3 ⟨rfl,hw3,hb3⟩;have HW3:=lh hw3;have HB3:=lh (HB2.out.trans hb3);have x0_3:=HW3.out.cell c0;have x1_3:=HW3.out.cell c3;have x2_3:=HW3.out.cell k0;have x3_3:=HW3.out.cell k1;have x4_3:=HW3.out.cell cs;clear hw3 hb3;go_wp2_with fail
  refine ⟨.tuple #[],by simp [results,Tryz.results37,go_sem],rfl,?_,HB3.out⟩;have hwf:=HW3.out;simpa using hwf
theorem Z98 {w0:World} {Bt:Nat} (a:ATree) (hT:TreeAt w0 Bt a) (h1:a.kind=28) (x y:ATree) (hks:a.kids=[x,y]) (hx:Ze w0 x) (hy:Ze w0 y) (hS:Z2u w0):Ze w0 a:=by
 have c0:=hT.c0;rw [h1] at c0;have c1:=hT.c1;obtain ⟨g,cp,c3',hge,hmx,hgl,hk⟩:=Z0r hT (by rw [hks]; simp);have c3:w0.cell? ⟨a.b,3,none⟩=some (.slice (some ⟨g,0,none⟩) 2 cp):=by rw [hks] at c3'; exact c3'
 have hge2:2≤cp:=by rw [hks] at hge; exact hge
 unfold maxLen at hmx;have k0:=hk 0 x (by rw [hks]; rfl);have k1:=hk 1 y (by rw [hks]; rfl);unfold ATree.ptr at k0 k1;have cs:=hS 3 ⟨#[32,60,32]⟩ rfl;have hv:∀ need,Z5 (vP a.tree need)=if decide ((4:Int) < need)=true then 40 :: ((Z5 (vP x.tree 4) ++ ([32,60,32] ++ Z5 (vP y.tree 5))) ++ [41]) else Z5 (vP x.tree 4) ++ ([32,60,32] ++ Z5 (vP y.tree 5)):=fun need=>by
  obtain ⟨ab,av,ak,tx,an,aks⟩:=a;simp only [ATree.kind,ATree.kids,ATree.text] at h1 hks ⊢;subst h1;subst hks;exact Z0y _ _ _ _ _ _ (by simp only [Zg]; rw [Z57 (by omega) (by omega),Za,Za]; rfl) 4 (by decide)
 have hmx:=hx.says (4);obtain ⟨mx,emx⟩:=zX (Z5 (vP x.tree (4)))
 rw [← emx] at hmx;simp only [← emx] at hv;have Hmx:=lh hmx;clear emx hmx;have hmy:=hy.says (5);obtain ⟨my,emy⟩:=zX (Z5 (vP y.tree (5)))
 rw [← emy] at hmy;simp only [← emy] at hv;have Hmy:=lh hmy;clear emy hmy;clear hT h1 hks hk c3' hge;intro need B b l w hW hF;unfold Fits at hF;rw [hv] at hF ⊢;have HW:=lh hW;unfold ATree.ptr;by_cases hp:4 < need
 ·rw [decide_eq_true hp, Y5 rfl] at hF ⊢;try simp only [List.length_append, List.length_cons, List.length_nil] at hF
  have HW0:=HW;have HB0:Hid (Below B w w):=lh (Y2 _ _);have x0_0:=HW0.out.cell c0;have x1_0:=HW0.out.cell c3;have x2_0:=HW0.out.cell k0;have x3_0:=HW0.out.cell k1;have x4_0:=HW0.out.cell cs;have HS:Hid (∀ w,Calls Tryz.prog 57 #[.int .i64 (28)] w fun e w'=>e=.returned (.int .i64 (4))∧w'=w):=lh fun w=>by have h:=Zc (28) w; rwa [show Zf (28)=4 by first | assumption | decide] at h
  have hcmp:(4 < need)=True:=by simp; omega
  clear hW HW hp hv;go_enter_defers Tryz.func37,Tryz.ntmps37
  go_wp2_with fail
  refine (HS.out _).mono ?_;rintro e w' ⟨rfl,hw'⟩;rw [hw'];clear hw' w' HS;go_wp2_with fail
  refine (HW0.out.byte 40 (by omega)).mono ?_;rintro e w1 ⟨rfl,hw1,hb1⟩;have HW1:=lh hw1;have HB1:=lh (HB0.out.trans hb1);have x0_1:=HW1.out.cell c0;have x1_1:=HW1.out.cell c3;have x2_1:=HW1.out.cell k0;have x3_1:=HW1.out.cell k1;have x4_1:=HW1.out.cell cs;clear hw1 hb1;go_wp2_with fail
  refine (Hmx.out B b _ _ HW1.out (by first | omega | (simp only [List.length_append,List.length_cons,List.length_nil]; omega))).mono ?_;rintro e w2 ⟨rfl,hw2,hb2⟩;have HW2:=lh hw2;have HB2:=lh (HB1.out.trans hb2);have x0_2:=HW2.out.cell c0;have x1_2:=HW2.out.cell c3;have x2_2:=HW2.out.cell k0;have x3_2:=HW2.out.cell k1;have x4_2:=HW2.out.cell cs;clear hw2 hb2;go_wp2_with fail
  refine (HW2.out.str ⟨#[32,60,32]⟩ (by first | omega | (simp only [List.length_append,List.length_cons,List.length_nil]; omega))).mono ?_;rintro e w3 ⟨rfl,hw3,hb3⟩;have HW3:=lh hw3;have HB3:=lh (HB2.out.trans hb3);have x0_3:=HW3.out.cell c0;have x1_3:=HW3.out.cell c3;have x2_3:=HW3.out.cell k0;have x3_3:=HW3.out.cell k1;have x4_3:=HW3.out.cell cs;clear hw3 hb3;go_wp2_with fail
  refine (Hmy.out B b _ _ HW3.out (by first | omega | (simp only [List.length_append,List.length_cons,List.length_nil]; omega))).mono ?_;rintro e w4 ⟨rfl,hw4,hb4⟩;have HW4:=lh hw4;have HB4:=lh (HB3.out.trans hb4);have x0_4:=HW4.out.cell c0;have x1_4:=HW4.out.cell c3;have x2_4:=HW4.out.cell k0;have x3_4:=HW4.out.cell k1;have x4_4:=HW4.out.cell cs;clear hw4 hb4;go_wp2_with fail
  refine leaves_cons (f:=17) (args:=#[.pointer (some ⟨b,0,none⟩),.int .u8 41]) (by simp) (by simp [go_sem]) ?_;refine (HW4.out.byteD 41 (by first | omega | (simp only [List.length_append,List.length_cons,List.length_nil]; omega)) .returning).mono ?_;rintro e u' w'' ⟨rfl,rfl,hwf,hbf⟩;refine ⟨.tuple #[],by simp [results,Tryz.results37,go_sem],rfl,?_,HB4.out.trans hbf⟩;simpa using hwf
 ·rw [decide_eq_false hp, Y3 (by simp)] at hF ⊢;try simp only [List.length_append, List.length_cons, List.length_nil] at hF
  have HW0:=HW;have HB0:Hid (Below B w w):=lh (Y2 _ _);have x0_0:=HW0.out.cell c0;have x1_0:=HW0.out.cell c3;have x2_0:=HW0.out.cell k0;have x3_0:=HW0.out.cell k1;have x4_0:=HW0.out.cell cs;have HS:Hid (∀ w,Calls Tryz.prog 57 #[.int .i64 (28)] w fun e w'=>e=.returned (.int .i64 (4))∧w'=w):=lh fun w=>by have h:=Zc (28) w; rwa [show Zf (28)=4 by first | assumption | decide] at h
  have hcmp:(4 < need)=False:=by simp; omega
  clear hW HW hp hv;go_enter_defers Tryz.func37,Tryz.ntmps37
  go_wp2_with fail
  refine (HS.out _).mono ?_;rintro e w' ⟨rfl,hw'⟩;rw [hw'];clear hw' w' HS;go_wp2_with fail
  refine (Hmx.out B b _ _ HW0.out (by first | omega | (simp only [List.length_append,List.length_cons,List.length_nil]; omega))).mono ?_;rintro e w1 ⟨rfl,hw1,hb1⟩;have HW1:=lh hw1;have HB1:=lh (HB0.out.trans hb1);have x0_1:=HW1.out.cell c0;have x1_1:=HW1.out.cell c3;have x2_1:=HW1.out.cell k0;have x3_1:=HW1.out.cell k1;have x4_1:=HW1.out.cell cs;clear hw1 hb1;go_wp2_with fail
  refine (HW1.out.str ⟨#[32,60,32]⟩ (by first | omega | (simp only [List.length_append,List.length_cons,List.length_nil]; omega))).mono ?_;rintro e w2 ⟨rfl,hw2,hb2⟩;have HW2:=lh hw2;have HB2:=lh (HB1.out.trans hb2);have x0_2:=HW2.out.cell c0;have x1_2:=HW2.out.cell c3;have x2_2:=HW2.out.cell k0;have x3_2:=HW2.out.cell k1;have x4_2:=HW2.out.cell cs;clear hw2 hb2;go_wp2_with fail
  refine (Hmy.out B b _ _ HW2.out (by first | omega | (simp only [List.length_append,List.length_cons,List.length_nil]; omega))).mono ?_;rintro e w3 ⟨rfl,hw3,hb3⟩;have HW3:=lh hw3;have HB3:=lh (HB2.out.trans hb3);have x0_3:=HW3.out.cell c0;have x1_3:=HW3.out.cell c3;have x2_3:=HW3.out.cell k0;have x3_3:=HW3.out.cell k1;have x4_3:=HW3.out.cell cs;clear hw3 hb3;go_wp2_with fail
  refine ⟨.tuple #[],by simp [results,Tryz.results37,go_sem],rfl,?_,HB3.out⟩;have hwf:=HW3.out;simpa using hwf
theorem Z9b {w0:World} {Bt:Nat} (a:ATree) (hT:TreeAt w0 Bt a) (h1:a.kind=29) (x y:ATree) (hks:a.kids=[x,y]) (hx:Ze w0 x) (hy:Ze w0 y) (hS:Z2u w0):Ze w0 a:=by
 have c0:=hT.c0;rw [h1] at c0;have c1:=hT.c1;obtain ⟨g,cp,c3',hge,hmx,hgl,hk⟩:=Z0r hT (by rw [hks]; simp);have c3:w0.cell? ⟨a.b,3,none⟩=some (.slice (some ⟨g,0,none⟩) 2 cp):=by rw [hks] at c3'; exact c3'
 have hge2:2≤cp:=by rw [hks] at hge; exact hge
 unfold maxLen at hmx;have k0:=hk 0 x (by rw [hks]; rfl);have k1:=hk 1 y (by rw [hks]; rfl);unfold ATree.ptr at k0 k1;have cs:=hS 4 ⟨#[32,43,32]⟩ rfl;have hv:∀ need,Z5 (vP a.tree need)=if decide ((5:Int) < need)=true then 40 :: ((Z5 (vP x.tree 5) ++ ([32,43,32] ++ Z5 (vP y.tree 6))) ++ [41]) else Z5 (vP x.tree 5) ++ ([32,43,32] ++ Z5 (vP y.tree 6)):=fun need=>by
  obtain ⟨ab,av,ak,tx,an,aks⟩:=a;simp only [ATree.kind,ATree.kids,ATree.text] at h1 hks ⊢;subst h1;subst hks;exact Z0y _ _ _ _ _ _ (by simp only [Zg]; rw [Z57 (by omega) (by omega),Za,Za]; rfl) 5 (by decide)
 have hmx:=hx.says (5);obtain ⟨mx,emx⟩:=zX (Z5 (vP x.tree (5)))
 rw [← emx] at hmx;simp only [← emx] at hv;have Hmx:=lh hmx;clear emx hmx;have hmy:=hy.says (6);obtain ⟨my,emy⟩:=zX (Z5 (vP y.tree (6)))
 rw [← emy] at hmy;simp only [← emy] at hv;have Hmy:=lh hmy;clear emy hmy;clear hT h1 hks hk c3' hge;intro need B b l w hW hF;unfold Fits at hF;rw [hv] at hF ⊢;have HW:=lh hW;unfold ATree.ptr;by_cases hp:5 < need
 ·rw [decide_eq_true hp, Y5 rfl] at hF ⊢;try simp only [List.length_append, List.length_cons, List.length_nil] at hF
  have HW0:=HW;have HB0:Hid (Below B w w):=lh (Y2 _ _);have x0_0:=HW0.out.cell c0;have x1_0:=HW0.out.cell c3;have x2_0:=HW0.out.cell k0;have x3_0:=HW0.out.cell k1;have x4_0:=HW0.out.cell cs;have HS:Hid (∀ w,Calls Tryz.prog 57 #[.int .i64 (29)] w fun e w'=>e=.returned (.int .i64 (5))∧w'=w):=lh fun w=>by have h:=Zc (29) w; rwa [show Zf (29)=5 by first | assumption | decide] at h
  have hcmp:(5 < need)=True:=by simp; omega
  clear hW HW hp hv;go_enter_defers Tryz.func37,Tryz.ntmps37
  go_wp2_with fail
  refine (HS.out _).mono ?_;rintro e w' ⟨rfl,hw'⟩;rw [hw'];clear hw' w' HS;go_wp2_with fail
  refine (HW0.out.byte 40 (by omega)).mono ?_;rintro e w1 ⟨rfl,hw1,hb1⟩;have HW1:=lh hw1;have HB1:=lh (HB0.out.trans hb1);have x0_1:=HW1.out.cell c0;have x1_1:=HW1.out.cell c3;have x2_1:=HW1.out.cell k0;have x3_1:=HW1.out.cell k1;have x4_1:=HW1.out.cell cs;clear hw1 hb1;go_wp2_with fail
  refine (Hmx.out B b _ _ HW1.out (by first | omega | (simp only [List.length_append,List.length_cons,List.length_nil]; omega))).mono ?_;rintro e w2 ⟨rfl,hw2,hb2⟩;have HW2:=lh hw2;have HB2:=lh (HB1.out.trans hb2);have x0_2:=HW2.out.cell c0;have x1_2:=HW2.out.cell c3;have x2_2:=HW2.out.cell k0;have x3_2:=HW2.out.cell k1;have x4_2:=HW2.out.cell cs;clear hw2 hb2;go_wp2_with fail
  refine (HW2.out.str ⟨#[32,43,32]⟩ (by first | omega | (simp only [List.length_append,List.length_cons,List.length_nil]; omega))).mono ?_;rintro e w3 ⟨rfl,hw3,hb3⟩;have HW3:=lh hw3;have HB3:=lh (HB2.out.trans hb3);have x0_3:=HW3.out.cell c0;have x1_3:=HW3.out.cell c3;have x2_3:=HW3.out.cell k0;have x3_3:=HW3.out.cell k1;have x4_3:=HW3.out.cell cs;clear hw3 hb3;go_wp2_with fail
  refine (Hmy.out B b _ _ HW3.out (by first | omega | (simp only [List.length_append,List.length_cons,List.length_nil]; omega))).mono ?_;rintro e w4 ⟨rfl,hw4,hb4⟩;have HW4:=lh hw4;have HB4:=lh (HB3.out.trans hb4);have x0_4:=HW4.out.cell c0;have x1_4:=HW4.out.cell c3;have x2_4:=HW4.out.cell k0;have x3_4:=HW4.out.cell k1;have x4_4:=HW4.out.cell cs;clear hw4 hb4;go_wp2_with fail
  refine leaves_cons (f:=17) (args:=#[.pointer (some ⟨b,0,none⟩),.int .u8 41]) (by simp) (by simp [go_sem]) ?_;refine (HW4.out.byteD 41 (by first | omega | (simp only [List.length_append,List.length_cons,List.length_nil]; omega)) .returning).mono ?_;rintro e u' w'' ⟨rfl,rfl,hwf,hbf⟩;refine ⟨.tuple #[],by simp [results,Tryz.results37,go_sem],rfl,?_,HB4.out.trans hbf⟩;simpa using hwf
 ·rw [decide_eq_false hp, Y3 (by simp)] at hF ⊢;try simp only [List.length_append, List.length_cons, List.length_nil] at hF
  have HW0:=HW;have HB0:Hid (Below B w w):=lh (Y2 _ _);have x0_0:=HW0.out.cell c0;have x1_0:=HW0.out.cell c3;have x2_0:=HW0.out.cell k0;have x3_0:=HW0.out.cell k1;have x4_0:=HW0.out.cell cs;have HS:Hid (∀ w,Calls Tryz.prog 57 #[.int .i64 (29)] w fun e w'=>e=.returned (.int .i64 (5))∧w'=w):=lh fun w=>by have h:=Zc (29) w; rwa [show Zf (29)=5 by first | assumption | decide] at h
  have hcmp:(5 < need)=False:=by simp; omega
  clear hW HW hp hv;go_enter_defers Tryz.func37,Tryz.ntmps37
  go_wp2_with fail
  refine (HS.out _).mono ?_;rintro e w' ⟨rfl,hw'⟩;rw [hw'];clear hw' w' HS;go_wp2_with fail
  refine (Hmx.out B b _ _ HW0.out (by first | omega | (simp only [List.length_append,List.length_cons,List.length_nil]; omega))).mono ?_;rintro e w1 ⟨rfl,hw1,hb1⟩;have HW1:=lh hw1;have HB1:=lh (HB0.out.trans hb1);have x0_1:=HW1.out.cell c0;have x1_1:=HW1.out.cell c3;have x2_1:=HW1.out.cell k0;have x3_1:=HW1.out.cell k1;have x4_1:=HW1.out.cell cs;clear hw1 hb1;go_wp2_with fail
  refine (HW1.out.str ⟨#[32,43,32]⟩ (by first | omega | (simp only [List.length_append,List.length_cons,List.length_nil]; omega))).mono ?_;rintro e w2 ⟨rfl,hw2,hb2⟩;have HW2:=lh hw2;have HB2:=lh (HB1.out.trans hb2);have x0_2:=HW2.out.cell c0;have x1_2:=HW2.out.cell c3;have x2_2:=HW2.out.cell k0;have x3_2:=HW2.out.cell k1;have x4_2:=HW2.out.cell cs;clear hw2 hb2;go_wp2_with fail
  refine (Hmy.out B b _ _ HW2.out (by first | omega | (simp only [List.length_append,List.length_cons,List.length_nil]; omega))).mono ?_;rintro e w3 ⟨rfl,hw3,hb3⟩;have HW3:=lh hw3;have HB3:=lh (HB2.out.trans hb3);have x0_3:=HW3.out.cell c0;have x1_3:=HW3.out.cell c3;have x2_3:=HW3.out.cell k0;have x3_3:=HW3.out.cell k1;have x4_3:=HW3.out.cell cs;clear hw3 hb3;go_wp2_with fail
  refine ⟨.tuple #[],by simp [results,Tryz.results37,go_sem],rfl,?_,HB3.out⟩;have hwf:=HW3.out;simpa using hwf
theorem Z8u {w0:World} {Bt:Nat} (a:ATree) (hT:TreeAt w0 Bt a) (h1:a.kind=30) (x y:ATree) (hks:a.kids=[x,y]) (hx:Ze w0 x) (hy:Ze w0 y) (hS:Z2u w0):Ze w0 a:=by
 have c0:=hT.c0;rw [h1] at c0;have c1:=hT.c1;obtain ⟨g,cp,c3',hge,hmx,hgl,hk⟩:=Z0r hT (by rw [hks]; simp);have c3:w0.cell? ⟨a.b,3,none⟩=some (.slice (some ⟨g,0,none⟩) 2 cp):=by rw [hks] at c3'; exact c3'
 have hge2:2≤cp:=by rw [hks] at hge; exact hge
 unfold maxLen at hmx;have k0:=hk 0 x (by rw [hks]; rfl);have k1:=hk 1 y (by rw [hks]; rfl);unfold ATree.ptr at k0 k1;have cs:=hS 5 ⟨#[32,45,32]⟩ rfl;have hv:∀ need,Z5 (vP a.tree need)=if decide ((5:Int) < need)=true then 40 :: ((Z5 (vP x.tree 5) ++ ([32,45,32] ++ Z5 (vP y.tree 6))) ++ [41]) else Z5 (vP x.tree 5) ++ ([32,45,32] ++ Z5 (vP y.tree 6)):=fun need=>by
  obtain ⟨ab,av,ak,tx,an,aks⟩:=a;simp only [ATree.kind,ATree.kids,ATree.text] at h1 hks ⊢;subst h1;subst hks;exact Z0y _ _ _ _ _ _ (by simp only [Zg]; rw [Z57 (by omega) (by omega),Za,Za]; rfl) 5 (by decide)
 have hmx:=hx.says (5);obtain ⟨mx,emx⟩:=zX (Z5 (vP x.tree (5)))
 rw [← emx] at hmx;simp only [← emx] at hv;have Hmx:=lh hmx;clear emx hmx;have hmy:=hy.says (6);obtain ⟨my,emy⟩:=zX (Z5 (vP y.tree (6)))
 rw [← emy] at hmy;simp only [← emy] at hv;have Hmy:=lh hmy;clear emy hmy;clear hT h1 hks hk c3' hge;intro need B b l w hW hF;unfold Fits at hF;rw [hv] at hF ⊢;have HW:=lh hW;unfold ATree.ptr;by_cases hp:5 < need
 ·rw [decide_eq_true hp, Y5 rfl] at hF ⊢;try simp only [List.length_append, List.length_cons, List.length_nil] at hF
  have HW0:=HW;have HB0:Hid (Below B w w):=lh (Y2 _ _);have x0_0:=HW0.out.cell c0;have x1_0:=HW0.out.cell c3;have x2_0:=HW0.out.cell k0;have x3_0:=HW0.out.cell k1;have x4_0:=HW0.out.cell cs;have HS:Hid (∀ w,Calls Tryz.prog 57 #[.int .i64 (30)] w fun e w'=>e=.returned (.int .i64 (5))∧w'=w):=lh fun w=>by have h:=Zc (30) w; rwa [show Zf (30)=5 by first | assumption | decide] at h
  have hcmp:(5 < need)=True:=by simp; omega
  clear hW HW hp hv;go_enter_defers Tryz.func37,Tryz.ntmps37
  go_wp2_with fail
  refine (HS.out _).mono ?_;rintro e w' ⟨rfl,hw'⟩;rw [hw'];clear hw' w' HS;go_wp2_with fail
  refine (HW0.out.byte 40 (by omega)).mono ?_;rintro e w1 ⟨rfl,hw1,hb1⟩;have HW1:=lh hw1;have HB1:=lh (HB0.out.trans hb1);have x0_1:=HW1.out.cell c0;have x1_1:=HW1.out.cell c3;have x2_1:=HW1.out.cell k0;have x3_1:=HW1.out.cell k1;have x4_1:=HW1.out.cell cs;clear hw1 hb1;go_wp2_with fail
  refine (Hmx.out B b _ _ HW1.out (by first | omega | (simp only [List.length_append,List.length_cons,List.length_nil]; omega))).mono ?_;rintro e w2 ⟨rfl,hw2,hb2⟩;have HW2:=lh hw2;have HB2:=lh (HB1.out.trans hb2);have x0_2:=HW2.out.cell c0;have x1_2:=HW2.out.cell c3;have x2_2:=HW2.out.cell k0;have x3_2:=HW2.out.cell k1;have x4_2:=HW2.out.cell cs;clear hw2 hb2;go_wp2_with fail
  refine (HW2.out.str ⟨#[32,45,32]⟩ (by first | omega | (simp only [List.length_append,List.length_cons,List.length_nil]; omega))).mono ?_;rintro e w3 ⟨rfl,hw3,hb3⟩;have HW3:=lh hw3;have HB3:=lh (HB2.out.trans hb3);have x0_3:=HW3.out.cell c0;have x1_3:=HW3.out.cell c3;have x2_3:=HW3.out.cell k0;have x3_3:=HW3.out.cell k1;have x4_3:=HW3.out.cell cs;clear hw3 hb3;go_wp2_with fail
  refine (Hmy.out B b _ _ HW3.out (by first | omega | (simp only [List.length_append,List.length_cons,List.length_nil]; omega))).mono ?_;rintro e w4 ⟨rfl,hw4,hb4⟩;have HW4:=lh hw4;have HB4:=lh (HB3.out.trans hb4);have x0_4:=HW4.out.cell c0;have x1_4:=HW4.out.cell c3;have x2_4:=HW4.out.cell k0;have x3_4:=HW4.out.cell k1;have x4_4:=HW4.out.cell cs;clear hw4 hb4;go_wp2_with fail
  refine leaves_cons (f:=17) (args:=#[.pointer (some ⟨b,0,none⟩),.int .u8 41]) (by simp) (by simp [go_sem]) ?_;refine (HW4.out.byteD 41 (by first | omega | (simp only [List.length_append,List.length_cons,List.length_nil]; omega)) .returning).mono ?_;rintro e u' w'' ⟨rfl,rfl,hwf,hbf⟩;refine ⟨.tuple #[],by simp [results,Tryz.results37,go_sem],rfl,?_,HB4.out.trans hbf⟩;simpa using hwf
 ·rw [decide_eq_false hp, Y3 (by simp)] at hF ⊢;try simp only [List.length_append, List.length_cons, List.length_nil] at hF
  have HW0:=HW;have HB0:Hid (Below B w w):=lh (Y2 _ _);have x0_0:=HW0.out.cell c0;have x1_0:=HW0.out.cell c3;have x2_0:=HW0.out.cell k0;have x3_0:=HW0.out.cell k1;have x4_0:=HW0.out.cell cs;have HS:Hid (∀ w,Calls Tryz.prog 57 #[.int .i64 (30)] w fun e w'=>e=.returned (.int .i64 (5))∧w'=w):=lh fun w=>by have h:=Zc (30) w; rwa [show Zf (30)=5 by first | assumption | decide] at h
  have hcmp:(5 < need)=False:=by simp; omega
  clear hW HW hp hv;go_enter_defers Tryz.func37,Tryz.ntmps37
  go_wp2_with fail
  refine (HS.out _).mono ?_;rintro e w' ⟨rfl,hw'⟩;rw [hw'];clear hw' w' HS;go_wp2_with fail
  refine (Hmx.out B b _ _ HW0.out (by first | omega | (simp only [List.length_append,List.length_cons,List.length_nil]; omega))).mono ?_;rintro e w1 ⟨rfl,hw1,hb1⟩;have HW1:=lh hw1;have HB1:=lh (HB0.out.trans hb1);have x0_1:=HW1.out.cell c0;have x1_1:=HW1.out.cell c3;have x2_1:=HW1.out.cell k0;have x3_1:=HW1.out.cell k1;have x4_1:=HW1.out.cell cs;clear hw1 hb1;go_wp2_with fail
  refine (HW1.out.str ⟨#[32,45,32]⟩ (by first | omega | (simp only [List.length_append,List.length_cons,List.length_nil]; omega))).mono ?_;rintro e w2 ⟨rfl,hw2,hb2⟩;have HW2:=lh hw2;have HB2:=lh (HB1.out.trans hb2);have x0_2:=HW2.out.cell c0;have x1_2:=HW2.out.cell c3;have x2_2:=HW2.out.cell k0;have x3_2:=HW2.out.cell k1;have x4_2:=HW2.out.cell cs;clear hw2 hb2;go_wp2_with fail
  refine (Hmy.out B b _ _ HW2.out (by first | omega | (simp only [List.length_append,List.length_cons,List.length_nil]; omega))).mono ?_;rintro e w3 ⟨rfl,hw3,hb3⟩;have HW3:=lh hw3;have HB3:=lh (HB2.out.trans hb3);have x0_3:=HW3.out.cell c0;have x1_3:=HW3.out.cell c3;have x2_3:=HW3.out.cell k0;have x3_3:=HW3.out.cell k1;have x4_3:=HW3.out.cell cs;clear hw3 hb3;go_wp2_with fail
  refine ⟨.tuple #[],by simp [results,Tryz.results37,go_sem],rfl,?_,HB3.out⟩;have hwf:=HW3.out;simpa using hwf
theorem Z8b {w0:World} {Bt:Nat} (a:ATree) (hT:TreeAt w0 Bt a) (h1:a.kind=31) (x y:ATree) (hks:a.kids=[x,y]) (hx:Ze w0 x) (hy:Ze w0 y) (hS:Z2u w0):Ze w0 a:=by
 have c0:=hT.c0;rw [h1] at c0;have c1:=hT.c1;obtain ⟨g,cp,c3',hge,hmx,hgl,hk⟩:=Z0r hT (by rw [hks]; simp);have c3:w0.cell? ⟨a.b,3,none⟩=some (.slice (some ⟨g,0,none⟩) 2 cp):=by rw [hks] at c3'; exact c3'
 have hge2:2≤cp:=by rw [hks] at hge; exact hge
 unfold maxLen at hmx;have k0:=hk 0 x (by rw [hks]; rfl);have k1:=hk 1 y (by rw [hks]; rfl);unfold ATree.ptr at k0 k1;have cs:=hS 6 ⟨#[32,42,32]⟩ rfl;have hv:∀ need,Z5 (vP a.tree need)=if decide ((6:Int) < need)=true then 40 :: ((Z5 (vP x.tree 6) ++ ([32,42,32] ++ Z5 (vP y.tree 7))) ++ [41]) else Z5 (vP x.tree 6) ++ ([32,42,32] ++ Z5 (vP y.tree 7)):=fun need=>by
  obtain ⟨ab,av,ak,tx,an,aks⟩:=a;simp only [ATree.kind,ATree.kids,ATree.text] at h1 hks ⊢;subst h1;subst hks;exact Z0y _ _ _ _ _ _ (by simp only [Zg]; rw [Z57 (by omega) (by omega),Za,Za]; rfl) 6 (by decide)
 have hmx:=hx.says (6);obtain ⟨mx,emx⟩:=zX (Z5 (vP x.tree (6)))
 rw [← emx] at hmx;simp only [← emx] at hv;have Hmx:=lh hmx;clear emx hmx;have hmy:=hy.says (7);obtain ⟨my,emy⟩:=zX (Z5 (vP y.tree (7)))
 rw [← emy] at hmy;simp only [← emy] at hv;have Hmy:=lh hmy;clear emy hmy;clear hT h1 hks hk c3' hge;intro need B b l w hW hF;unfold Fits at hF;rw [hv] at hF ⊢;have HW:=lh hW;unfold ATree.ptr;by_cases hp:6 < need
 ·rw [decide_eq_true hp, Y5 rfl] at hF ⊢;try simp only [List.length_append, List.length_cons, List.length_nil] at hF
  have HW0:=HW;have HB0:Hid (Below B w w):=lh (Y2 _ _);have x0_0:=HW0.out.cell c0;have x1_0:=HW0.out.cell c3;have x2_0:=HW0.out.cell k0;have x3_0:=HW0.out.cell k1;have x4_0:=HW0.out.cell cs;have HS:Hid (∀ w,Calls Tryz.prog 57 #[.int .i64 (31)] w fun e w'=>e=.returned (.int .i64 (6))∧w'=w):=lh fun w=>by have h:=Zc (31) w; rwa [show Zf (31)=6 by first | assumption | decide] at h
  have hcmp:(6 < need)=True:=by simp; omega
  clear hW HW hp hv;go_enter_defers Tryz.func37,Tryz.ntmps37
  go_wp2_with fail
  refine (HS.out _).mono ?_;rintro e w' ⟨rfl,hw'⟩;rw [hw'];clear hw' w' HS;go_wp2_with fail
  refine (HW0.out.byte 40 (by omega)).mono ?_;rintro e w1 ⟨rfl,hw1,hb1⟩;have HW1:=lh hw1;have HB1:=lh (HB0.out.trans hb1);have x0_1:=HW1.out.cell c0;have x1_1:=HW1.out.cell c3;have x2_1:=HW1.out.cell k0;have x3_1:=HW1.out.cell k1;have x4_1:=HW1.out.cell cs;clear hw1 hb1;go_wp2_with fail
  refine (Hmx.out B b _ _ HW1.out (by first | omega | (simp only [List.length_append,List.length_cons,List.length_nil]; omega))).mono ?_;rintro e w2 ⟨rfl,hw2,hb2⟩;have HW2:=lh hw2;have HB2:=lh (HB1.out.trans hb2);have x0_2:=HW2.out.cell c0;have x1_2:=HW2.out.cell c3;have x2_2:=HW2.out.cell k0;have x3_2:=HW2.out.cell k1;have x4_2:=HW2.out.cell cs;clear hw2 hb2;go_wp2_with fail
  refine (HW2.out.str ⟨#[32,42,32]⟩ (by first | omega | (simp only [List.length_append,List.length_cons,List.length_nil]; omega))).mono ?_;rintro e w3 ⟨rfl,hw3,hb3⟩;have HW3:=lh hw3;have HB3:=lh (HB2.out.trans hb3);have x0_3:=HW3.out.cell c0;have x1_3:=HW3.out.cell c3;have x2_3:=HW3.out.cell k0;have x3_3:=HW3.out.cell k1;have x4_3:=HW3.out.cell cs;clear hw3 hb3;go_wp2_with fail
  refine (Hmy.out B b _ _ HW3.out (by first | omega | (simp only [List.length_append,List.length_cons,List.length_nil]; omega))).mono ?_;rintro e w4 ⟨rfl,hw4,hb4⟩;have HW4:=lh hw4;have HB4:=lh (HB3.out.trans hb4);have x0_4:=HW4.out.cell c0;have x1_4:=HW4.out.cell c3;have x2_4:=HW4.out.cell k0;have x3_4:=HW4.out.cell k1;have x4_4:=HW4.out.cell cs;clear hw4 hb4;go_wp2_with fail
  refine leaves_cons (f:=17) (args:=#[.pointer (some ⟨b,0,none⟩),.int .u8 41]) (by simp) (by simp [go_sem]) ?_;refine (HW4.out.byteD 41 (by first | omega | (simp only [List.length_append,List.length_cons,List.length_nil]; omega)) .returning).mono ?_;rintro e u' w'' ⟨rfl,rfl,hwf,hbf⟩;refine ⟨.tuple #[],by simp [results,Tryz.results37,go_sem],rfl,?_,HB4.out.trans hbf⟩;simpa using hwf
 ·rw [decide_eq_false hp, Y3 (by simp)] at hF ⊢;try simp only [List.length_append, List.length_cons, List.length_nil] at hF
  have HW0:=HW;have HB0:Hid (Below B w w):=lh (Y2 _ _);have x0_0:=HW0.out.cell c0;have x1_0:=HW0.out.cell c3;have x2_0:=HW0.out.cell k0;have x3_0:=HW0.out.cell k1;have x4_0:=HW0.out.cell cs;have HS:Hid (∀ w,Calls Tryz.prog 57 #[.int .i64 (31)] w fun e w'=>e=.returned (.int .i64 (6))∧w'=w):=lh fun w=>by have h:=Zc (31) w; rwa [show Zf (31)=6 by first | assumption | decide] at h
  have hcmp:(6 < need)=False:=by simp; omega
  clear hW HW hp hv;go_enter_defers Tryz.func37,Tryz.ntmps37
  go_wp2_with fail
  refine (HS.out _).mono ?_;rintro e w' ⟨rfl,hw'⟩;rw [hw'];clear hw' w' HS;go_wp2_with fail
  refine (Hmx.out B b _ _ HW0.out (by first | omega | (simp only [List.length_append,List.length_cons,List.length_nil]; omega))).mono ?_;rintro e w1 ⟨rfl,hw1,hb1⟩;have HW1:=lh hw1;have HB1:=lh (HB0.out.trans hb1);have x0_1:=HW1.out.cell c0;have x1_1:=HW1.out.cell c3;have x2_1:=HW1.out.cell k0;have x3_1:=HW1.out.cell k1;have x4_1:=HW1.out.cell cs;clear hw1 hb1;go_wp2_with fail
  refine (HW1.out.str ⟨#[32,42,32]⟩ (by first | omega | (simp only [List.length_append,List.length_cons,List.length_nil]; omega))).mono ?_;rintro e w2 ⟨rfl,hw2,hb2⟩;have HW2:=lh hw2;have HB2:=lh (HB1.out.trans hb2);have x0_2:=HW2.out.cell c0;have x1_2:=HW2.out.cell c3;have x2_2:=HW2.out.cell k0;have x3_2:=HW2.out.cell k1;have x4_2:=HW2.out.cell cs;clear hw2 hb2;go_wp2_with fail
  refine (Hmy.out B b _ _ HW2.out (by first | omega | (simp only [List.length_append,List.length_cons,List.length_nil]; omega))).mono ?_;rintro e w3 ⟨rfl,hw3,hb3⟩;have HW3:=lh hw3;have HB3:=lh (HB2.out.trans hb3);have x0_3:=HW3.out.cell c0;have x1_3:=HW3.out.cell c3;have x2_3:=HW3.out.cell k0;have x3_3:=HW3.out.cell k1;have x4_3:=HW3.out.cell cs;clear hw3 hb3;go_wp2_with fail
  refine ⟨.tuple #[],by simp [results,Tryz.results37,go_sem],rfl,?_,HB3.out⟩;have hwf:=HW3.out;simpa using hwf
theorem Z85 {w0:World} {Bt:Nat} (a:ATree) (hT:TreeAt w0 Bt a) (h1:a.kind=32) (x:ATree) (hks:a.kids=[x]) (hx:Ze w0 x) (hS:Z2u w0):Ze w0 a:=by
 have c0:=hT.c0;rw [h1] at c0;have c1:=hT.c1;obtain ⟨g,cp,c3',hge,hmx,hgl,hk⟩:=Z0r hT (by rw [hks]; simp);have c3:w0.cell? ⟨a.b,3,none⟩=some (.slice (some ⟨g,0,none⟩) 1 cp):=by rw [hks] at c3'; exact c3'
 have hge2:1≤cp:=by rw [hks] at hge; exact hge
 unfold maxLen at hmx;have k0:=hk 0 x (by rw [hks]; rfl);unfold ATree.ptr at k0;have cs:=hS 7 ⟨#[33]⟩ rfl;have hv:∀ need,Z5 (vP a.tree need)=if decide ((7:Int) < need)=true then 40 :: (([33] ++ Z5 (vP x.tree 7)) ++ [41]) else [33] ++ Z5 (vP x.tree 7):=fun need=>by
  obtain ⟨ab,av,ak,tx,an,aks⟩:=a;simp only [ATree.kind,ATree.kids,ATree.text] at h1 hks ⊢;subst h1;subst hks;exact Z0y _ _ _ _ _ _ (by simp only [Zg]; rw [Z9i (by omega) (by omega),Za]; rfl) 7 (by decide)
 have hmx:=hx.says (7);obtain ⟨mx,emx⟩:=zX (Z5 (vP x.tree (7)))
 rw [← emx] at hmx;simp only [← emx] at hv;have Hmx:=lh hmx;clear emx hmx;clear hT h1 hks hk c3' hge;intro need B b l w hW hF;unfold Fits at hF;rw [hv] at hF ⊢;have HW:=lh hW;unfold ATree.ptr;by_cases hp:7 < need
 ·rw [decide_eq_true hp, Y5 rfl] at hF ⊢;try simp only [List.length_append, List.length_cons, List.length_nil] at hF
  have HW0:=HW;have HB0:Hid (Below B w w):=lh (Y2 _ _);have x0_0:=HW0.out.cell c0;have x1_0:=HW0.out.cell c3;have x2_0:=HW0.out.cell k0;have x3_0:=HW0.out.cell cs;have HS:Hid (∀ w,Calls Tryz.prog 57 #[.int .i64 (32)] w fun e w'=>e=.returned (.int .i64 (7))∧w'=w):=lh fun w=>by have h:=Zc (32) w; rwa [show Zf (32)=7 by first | assumption | decide] at h
  have hcmp:(7 < need)=True:=by simp; omega
  clear hW HW hp hv;go_enter_defers Tryz.func37,Tryz.ntmps37
  go_wp2_with fail
  refine (HS.out _).mono ?_;rintro e w' ⟨rfl,hw'⟩;rw [hw'];clear hw' w' HS;go_wp2_with fail
  refine (HW0.out.byte 40 (by omega)).mono ?_;rintro e w1 ⟨rfl,hw1,hb1⟩;have HW1:=lh hw1;have HB1:=lh (HB0.out.trans hb1);have x0_1:=HW1.out.cell c0;have x1_1:=HW1.out.cell c3;have x2_1:=HW1.out.cell k0;have x3_1:=HW1.out.cell cs;clear hw1 hb1;go_wp2_with fail
  refine (HW1.out.str ⟨#[33]⟩ (by first | omega | (simp only [List.length_append,List.length_cons,List.length_nil]; omega))).mono ?_;rintro e w2 ⟨rfl,hw2,hb2⟩;have HW2:=lh hw2;have HB2:=lh (HB1.out.trans hb2);have x0_2:=HW2.out.cell c0;have x1_2:=HW2.out.cell c3;have x2_2:=HW2.out.cell k0;have x3_2:=HW2.out.cell cs;clear hw2 hb2;go_wp2_with fail
  refine (Hmx.out B b _ _ HW2.out (by first | omega | (simp only [List.length_append,List.length_cons,List.length_nil]; omega))).mono ?_;rintro e w3 ⟨rfl,hw3,hb3⟩;have HW3:=lh hw3;have HB3:=lh (HB2.out.trans hb3);have x0_3:=HW3.out.cell c0;have x1_3:=HW3.out.cell c3;have x2_3:=HW3.out.cell k0;have x3_3:=HW3.out.cell cs;clear hw3 hb3;go_wp2_with fail
  refine leaves_cons (f:=17) (args:=#[.pointer (some ⟨b,0,none⟩),.int .u8 41]) (by simp) (by simp [go_sem]) ?_;refine (HW3.out.byteD 41 (by first | omega | (simp only [List.length_append,List.length_cons,List.length_nil]; omega)) .returning).mono ?_;rintro e u' w'' ⟨rfl,rfl,hwf,hbf⟩;refine ⟨.tuple #[],by simp [results,Tryz.results37,go_sem],rfl,?_,HB3.out.trans hbf⟩;simpa using hwf
 ·rw [decide_eq_false hp, Y3 (by simp)] at hF ⊢;try simp only [List.length_append, List.length_cons, List.length_nil] at hF
  have HW0:=HW;have HB0:Hid (Below B w w):=lh (Y2 _ _);have x0_0:=HW0.out.cell c0;have x1_0:=HW0.out.cell c3;have x2_0:=HW0.out.cell k0;have x3_0:=HW0.out.cell cs;have HS:Hid (∀ w,Calls Tryz.prog 57 #[.int .i64 (32)] w fun e w'=>e=.returned (.int .i64 (7))∧w'=w):=lh fun w=>by have h:=Zc (32) w; rwa [show Zf (32)=7 by first | assumption | decide] at h
  have hcmp:(7 < need)=False:=by simp; omega
  clear hW HW hp hv;go_enter_defers Tryz.func37,Tryz.ntmps37
  go_wp2_with fail
  refine (HS.out _).mono ?_;rintro e w' ⟨rfl,hw'⟩;rw [hw'];clear hw' w' HS;go_wp2_with fail
  refine (HW0.out.str ⟨#[33]⟩ (by first | omega | (simp only [List.length_append,List.length_cons,List.length_nil]; omega))).mono ?_;rintro e w1 ⟨rfl,hw1,hb1⟩;have HW1:=lh hw1;have HB1:=lh (HB0.out.trans hb1);have x0_1:=HW1.out.cell c0;have x1_1:=HW1.out.cell c3;have x2_1:=HW1.out.cell k0;have x3_1:=HW1.out.cell cs;clear hw1 hb1;go_wp2_with fail
  refine (Hmx.out B b _ _ HW1.out (by first | omega | (simp only [List.length_append,List.length_cons,List.length_nil]; omega))).mono ?_;rintro e w2 ⟨rfl,hw2,hb2⟩;have HW2:=lh hw2;have HB2:=lh (HB1.out.trans hb2);have x0_2:=HW2.out.cell c0;have x1_2:=HW2.out.cell c3;have x2_2:=HW2.out.cell k0;have x3_2:=HW2.out.cell cs;clear hw2 hb2;go_wp2_with fail
  refine ⟨.tuple #[],by simp [results,Tryz.results37,go_sem],rfl,?_,HB2.out⟩;have hwf:=HW2.out;simpa using hwf
theorem Z8f {w0:World} {Bt:Nat} (a:ATree) (hT:TreeAt w0 Bt a) (h1:a.kind=33) (x:ATree) (hks:a.kids=[x]) (hx:Ze w0 x) (hS:Z2u w0):Ze w0 a:=by
 have c0:=hT.c0;rw [h1] at c0;have c1:=hT.c1;obtain ⟨g,cp,c3',hge,hmx,hgl,hk⟩:=Z0r hT (by rw [hks]; simp);have c3:w0.cell? ⟨a.b,3,none⟩=some (.slice (some ⟨g,0,none⟩) 1 cp):=by rw [hks] at c3'; exact c3'
 have hge2:1≤cp:=by rw [hks] at hge; exact hge
 unfold maxLen at hmx;have k0:=hk 0 x (by rw [hks]; rfl);unfold ATree.ptr at k0;have cs:=hS 8 ⟨#[116,121,112,101,111,102,32]⟩ rfl;have hv:∀ need,Z5 (vP a.tree need)=if decide ((7:Int) < need)=true then 40 :: (([116,121,112,101,111,102,32] ++ Z5 (vP x.tree 7)) ++ [41]) else [116,121,112,101,111,102,32] ++ Z5 (vP x.tree 7):=fun need=>by
  obtain ⟨ab,av,ak,tx,an,aks⟩:=a;simp only [ATree.kind,ATree.kids,ATree.text] at h1 hks ⊢;subst h1;subst hks;exact Z0y _ _ _ _ _ _ (by simp only [Zg]; rw [Z9i (by omega) (by omega),Za]; rfl) 7 (by decide)
 have hmx:=hx.says (7);obtain ⟨mx,emx⟩:=zX (Z5 (vP x.tree (7)))
 rw [← emx] at hmx;simp only [← emx] at hv;have Hmx:=lh hmx;clear emx hmx;clear hT h1 hks hk c3' hge;intro need B b l w hW hF;unfold Fits at hF;rw [hv] at hF ⊢;have HW:=lh hW;unfold ATree.ptr;by_cases hp:7 < need
 ·rw [decide_eq_true hp, Y5 rfl] at hF ⊢;try simp only [List.length_append, List.length_cons, List.length_nil] at hF
  have HW0:=HW;have HB0:Hid (Below B w w):=lh (Y2 _ _);have x0_0:=HW0.out.cell c0;have x1_0:=HW0.out.cell c3;have x2_0:=HW0.out.cell k0;have x3_0:=HW0.out.cell cs;have HS:Hid (∀ w,Calls Tryz.prog 57 #[.int .i64 (33)] w fun e w'=>e=.returned (.int .i64 (7))∧w'=w):=lh fun w=>by have h:=Zc (33) w; rwa [show Zf (33)=7 by first | assumption | decide] at h
  have hcmp:(7 < need)=True:=by simp; omega
  clear hW HW hp hv;go_enter_defers Tryz.func37,Tryz.ntmps37
  go_wp2_with fail
  refine (HS.out _).mono ?_;rintro e w' ⟨rfl,hw'⟩;rw [hw'];clear hw' w' HS;go_wp2_with fail
  refine (HW0.out.byte 40 (by omega)).mono ?_;rintro e w1 ⟨rfl,hw1,hb1⟩;have HW1:=lh hw1;have HB1:=lh (HB0.out.trans hb1);have x0_1:=HW1.out.cell c0;have x1_1:=HW1.out.cell c3;have x2_1:=HW1.out.cell k0;have x3_1:=HW1.out.cell cs;clear hw1 hb1;go_wp2_with fail
  refine (HW1.out.str ⟨#[116,121,112,101,111,102,32]⟩ (by first | omega | (simp only [List.length_append,List.length_cons,List.length_nil]; omega))).mono ?_;rintro e w2 ⟨rfl,hw2,hb2⟩;have HW2:=lh hw2;have HB2:=lh (HB1.out.trans hb2);have x0_2:=HW2.out.cell c0;have x1_2:=HW2.out.cell c3;have x2_2:=HW2.out.cell k0;have x3_2:=HW2.out.cell cs;clear hw2 hb2;go_wp2_with fail
  refine (Hmx.out B b _ _ HW2.out (by first | omega | (simp only [List.length_append,List.length_cons,List.length_nil]; omega))).mono ?_;rintro e w3 ⟨rfl,hw3,hb3⟩;have HW3:=lh hw3;have HB3:=lh (HB2.out.trans hb3);have x0_3:=HW3.out.cell c0;have x1_3:=HW3.out.cell c3;have x2_3:=HW3.out.cell k0;have x3_3:=HW3.out.cell cs;clear hw3 hb3;go_wp2_with fail
  refine leaves_cons (f:=17) (args:=#[.pointer (some ⟨b,0,none⟩),.int .u8 41]) (by simp) (by simp [go_sem]) ?_;refine (HW3.out.byteD 41 (by first | omega | (simp only [List.length_append,List.length_cons,List.length_nil]; omega)) .returning).mono ?_;rintro e u' w'' ⟨rfl,rfl,hwf,hbf⟩;refine ⟨.tuple #[],by simp [results,Tryz.results37,go_sem],rfl,?_,HB3.out.trans hbf⟩;simpa using hwf
 ·rw [decide_eq_false hp, Y3 (by simp)] at hF ⊢;try simp only [List.length_append, List.length_cons, List.length_nil] at hF
  have HW0:=HW;have HB0:Hid (Below B w w):=lh (Y2 _ _);have x0_0:=HW0.out.cell c0;have x1_0:=HW0.out.cell c3;have x2_0:=HW0.out.cell k0;have x3_0:=HW0.out.cell cs;have HS:Hid (∀ w,Calls Tryz.prog 57 #[.int .i64 (33)] w fun e w'=>e=.returned (.int .i64 (7))∧w'=w):=lh fun w=>by have h:=Zc (33) w; rwa [show Zf (33)=7 by first | assumption | decide] at h
  have hcmp:(7 < need)=False:=by simp; omega
  clear hW HW hp hv;go_enter_defers Tryz.func37,Tryz.ntmps37
  go_wp2_with fail
  refine (HS.out _).mono ?_;rintro e w' ⟨rfl,hw'⟩;rw [hw'];clear hw' w' HS;go_wp2_with fail
  refine (HW0.out.str ⟨#[116,121,112,101,111,102,32]⟩ (by first | omega | (simp only [List.length_append,List.length_cons,List.length_nil]; omega))).mono ?_;rintro e w1 ⟨rfl,hw1,hb1⟩;have HW1:=lh hw1;have HB1:=lh (HB0.out.trans hb1);have x0_1:=HW1.out.cell c0;have x1_1:=HW1.out.cell c3;have x2_1:=HW1.out.cell k0;have x3_1:=HW1.out.cell cs;clear hw1 hb1;go_wp2_with fail
  refine (Hmx.out B b _ _ HW1.out (by first | omega | (simp only [List.length_append,List.length_cons,List.length_nil]; omega))).mono ?_;rintro e w2 ⟨rfl,hw2,hb2⟩;have HW2:=lh hw2;have HB2:=lh (HB1.out.trans hb2);have x0_2:=HW2.out.cell c0;have x1_2:=HW2.out.cell c3;have x2_2:=HW2.out.cell k0;have x3_2:=HW2.out.cell cs;clear hw2 hb2;go_wp2_with fail
  refine ⟨.tuple #[],by simp [results,Tryz.results37,go_sem],rfl,?_,HB2.out⟩;have hwf:=HW2.out;simpa using hwf
theorem Z94 {w0:World} {Bt:Nat} (a:ATree) (hT:TreeAt w0 Bt a) (h1:a.kind=34) (x:ATree) (hks:a.kids=[x]) (hx:Ze w0 x) (hS:Z2u w0):Ze w0 a:=by
 have c0:=hT.c0;rw [h1] at c0;have c1:=hT.c1;obtain ⟨g,cp,c3',hge,hmx,hgl,hk⟩:=Z0r hT (by rw [hks]; simp);have c3:w0.cell? ⟨a.b,3,none⟩=some (.slice (some ⟨g,0,none⟩) 1 cp):=by rw [hks] at c3'; exact c3'
 have hge2:1≤cp:=by rw [hks] at hge; exact hge
 unfold maxLen at hmx;have k0:=hk 0 x (by rw [hks]; rfl);unfold ATree.ptr at k0;have cs:=hS 9 ⟨#[100,101,108,101,116,101,32]⟩ rfl;have hv:∀ need,Z5 (vP a.tree need)=if decide ((7:Int) < need)=true then 40 :: (([100,101,108,101,116,101,32] ++ Z5 (vP x.tree 7)) ++ [41]) else [100,101,108,101,116,101,32] ++ Z5 (vP x.tree 7):=fun need=>by
  obtain ⟨ab,av,ak,tx,an,aks⟩:=a;simp only [ATree.kind,ATree.kids,ATree.text] at h1 hks ⊢;subst h1;subst hks;exact Z0y _ _ _ _ _ _ (by simp only [Zg]; rw [Z9i (by omega) (by omega),Za]; rfl) 7 (by decide)
 have hmx:=hx.says (7);obtain ⟨mx,emx⟩:=zX (Z5 (vP x.tree (7)))
 rw [← emx] at hmx;simp only [← emx] at hv;have Hmx:=lh hmx;clear emx hmx;clear hT h1 hks hk c3' hge;intro need B b l w hW hF;unfold Fits at hF;rw [hv] at hF ⊢;have HW:=lh hW;unfold ATree.ptr;by_cases hp:7 < need
 ·rw [decide_eq_true hp, Y5 rfl] at hF ⊢;try simp only [List.length_append, List.length_cons, List.length_nil] at hF
  have HW0:=HW;have HB0:Hid (Below B w w):=lh (Y2 _ _);have x0_0:=HW0.out.cell c0;have x1_0:=HW0.out.cell c3;have x2_0:=HW0.out.cell k0;have x3_0:=HW0.out.cell cs;have HS:Hid (∀ w,Calls Tryz.prog 57 #[.int .i64 (34)] w fun e w'=>e=.returned (.int .i64 (7))∧w'=w):=lh fun w=>by have h:=Zc (34) w; rwa [show Zf (34)=7 by first | assumption | decide] at h
  have hcmp:(7 < need)=True:=by simp; omega
  clear hW HW hp hv;go_enter_defers Tryz.func37,Tryz.ntmps37
  go_wp2_with fail
  refine (HS.out _).mono ?_;rintro e w' ⟨rfl,hw'⟩;rw [hw'];clear hw' w' HS;go_wp2_with fail
  refine (HW0.out.byte 40 (by omega)).mono ?_;rintro e w1 ⟨rfl,hw1,hb1⟩;have HW1:=lh hw1;have HB1:=lh (HB0.out.trans hb1);have x0_1:=HW1.out.cell c0;have x1_1:=HW1.out.cell c3;have x2_1:=HW1.out.cell k0;have x3_1:=HW1.out.cell cs;clear hw1 hb1;go_wp2_with fail
  refine (HW1.out.str ⟨#[100,101,108,101,116,101,32]⟩ (by first | omega | (simp only [List.length_append,List.length_cons,List.length_nil]; omega))).mono ?_;rintro e w2 ⟨rfl,hw2,hb2⟩;have HW2:=lh hw2;have HB2:=lh (HB1.out.trans hb2);have x0_2:=HW2.out.cell c0;have x1_2:=HW2.out.cell c3;have x2_2:=HW2.out.cell k0;have x3_2:=HW2.out.cell cs;clear hw2 hb2;go_wp2_with fail
  refine (Hmx.out B b _ _ HW2.out (by first | omega | (simp only [List.length_append,List.length_cons,List.length_nil]; omega))).mono ?_;rintro e w3 ⟨rfl,hw3,hb3⟩;have HW3:=lh hw3;have HB3:=lh (HB2.out.trans hb3);have x0_3:=HW3.out.cell c0;have x1_3:=HW3.out.cell c3;have x2_3:=HW3.out.cell k0;have x3_3:=HW3.out.cell cs;clear hw3 hb3;go_wp2_with fail
  refine leaves_cons (f:=17) (args:=#[.pointer (some ⟨b,0,none⟩),.int .u8 41]) (by simp) (by simp [go_sem]) ?_;refine (HW3.out.byteD 41 (by first | omega | (simp only [List.length_append,List.length_cons,List.length_nil]; omega)) .returning).mono ?_;rintro e u' w'' ⟨rfl,rfl,hwf,hbf⟩;refine ⟨.tuple #[],by simp [results,Tryz.results37,go_sem],rfl,?_,HB3.out.trans hbf⟩;simpa using hwf
 ·rw [decide_eq_false hp, Y3 (by simp)] at hF ⊢;try simp only [List.length_append, List.length_cons, List.length_nil] at hF
  have HW0:=HW;have HB0:Hid (Below B w w):=lh (Y2 _ _);have x0_0:=HW0.out.cell c0;have x1_0:=HW0.out.cell c3;have x2_0:=HW0.out.cell k0;have x3_0:=HW0.out.cell cs;have HS:Hid (∀ w,Calls Tryz.prog 57 #[.int .i64 (34)] w fun e w'=>e=.returned (.int .i64 (7))∧w'=w):=lh fun w=>by have h:=Zc (34) w; rwa [show Zf (34)=7 by first | assumption | decide] at h
  have hcmp:(7 < need)=False:=by simp; omega
  clear hW HW hp hv;go_enter_defers Tryz.func37,Tryz.ntmps37
  go_wp2_with fail
  refine (HS.out _).mono ?_;rintro e w' ⟨rfl,hw'⟩;rw [hw'];clear hw' w' HS;go_wp2_with fail
  refine (HW0.out.str ⟨#[100,101,108,101,116,101,32]⟩ (by first | omega | (simp only [List.length_append,List.length_cons,List.length_nil]; omega))).mono ?_;rintro e w1 ⟨rfl,hw1,hb1⟩;have HW1:=lh hw1;have HB1:=lh (HB0.out.trans hb1);have x0_1:=HW1.out.cell c0;have x1_1:=HW1.out.cell c3;have x2_1:=HW1.out.cell k0;have x3_1:=HW1.out.cell cs;clear hw1 hb1;go_wp2_with fail
  refine (Hmx.out B b _ _ HW1.out (by first | omega | (simp only [List.length_append,List.length_cons,List.length_nil]; omega))).mono ?_;rintro e w2 ⟨rfl,hw2,hb2⟩;have HW2:=lh hw2;have HB2:=lh (HB1.out.trans hb2);have x0_2:=HW2.out.cell c0;have x1_2:=HW2.out.cell c3;have x2_2:=HW2.out.cell k0;have x3_2:=HW2.out.cell cs;clear hw2 hb2;go_wp2_with fail
  refine ⟨.tuple #[],by simp [results,Tryz.results37,go_sem],rfl,?_,HB2.out⟩;have hwf:=HW2.out;simpa using hwf
theorem Zc4 {w0:World} {Bt:Nat} (a:ATree) (hT:TreeAt w0 Bt a) (h1:a.kind=36) (x:ATree) (hks:a.kids=[x]) (hx:Ze w0 x) (hsz:a.text.size≤1000000):Ze w0 a:=by
 have c0:=hT.c0;rw [h1] at c0;have c1:=hT.c1;obtain ⟨g,cp,c3',hge,hmx,hgl,hk⟩:=Z0r hT (by rw [hks]; simp);have c3:w0.cell? ⟨a.b,3,none⟩=some (.slice (some ⟨g,0,none⟩) 1 cp):=by rw [hks] at c3'; exact c3'
 have hge2:1≤cp:=by rw [hks] at hge; exact hge
 unfold maxLen at hmx;have k0:=hk 0 x (by rw [hks]; rfl);unfold ATree.ptr at k0;have hv:∀ need,Z5 (vP a.tree need)=if decide ((8:Int) < need)=true then 40 :: ((Z5 (vP x.tree 8) ++ (46 :: a.text.data.toList)) ++ [41]) else Z5 (vP x.tree 8) ++ (46 :: a.text.data.toList):=fun need=>by
  obtain ⟨ab,av,ak,tx,an,aks⟩:=a;simp only [ATree.kind,ATree.kids,ATree.text] at h1 hks ⊢;subst h1;subst hks;exact Z0y _ _ _ _ _ _ (by simp only [Zg]; rw [Zeb,Za,Z8,Z8,Z18,List.append_nil]; rfl) 8 (by decide)
 have hmx:=hx.says (8);obtain ⟨mx,emx⟩:=zX (Z5 (vP x.tree (8)))
 rw [← emx] at hmx;simp only [← emx] at hv;have Hmx:=lh hmx;clear emx hmx;obtain ⟨tx,htx⟩:=zX a.text
 rw [← htx] at c1 hsz;obtain ⟨sx,hsx⟩:∃ sx:ByteArray,sx=(⟨#[46]⟩ ++ tx):=⟨_,rfl⟩
 have hsl:sx.data.toList=46 :: tx.data.toList:=by rw [hsx]; simp [ByteArray.data_append]
 simp only [← htx,← hsl] at hv;have HSX:=lh hsx;have q1:¬ 9223372036854775807 < 1 + tx.size:=by omega
 have q2:¬ 9223372036854775807 < tx.size + 2:=by omega
 clear htx hsx hsl;clear hT h1 hks hk c3' hge;intro need B b l w hW hF;unfold Fits at hF;rw [hv] at hF ⊢;have HW:=lh hW;unfold ATree.ptr;by_cases hp:8 < need
 ·rw [decide_eq_true hp, Y5 rfl] at hF ⊢;try simp only [List.length_append, List.length_cons, List.length_nil] at hF
  have HW0:=HW;have HB0:Hid (Below B w w):=lh (Y2 _ _);have x0_0:=HW0.out.cell c0;have x1_0:=HW0.out.cell c1;have x2_0:=HW0.out.cell c3;have x3_0:=HW0.out.cell k0;have HS:Hid (∀ w,Calls Tryz.prog 57 #[.int .i64 (36)] w fun e w'=>e=.returned (.int .i64 (8))∧w'=w):=lh fun w=>by have h:=Zc (36) w; rwa [show Zf (36)=8 by first | assumption | decide] at h
  have hcmp:(8 < need)=True:=by simp; omega
  clear hW HW hp hv;go_enter_defers Tryz.func37,Tryz.ntmps37
  go_wp2_with fail
  refine (HS.out _).mono ?_;rintro e w' ⟨rfl,hw'⟩;rw [hw'];clear hw' w' HS;go_wp2_with fail
  refine (HW0.out.byte 40 (by omega)).mono ?_;rintro e w1 ⟨rfl,hw1,hb1⟩;have HW1:=lh hw1;have HB1:=lh (HB0.out.trans hb1);have x0_1:=HW1.out.cell c0;have x1_1:=HW1.out.cell c1;have x2_1:=HW1.out.cell c3;have x3_1:=HW1.out.cell k0;clear hw1 hb1;go_wp2_with fail
  refine (Hmx.out B b _ _ HW1.out (by first | omega | (simp only [List.length_append,List.length_cons,List.length_nil]; omega))).mono ?_;rintro e w2 ⟨rfl,hw2,hb2⟩;have HW2:=lh hw2;have HB2:=lh (HB1.out.trans hb2);have x0_2:=HW2.out.cell c0;have x1_2:=HW2.out.cell c1;have x2_2:=HW2.out.cell c3;have x3_2:=HW2.out.cell k0;clear hw2 hb2;go_wp2_with fail
  rw [← HSX.out];refine (HW2.out.str sx (by first | omega | (simp only [List.length_append,List.length_cons,List.length_nil]; omega))).mono ?_;rintro e w3 ⟨rfl,hw3,hb3⟩;have HW3:=lh hw3;have HB3:=lh (HB2.out.trans hb3);have x0_3:=HW3.out.cell c0;have x1_3:=HW3.out.cell c1;have x2_3:=HW3.out.cell c3;have x3_3:=HW3.out.cell k0;clear hw3 hb3;go_wp2_with fail
  refine leaves_cons (f:=17) (args:=#[.pointer (some ⟨b,0,none⟩),.int .u8 41]) (by simp) (by simp [go_sem]) ?_;refine (HW3.out.byteD 41 (by first | omega | (simp only [List.length_append,List.length_cons,List.length_nil]; omega)) .returning).mono ?_;rintro e u' w'' ⟨rfl,rfl,hwf,hbf⟩;refine ⟨.tuple #[],by simp [results,Tryz.results37,go_sem],rfl,?_,HB3.out.trans hbf⟩;simpa using hwf
 ·rw [decide_eq_false hp, Y3 (by simp)] at hF ⊢;try simp only [List.length_append, List.length_cons, List.length_nil] at hF
  have HW0:=HW;have HB0:Hid (Below B w w):=lh (Y2 _ _);have x0_0:=HW0.out.cell c0;have x1_0:=HW0.out.cell c1;have x2_0:=HW0.out.cell c3;have x3_0:=HW0.out.cell k0;have HS:Hid (∀ w,Calls Tryz.prog 57 #[.int .i64 (36)] w fun e w'=>e=.returned (.int .i64 (8))∧w'=w):=lh fun w=>by have h:=Zc (36) w; rwa [show Zf (36)=8 by first | assumption | decide] at h
  have hcmp:(8 < need)=False:=by simp; omega
  clear hW HW hp hv;go_enter_defers Tryz.func37,Tryz.ntmps37
  go_wp2_with fail
  refine (HS.out _).mono ?_;rintro e w' ⟨rfl,hw'⟩;rw [hw'];clear hw' w' HS;go_wp2_with fail
  refine (Hmx.out B b _ _ HW0.out (by first | omega | (simp only [List.length_append,List.length_cons,List.length_nil]; omega))).mono ?_;rintro e w1 ⟨rfl,hw1,hb1⟩;have HW1:=lh hw1;have HB1:=lh (HB0.out.trans hb1);have x0_1:=HW1.out.cell c0;have x1_1:=HW1.out.cell c1;have x2_1:=HW1.out.cell c3;have x3_1:=HW1.out.cell k0;clear hw1 hb1;go_wp2_with fail
  rw [← HSX.out];refine (HW1.out.str sx (by first | omega | (simp only [List.length_append,List.length_cons,List.length_nil]; omega))).mono ?_;rintro e w2 ⟨rfl,hw2,hb2⟩;have HW2:=lh hw2;have HB2:=lh (HB1.out.trans hb2);have x0_2:=HW2.out.cell c0;have x1_2:=HW2.out.cell c1;have x2_2:=HW2.out.cell c3;have x3_2:=HW2.out.cell k0;clear hw2 hb2;go_wp2_with fail
  refine ⟨.tuple #[],by simp [results,Tryz.results37,go_sem],rfl,?_,HB2.out⟩;have hwf:=HW2.out;simpa using hwf
theorem Zab {w0:World} {Bt:Nat} (a:ATree) (hT:TreeAt w0 Bt a) (h1:a.kind=39) (x:ATree) (hks:a.kids=[x]) (hx:Ze w0 x) (hsz:a.text.size≤1000000):Ze w0 a:=by
 have c0:=hT.c0;rw [h1] at c0;have c1:=hT.c1;obtain ⟨g,cp,c3',hge,hmx,hgl,hk⟩:=Z0r hT (by rw [hks]; simp);have c3:w0.cell? ⟨a.b,3,none⟩=some (.slice (some ⟨g,0,none⟩) 1 cp):=by rw [hks] at c3'; exact c3'
 have hge2:1≤cp:=by rw [hks] at hge; exact hge
 unfold maxLen at hmx;have k0:=hk 0 x (by rw [hks]; rfl);unfold ATree.ptr at k0;have hv:∀ need,Z5 (vP a.tree need)=if decide ((9:Int) < need)=true then 40 :: (((a.text.data.toList ++ [58,32]) ++ Z5 (vP x.tree 0)) ++ [41]) else (a.text.data.toList ++ [58,32]) ++ Z5 (vP x.tree 0):=fun need=>by
  obtain ⟨ab,av,ak,tx,an,aks⟩:=a;simp only [ATree.kind,ATree.kids,ATree.text] at h1 hks ⊢;subst h1;subst hks;exact Z0y _ _ _ _ _ _ (by simp only [Zg]; rw [Zbe,Z8,Z8,Z8,List.append_assoc]; rfl) 9 (by decide)
 have hmx:=hx.says (0);obtain ⟨mx,emx⟩:=zX (Z5 (vP x.tree (0)))
 rw [← emx] at hmx;simp only [← emx] at hv;have Hmx:=lh hmx;clear emx hmx;obtain ⟨tx,htx⟩:=zX a.text
 rw [← htx] at c1 hsz;obtain ⟨sx,hsx⟩:∃ sx:ByteArray,sx=(tx ++ ⟨#[58,32]⟩):=⟨_,rfl⟩
 have hsl:sx.data.toList=tx.data.toList ++ [58,32]:=by rw [hsx]; simp [ByteArray.data_append]
 simp only [← htx,← hsl] at hv;have HSX:=lh hsx;have q1:¬ 9223372036854775807 < 1 + tx.size:=by omega
 have q2:¬ 9223372036854775807 < tx.size + 2:=by omega
 clear htx hsx hsl;clear hT h1 hks hk c3' hge;intro need B b l w hW hF;unfold Fits at hF;rw [hv] at hF ⊢;have HW:=lh hW;unfold ATree.ptr;by_cases hp:9 < need
 ·rw [decide_eq_true hp, Y5 rfl] at hF ⊢;try simp only [List.length_append, List.length_cons, List.length_nil] at hF
  have HW0:=HW;have HB0:Hid (Below B w w):=lh (Y2 _ _);have x0_0:=HW0.out.cell c0;have x1_0:=HW0.out.cell c1;have x2_0:=HW0.out.cell c3;have x3_0:=HW0.out.cell k0;have HS:Hid (∀ w,Calls Tryz.prog 57 #[.int .i64 (39)] w fun e w'=>e=.returned (.int .i64 (9))∧w'=w):=lh fun w=>by have h:=Zc (39) w; rwa [show Zf (39)=9 by first | assumption | decide] at h
  have hcmp:(9 < need)=True:=by simp; omega
  clear hW HW hp hv;go_enter_defers Tryz.func37,Tryz.ntmps37
  go_wp2_with fail
  refine (HS.out _).mono ?_;rintro e w' ⟨rfl,hw'⟩;rw [hw'];clear hw' w' HS;go_wp2_with fail
  refine (HW0.out.byte 40 (by omega)).mono ?_;rintro e w1 ⟨rfl,hw1,hb1⟩;have HW1:=lh hw1;have HB1:=lh (HB0.out.trans hb1);have x0_1:=HW1.out.cell c0;have x1_1:=HW1.out.cell c1;have x2_1:=HW1.out.cell c3;have x3_1:=HW1.out.cell k0;clear hw1 hb1;go_wp2_with fail
  rw [← HSX.out];refine (HW1.out.str sx (by first | omega | (simp only [List.length_append,List.length_cons,List.length_nil]; omega))).mono ?_;rintro e w2 ⟨rfl,hw2,hb2⟩;have HW2:=lh hw2;have HB2:=lh (HB1.out.trans hb2);have x0_2:=HW2.out.cell c0;have x1_2:=HW2.out.cell c1;have x2_2:=HW2.out.cell c3;have x3_2:=HW2.out.cell k0;clear hw2 hb2;go_wp2_with fail
  refine (Hmx.out B b _ _ HW2.out (by first | omega | (simp only [List.length_append,List.length_cons,List.length_nil]; omega))).mono ?_;rintro e w3 ⟨rfl,hw3,hb3⟩;have HW3:=lh hw3;have HB3:=lh (HB2.out.trans hb3);have x0_3:=HW3.out.cell c0;have x1_3:=HW3.out.cell c1;have x2_3:=HW3.out.cell c3;have x3_3:=HW3.out.cell k0;clear hw3 hb3;go_wp2_with fail
  refine leaves_cons (f:=17) (args:=#[.pointer (some ⟨b,0,none⟩),.int .u8 41]) (by simp) (by simp [go_sem]) ?_;refine (HW3.out.byteD 41 (by first | omega | (simp only [List.length_append,List.length_cons,List.length_nil]; omega)) .returning).mono ?_;rintro e u' w'' ⟨rfl,rfl,hwf,hbf⟩;refine ⟨.tuple #[],by simp [results,Tryz.results37,go_sem],rfl,?_,HB3.out.trans hbf⟩;simpa using hwf
 ·rw [decide_eq_false hp, Y3 (by simp)] at hF ⊢;try simp only [List.length_append, List.length_cons, List.length_nil] at hF
  have HW0:=HW;have HB0:Hid (Below B w w):=lh (Y2 _ _);have x0_0:=HW0.out.cell c0;have x1_0:=HW0.out.cell c1;have x2_0:=HW0.out.cell c3;have x3_0:=HW0.out.cell k0;have HS:Hid (∀ w,Calls Tryz.prog 57 #[.int .i64 (39)] w fun e w'=>e=.returned (.int .i64 (9))∧w'=w):=lh fun w=>by have h:=Zc (39) w; rwa [show Zf (39)=9 by first | assumption | decide] at h
  have hcmp:(9 < need)=False:=by simp; omega
  clear hW HW hp hv;go_enter_defers Tryz.func37,Tryz.ntmps37
  go_wp2_with fail
  refine (HS.out _).mono ?_;rintro e w' ⟨rfl,hw'⟩;rw [hw'];clear hw' w' HS;go_wp2_with fail
  rw [← HSX.out];refine (HW0.out.str sx (by first | omega | (simp only [List.length_append,List.length_cons,List.length_nil]; omega))).mono ?_;rintro e w1 ⟨rfl,hw1,hb1⟩;have HW1:=lh hw1;have HB1:=lh (HB0.out.trans hb1);have x0_1:=HW1.out.cell c0;have x1_1:=HW1.out.cell c1;have x2_1:=HW1.out.cell c3;have x3_1:=HW1.out.cell k0;clear hw1 hb1;go_wp2_with fail
  refine (Hmx.out B b _ _ HW1.out (by first | omega | (simp only [List.length_append,List.length_cons,List.length_nil]; omega))).mono ?_;rintro e w2 ⟨rfl,hw2,hb2⟩;have HW2:=lh hw2;have HB2:=lh (HB1.out.trans hb2);have x0_2:=HW2.out.cell c0;have x1_2:=HW2.out.cell c1;have x2_2:=HW2.out.cell c3;have x3_2:=HW2.out.cell k0;clear hw2 hb2;go_wp2_with fail
  refine ⟨.tuple #[],by simp [results,Tryz.results37,go_sem],rfl,?_,HB2.out⟩;have hwf:=HW2.out;simpa using hwf
end Go.Proofs.YtjcgkdfeplbajaaGreatDoor
