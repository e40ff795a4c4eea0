/- Package tree: write: leaves. -/
import Derived.Test.YtjcgkdfeplbajaaGreatDoorJ11
import Derived.Lib.AppendIntMem
namespace Go.Proofs.YtjcgkdfeplbajaaGreatDoor
open Go Go.RowKit
set_option maxRecDepth 100000
set_option maxHeartbeats 20000000
set_option linter.unusedVariables false
set_option linter.unusedSimpArgs false
theorem Z0y (k:Int) (t:ByteArray) (n:Int) (ks:List Tree) (need:Int) (X:List UInt8) (h:Z5 (vbP k t n ks)=X) (s:Int) (hs:Zf k=s):Z5 (vP (.mk k t n ks) need)=if decide (s < need)=true then 40 :: (X ++ [41]) else X:=by
 rw [Zbs,hs];unfold Z8t;split;·rw [Z8,Za,h]; rfl
 ·exact h
def Pow (w : World) : Prop := Lib.TabIs Tryz.prog w "internal/strconv.uint64pow10" .u64 Lib.pow10Tab
theorem Pow.below {w w':World} (h:Pow w) (hB:Below w.heap.size w w'):Pow w':=Lib.tabBelow_of_tabIs h w' hB
theorem below_grow (w:World) (k:Nat) (os:Array Obj):Below w.heap.size w (Sort.grow (w.drewN k) os):=by
 refine ⟨rfl,rfl,rfl,?_,fun i hi=>?_⟩;·simp [Sort.grow,World.drewN]
 ·simp only [Sort.grow,World.drewN];exact Array.getElem?_append_left hi
theorem Zdz (w:World) (n:Int) (h0:-9223372036854775808≤n) (h1:n≤9223372036854775807) (ht:Pow w) :
 Calls Tryz.prog 58 #[.int .i64 n] w fun e w'=>e=.returned (.string ⟨(Lib.itoa n).toArray⟩)∧Below w.heap.size w w':=by
 refine (Tryz.strconv_Itoa n h0 h1 w ht).mono ?_;rintro e w' ⟨rfl,k,os,rfl⟩;exact ⟨rfl,below_grow _ _ _⟩
def Zff:List ByteArray:=[⟨#[32,124,124,32]⟩,⟨#[32,38,38,32]⟩,⟨#[32,61,61,61,32]⟩,⟨#[32,60,32]⟩,⟨#[32,43,32]⟩,⟨#[32,45,32]⟩,⟨#[32,42,32]⟩,⟨#[33]⟩,⟨#[116,121,112,101,111,102,32]⟩,⟨#[100,101,108,101,116,101,32]⟩]
def Z2u (w:World):Prop:=∀ j s,Zff[j]?=some s→w.cell? ⟨3,j,none⟩=some (.string s)
theorem Z0r {w:World} {Bt:Nat} {a:ATree} (hT:TreeAt w Bt a) (hne:a.kids≠[]):∃ g cp,w.cell? ⟨a.b,3,none⟩=some (.slice (some ⟨g,0,none⟩) a.kids.length cp)∧a.kids.length≤cp∧cp≤maxLen∧g < w.heap.size∧∀ (i:Nat) (x:ATree),a.kids[i]?=some x→w.cell? ⟨g,i,none⟩=some x.ptr:=by
 obtain ⟨p,cp,hv,hge,hmx⟩:=hT.vOf;have hrow:=hT.rowOf;obtain ⟨g,hp⟩:∃ g,p=some ⟨g,0,none⟩:=by
  rcases Zm hrow with ⟨_,h2⟩ | ⟨g,cap,h1,_⟩;·exact absurd (List.eq_nil_of_length_eq_zero h2) hne
  ·rw [hv] at h1; simp only [Value.slice.injEq] at h1; exact ⟨g,h1.1⟩
 subst hp;refine ⟨g,cp,by rw [← hv]; exact hT.c3,hge,hmx,(Y9 hrow g (by rw [hv]; rfl)).2,fun i x hx=>?_⟩;exact Z65 hrow (g:=g) (by rw [hv]; rfl) (by rw [Yg,hx]; rfl)
def Z75 (w:World) (v:Value) (L:List ATree):Prop:=∃ p cp,v=.slice p L.length cp∧L.length≤cp∧cp≤maxLen∧∀ (i:Nat) (x:ATree),L[i]?=some x→∃ g o,p=some ⟨g,o,none⟩∧w.cell? ⟨g,o + i,none⟩=some x.ptr
def Z3f (w0:World) (L:List ATree):Prop:=∀ (o e:ByteArray) (v:Value) (B b:Nat) (l:List UInt8) (w:World),Z75 w0 v L→BW w0 B b l w→l.length + (o.data.toList.length + (Z5 (lP true (Zg L))).length + e.data.toList.length)≤140737488355328 →
 Calls Tryz.prog 60 #[.pointer (some ⟨b,0,none⟩),.string o,v,.string e] w (Wrote w0 B b l w (o.data.toList ++ (Z5 (lP true (Zg L)) ++ e.data.toList)))
theorem Ze.says {w0:World} {x:ATree} (h:Ze w0 x) (need:Int):∀ (B b:Nat) (l:List UInt8) (w:World),BW w0 B b l w→l.length + (Z5 (vP x.tree need)).length≤140737488355328 →
 Calls Tryz.prog 37 #[.pointer (some ⟨b,0,none⟩),.pointer (some ⟨x.b,0,none⟩),.int .i64 need] w (Wrote w0 B b l w (Z5 (vP x.tree need))):=fun B b l w h1 h2=>h need B b l w h1 h2
theorem Z12.says {w0:World} {x:ATree} (h:Z12 w0 x):∀ (B b:Nat) (l:List UInt8) (w:World),BW w0 B b l w→l.length + (Z5 (sP x.tree)).length≤140737488355328 →
 Calls Tryz.prog 16 #[.pointer (some ⟨b,0,none⟩),.pointer (some ⟨x.b,0,none⟩)] w (Wrote w0 B b l w (Z5 (sP x.tree))):=fun B b l w h1 h2=>h B b l w h1 h2
theorem Z96 {w0:World} {Bt:Nat} (a:ATree) (hT:TreeAt w0 Bt a) (h1:a.kind=19):Ze w0 a:=by
 have c0:=hT.c0;rw [h1] at c0;have hv:∀ need,Z5 (vP a.tree need)=if decide ((9:Int) < need)=true then 40 :: ([116,114,117,101] ++ [41]) else [116,114,117,101]:=fun need=>by
  obtain ⟨ab,av,ak,tx,an,aks⟩:=a;simp only [ATree.kind] at h1;subst h1;exact Z0y _ _ _ _ _ _ (by rw [Z81 (by omega) (by omega)]; rfl) 9 (by decide)
 intro need B b l w hW hF;unfold Fits at hF;rw [hv] at hF ⊢;have HW:=lh hW;unfold ATree.ptr;by_cases hp:9 < need
 ·rw [decide_eq_true hp, Y5 rfl] at hF ⊢;try simp only [List.length_append, List.length_cons, List.length_nil] at hF
  have HW0:=HW;have HB0:Hid (Below B w w):=lh (Y2 _ _);have x0_0:=HW0.out.cell c0;have HS:Hid (∀ w,Calls Tryz.prog 57 #[.int .i64 (19)] w fun e w'=>e=.returned (.int .i64 (9))∧w'=w):=lh fun w=>by have h:=Zc (19) w; rwa [show Zf (19)=9 by first | assumption | decide] at h
  have hcmp:(9 < need)=True:=by simp; omega
  clear hW HW hp hv;go_enter_defers Tryz.func37,Tryz.ntmps37
  go_wp2_with fail
  refine (HS.out _).mono ?_;rintro e w' ⟨rfl,hw'⟩;rw [hw'];clear hw' w' HS;go_wp2_with fail
  refine (HW0.out.byte 40 (by omega)).mono ?_;rintro e w1 ⟨rfl,hw1,hb1⟩;have HW1:=lh hw1;have HB1:=lh (HB0.out.trans hb1);have x0_1:=HW1.out.cell c0;clear hw1 hb1;go_wp2_with fail
  refine (HW1.out.str ⟨#[116,114,117,101]⟩ (by first | omega | (simp only [List.length_append,List.length_cons,List.length_nil]; omega))).mono ?_;rintro e w2 ⟨rfl,hw2,hb2⟩;have HW2:=lh hw2;have HB2:=lh (HB1.out.trans hb2);have x0_2:=HW2.out.cell c0;clear hw2 hb2;go_wp2_with fail
  refine leaves_cons (f:=17) (args:=#[.pointer (some ⟨b,0,none⟩),.int .u8 41]) (by simp) (by simp [go_sem]) ?_;refine (HW2.out.byteD 41 (by first | omega | (simp only [List.length_append,List.length_cons,List.length_nil]; omega)) .returning).mono ?_;rintro e u' w'' ⟨rfl,rfl,hwf,hbf⟩;refine ⟨.tuple #[],by simp [results,Tryz.results37,go_sem],rfl,?_,HB2.out.trans hbf⟩;simpa using hwf
 ·rw [decide_eq_false hp, Y3 (by simp)] at hF ⊢;try simp only [List.length_append, List.length_cons, List.length_nil] at hF
  have HW0:=HW;have HB0:Hid (Below B w w):=lh (Y2 _ _);have x0_0:=HW0.out.cell c0;have HS:Hid (∀ w,Calls Tryz.prog 57 #[.int .i64 (19)] w fun e w'=>e=.returned (.int .i64 (9))∧w'=w):=lh fun w=>by have h:=Zc (19) w; rwa [show Zf (19)=9 by first | assumption | decide] at h
  have hcmp:(9 < need)=False:=by simp; omega
  clear hW HW hp hv;go_enter_defers Tryz.func37,Tryz.ntmps37
  go_wp2_with fail
  refine (HS.out _).mono ?_;rintro e w' ⟨rfl,hw'⟩;rw [hw'];clear hw' w' HS;go_wp2_with fail
  refine (HW0.out.str ⟨#[116,114,117,101]⟩ (by first | omega | (simp only [List.length_append,List.length_cons,List.length_nil]; omega))).mono ?_;rintro e w1 ⟨rfl,hw1,hb1⟩;have HW1:=lh hw1;have HB1:=lh (HB0.out.trans hb1);have x0_1:=HW1.out.cell c0;clear hw1 hb1;go_wp2_with fail
  refine ⟨.tuple #[],by simp [results,Tryz.results37,go_sem],rfl,?_,HB1.out⟩;have hwf:=HW1.out;simpa using hwf
theorem Z8v {w0:World} {Bt:Nat} (a:ATree) (hT:TreeAt w0 Bt a) (h1:a.kind=20):Ze w0 a:=by
 have c0:=hT.c0;rw [h1] at c0;have hv:∀ need,Z5 (vP a.tree need)=if decide ((9:Int) < need)=true then 40 :: ([102,97,108,115,101] ++ [41]) else [102,97,108,115,101]:=fun need=>by
  obtain ⟨ab,av,ak,tx,an,aks⟩:=a;simp only [ATree.kind] at h1;subst h1;exact Z0y _ _ _ _ _ _ (by rw [Z81 (by omega) (by omega)]; rfl) 9 (by decide)
 intro need B b l w hW hF;unfold Fits at hF;rw [hv] at hF ⊢;have HW:=lh hW;unfold ATree.ptr;by_cases hp:9 < need
 ·rw [decide_eq_true hp, Y5 rfl] at hF ⊢;try simp only [List.length_append, List.length_cons, List.length_nil] at hF
  have HW0:=HW;have HB0:Hid (Below B w w):=lh (Y2 _ _);have x0_0:=HW0.out.cell c0;have HS:Hid (∀ w,Calls Tryz.prog 57 #[.int .i64 (20)] w fun e w'=>e=.returned (.int .i64 (9))∧w'=w):=lh fun w=>by have h:=Zc (20) w; rwa [show Zf (20)=9 by first | assumption | decide] at h
  have hcmp:(9 < need)=True:=by simp; omega
  clear hW HW hp hv;go_enter_defers Tryz.func37,Tryz.ntmps37
  go_wp2_with fail
  refine (HS.out _).mono ?_;rintro e w' ⟨rfl,hw'⟩;rw [hw'];clear hw' w' HS;go_wp2_with fail
  refine (HW0.out.byte 40 (by omega)).mono ?_;rintro e w1 ⟨rfl,hw1,hb1⟩;have HW1:=lh hw1;have HB1:=lh (HB0.out.trans hb1);have x0_1:=HW1.out.cell c0;clear hw1 hb1;go_wp2_with fail
  refine (HW1.out.str ⟨#[102,97,108,115,101]⟩ (by first | omega | (simp only [List.length_append,List.length_cons,List.length_nil]; omega))).mono ?_;rintro e w2 ⟨rfl,hw2,hb2⟩;have HW2:=lh hw2;have HB2:=lh (HB1.out.trans hb2);have x0_2:=HW2.out.cell c0;clear hw2 hb2;go_wp2_with fail
  refine leaves_cons (f:=17) (args:=#[.pointer (some ⟨b,0,none⟩),.int .u8 41]) (by simp) (by simp [go_sem]) ?_;refine (HW2.out.byteD 41 (by first | omega | (simp only [List.length_append,List.length_cons,List.length_nil]; omega)) .returning).mono ?_;rintro e u' w'' ⟨rfl,rfl,hwf,hbf⟩;refine ⟨.tuple #[],by simp [results,Tryz.results37,go_sem],rfl,?_,HB2.out.trans hbf⟩;simpa using hwf
 ·rw [decide_eq_false hp, Y3 (by simp)] at hF ⊢;try simp only [List.length_append, List.length_cons, List.length_nil] at hF
  have HW0:=HW;have HB0:Hid (Below B w w):=lh (Y2 _ _);have x0_0:=HW0.out.cell c0;have HS:Hid (∀ w,Calls Tryz.prog 57 #[.int .i64 (20)] w fun e w'=>e=.returned (.int .i64 (9))∧w'=w):=lh fun w=>by have h:=Zc (20) w; rwa [show Zf (20)=9 by first | assumption | decide] at h
  have hcmp:(9 < need)=False:=by simp; omega
  clear hW HW hp hv;go_enter_defers Tryz.func37,Tryz.ntmps37
  go_wp2_with fail
  refine (HS.out _).mono ?_;rintro e w' ⟨rfl,hw'⟩;rw [hw'];clear hw' w' HS;go_wp2_with fail
  refine (HW0.out.str ⟨#[102,97,108,115,101]⟩ (by first | omega | (simp only [List.length_append,List.length_cons,List.length_nil]; omega))).mono ?_;rintro e w1 ⟨rfl,hw1,hb1⟩;have HW1:=lh hw1;have HB1:=lh (HB0.out.trans hb1);have x0_1:=HW1.out.cell c0;clear hw1 hb1;go_wp2_with fail
  refine ⟨.tuple #[],by simp [results,Tryz.results37,go_sem],rfl,?_,HB1.out⟩;have hwf:=HW1.out;simpa using hwf
theorem Z8p {w0:World} {Bt:Nat} (a:ATree) (hT:TreeAt w0 Bt a) (h1:a.kind=21):Ze w0 a:=by
 have c0:=hT.c0;rw [h1] at c0;have hv:∀ need,Z5 (vP a.tree need)=if decide ((9:Int) < need)=true then 40 :: ([110,117,108,108] ++ [41]) else [110,117,108,108]:=fun need=>by
  obtain ⟨ab,av,ak,tx,an,aks⟩:=a;simp only [ATree.kind] at h1;subst h1;exact Z0y _ _ _ _ _ _ (by rw [Z81 (by omega) (by omega)]; rfl) 9 (by decide)
 intro need B b l w hW hF;unfold Fits at hF;rw [hv] at hF ⊢;have HW:=lh hW;unfold ATree.ptr;by_cases hp:9 < need
 ·rw [decide_eq_true hp, Y5 rfl] at hF ⊢;try simp only [List.length_append, List.length_cons, List.length_nil] at hF
  have HW0:=HW;have HB0:Hid (Below B w w):=lh (Y2 _ _);have x0_0:=HW0.out.cell c0;have HS:Hid (∀ w,Calls Tryz.prog 57 #[.int .i64 (21)] w fun e w'=>e=.returned (.int .i64 (9))∧w'=w):=lh fun w=>by have h:=Zc (21) w; rwa [show Zf (21)=9 by first | assumption | decide] at h
  have hcmp:(9 < need)=True:=by simp; omega
  clear hW HW hp hv;go_enter_defers Tryz.func37,Tryz.ntmps37
  go_wp2_with fail
  refine (HS.out _).mono ?_;rintro e w' ⟨rfl,hw'⟩;rw [hw'];clear hw' w' HS;go_wp2_with fail
  refine (HW0.out.byte 40 (by omega)).mono ?_;rintro e w1 ⟨rfl,hw1,hb1⟩;have HW1:=lh hw1;have HB1:=lh (HB0.out.trans hb1);have x0_1:=HW1.out.cell c0;clear hw1 hb1;go_wp2_with fail
  refine (HW1.out.str ⟨#[110,117,108,108]⟩ (by first | omega | (simp only [List.length_append,List.length_cons,List.length_nil]; omega))).mono ?_;rintro e w2 ⟨rfl,hw2,hb2⟩;have HW2:=lh hw2;have HB2:=lh (HB1.out.trans hb2);have x0_2:=HW2.out.cell c0;clear hw2 hb2;go_wp2_with fail
  refine leaves_cons (f:=17) (args:=#[.pointer (some ⟨b,0,none⟩),.int .u8 41]) (by simp) (by simp [go_sem]) ?_;refine (HW2.out.byteD 41 (by first | omega | (simp only [List.length_append,List.length_cons,List.length_nil]; omega)) .returning).mono ?_;rintro e u' w'' ⟨rfl,rfl,hwf,hbf⟩;refine ⟨.tuple #[],by simp [results,Tryz.results37,go_sem],rfl,?_,HB2.out.trans hbf⟩;simpa using hwf
 ·rw [decide_eq_false hp, Y3 (by simp)] at hF ⊢;try simp only [List.length_append, List.length_cons, List.length_nil] at hF
  have HW0:=HW;have HB0:Hid (Below B w w):=lh (Y2 _ _);have x0_0:=HW0.out.cell c0;have HS:Hid (∀ w,Calls Tryz.prog 57 #[.int .i64 (21)] w fun e w'=>e=.returned (.int .i64 (9))∧w'=w):=lh fun w=>by have h:=Zc (21) w; rwa [show Zf (21)=9 by first | assumption | decide] at h
  have hcmp:(9 < need)=False:=by simp; omega
  clear hW HW hp hv;go_enter_defers Tryz.func37,Tryz.ntmps37
  go_wp2_with fail
  refine (HS.out _).mono ?_;rintro e w' ⟨rfl,hw'⟩;rw [hw'];clear hw' w' HS;go_wp2_with fail
  refine (HW0.out.str ⟨#[110,117,108,108]⟩ (by first | omega | (simp only [List.length_append,List.length_cons,List.length_nil]; omega))).mono ?_;rintro e w1 ⟨rfl,hw1,hb1⟩;have HW1:=lh hw1;have HB1:=lh (HB0.out.trans hb1);have x0_1:=HW1.out.cell c0;clear hw1 hb1;go_wp2_with fail
  refine ⟨.tuple #[],by simp [results,Tryz.results37,go_sem],rfl,?_,HB1.out⟩;have hwf:=HW1.out;simpa using hwf
theorem Z8n {w0:World} {Bt:Nat} (a:ATree) (hT:TreeAt w0 Bt a) (h1:a.kind=22):Ze w0 a:=by
 have c0:=hT.c0;rw [h1] at c0;have hv:∀ need,Z5 (vP a.tree need)=if decide ((9:Int) < need)=true then 40 :: ([117,110,100,101,102,105,110,101,100] ++ [41]) else [117,110,100,101,102,105,110,101,100]:=fun need=>by
  obtain ⟨ab,av,ak,tx,an,aks⟩:=a;simp only [ATree.kind] at h1;subst h1;exact Z0y _ _ _ _ _ _ (by rw [Z81 (by omega) (by omega)]; rfl) 9 (by decide)
 intro need B b l w hW hF;unfold Fits at hF;rw [hv] at hF ⊢;have HW:=lh hW;unfold ATree.ptr;by_cases hp:9 < need
 ·rw [decide_eq_true hp, Y5 rfl] at hF ⊢;try simp only [List.length_append, List.length_cons, List.length_nil] at hF
  have HW0:=HW;have HB0:Hid (Below B w w):=lh (Y2 _ _);have x0_0:=HW0.out.cell c0;have HS:Hid (∀ w,Calls Tryz.prog 57 #[.int .i64 (22)] w fun e w'=>e=.returned (.int .i64 (9))∧w'=w):=lh fun w=>by have h:=Zc (22) w; rwa [show Zf (22)=9 by first | assumption | decide] at h
  have hcmp:(9 < need)=True:=by simp; omega
  clear hW HW hp hv;go_enter_defers Tryz.func37,Tryz.ntmps37
  go_wp2_with fail
  refine (HS.out _).mono ?_;rintro e w' ⟨rfl,hw'⟩;rw [hw'];clear hw' w' HS;go_wp2_with fail
  refine (HW0.out.byte 40 (by omega)).mono ?_;rintro e w1 ⟨rfl,hw1,hb1⟩;have HW1:=lh hw1;have HB1:=lh (HB0.out.trans hb1);have x0_1:=HW1.out.cell c0;clear hw1 hb1;go_wp2_with fail
  refine (HW1.out.str ⟨#[117,110,100,101,102,105,110,101,100]⟩ (by first | omega | (simp only [List.length_append,List.length_cons,List.length_nil]; omega))).mono ?_;rintro e w2 ⟨rfl,hw2,hb2⟩;have HW2:=lh hw2;have HB2:=lh (HB1.out.trans hb2);have x0_2:=HW2.out.cell c0;clear hw2 hb2;go_wp2_with fail
  refine leaves_cons (f:=17) (args:=#[.pointer (some ⟨b,0,none⟩),.int .u8 41]) (by simp) (by simp [go_sem]) ?_;refine (HW2.out.byteD 41 (by first | omega | (simp only [List.length_append,List.length_cons,List.length_nil]; omega)) .returning).mono ?_;rintro e u' w'' ⟨rfl,rfl,hwf,hbf⟩;refine ⟨.tuple #[],by simp [results,Tryz.results37,go_sem],rfl,?_,HB2.out.trans hbf⟩;simpa using hwf
 ·rw [decide_eq_false hp, Y3 (by simp)] at hF ⊢;try simp only [List.length_append, List.length_cons, List.length_nil] at hF
  have HW0:=HW;have HB0:Hid (Below B w w):=lh (Y2 _ _);have x0_0:=HW0.out.cell c0;have HS:Hid (∀ w,Calls Tryz.prog 57 #[.int .i64 (22)] w fun e w'=>e=.returned (.int .i64 (9))∧w'=w):=lh fun w=>by have h:=Zc (22) w; rwa [show Zf (22)=9 by first | assumption | decide] at h
  have hcmp:(9 < need)=False:=by simp; omega
  clear hW HW hp hv;go_enter_defers Tryz.func37,Tryz.ntmps37
  go_wp2_with fail
  refine (HS.out _).mono ?_;rintro e w' ⟨rfl,hw'⟩;rw [hw'];clear hw' w' HS;go_wp2_with fail
  refine (HW0.out.str ⟨#[117,110,100,101,102,105,110,101,100]⟩ (by first | omega | (simp only [List.length_append,List.length_cons,List.length_nil]; omega))).mono ?_;rintro e w1 ⟨rfl,hw1,hb1⟩;have HW1:=lh hw1;have HB1:=lh (HB0.out.trans hb1);have x0_1:=HW1.out.cell c0;clear hw1 hb1;go_wp2_with fail
  refine ⟨.tuple #[],by simp [results,Tryz.results37,go_sem],rfl,?_,HB1.out⟩;have hwf:=HW1.out;simpa using hwf
theorem Z6m {w0:World} {Bt:Nat} (a:ATree) (hT:TreeAt w0 Bt a) (h1:a.kind=23):Ze w0 a:=by
 have c0:=hT.c0;rw [h1] at c0;have c1:=hT.c1;have hv:∀ need,Z5 (vP a.tree need)=if decide ((9:Int) < need)=true then 40 :: (a.text.data.toList ++ [41]) else a.text.data.toList:=fun need=>by
  obtain ⟨ab,av,ak,tx,an,aks⟩:=a;simp only [ATree.kind] at h1;subst h1;exact Z0y _ _ _ _ _ _ (by rw [Z6p,Z8,Z18,List.append_nil]; rfl) 9 (by decide)
 obtain ⟨tx,htx⟩:=zX a.text
 rw [← htx] at c1;simp only [← htx] at hv;clear htx;intro need B b l w hW hF;unfold Fits at hF;rw [hv] at hF ⊢;have HW:=lh hW;unfold ATree.ptr;by_cases hp:9 < need
 ·rw [decide_eq_true hp, Y5 rfl] at hF ⊢;try simp only [List.length_append, List.length_cons, List.length_nil] at hF
  have HW0:=HW;have HB0:Hid (Below B w w):=lh (Y2 _ _);have x0_0:=HW0.out.cell c0;have x1_0:=HW0.out.cell c1;have HS:Hid (∀ w,Calls Tryz.prog 57 #[.int .i64 (23)] w fun e w'=>e=.returned (.int .i64 (9))∧w'=w):=lh fun w=>by have h:=Zc (23) w; rwa [show Zf (23)=9 by first | assumption | decide] at h
  have hcmp:(9 < need)=True:=by simp; omega
  clear hW HW hp hv;go_enter_defers Tryz.func37,Tryz.ntmps37
  go_wp2_with fail
  refine (HS.out _).mono ?_;rintro e w' ⟨rfl,hw'⟩;rw [hw'];clear hw' w' HS;go_wp2_with fail
  refine (HW0.out.byte 40 (by omega)).mono ?_;rintro e w1 ⟨rfl,hw1,hb1⟩;have HW1:=lh hw1;have HB1:=lh (HB0.out.trans hb1);have x0_1:=HW1.out.cell c0;have x1_1:=HW1.out.cell c1;clear hw1 hb1;go_wp2_with fail
  refine (HW1.out.str tx (by first | omega | (simp only [List.length_append,List.length_cons,List.length_nil]; omega))).mono ?_;rintro e w2 ⟨rfl,hw2,hb2⟩;have HW2:=lh hw2;have HB2:=lh (HB1.out.trans hb2);have x0_2:=HW2.out.cell c0;have x1_2:=HW2.out.cell c1;clear hw2 hb2;go_wp2_with fail
  refine leaves_cons (f:=17) (args:=#[.pointer (some ⟨b,0,none⟩),.int .u8 41]) (by simp) (by simp [go_sem]) ?_;refine (HW2.out.byteD 41 (by first | omega | (simp only [List.length_append,List.length_cons,List.length_nil]; omega)) .returning).mono ?_;rintro e u' w'' ⟨rfl,rfl,hwf,hbf⟩;refine ⟨.tuple #[],by simp [results,Tryz.results37,go_sem],rfl,?_,HB2.out.trans hbf⟩;simpa using hwf
 ·rw [decide_eq_false hp, Y3 (by simp)] at hF ⊢;try simp only [List.length_append, List.length_cons, List.length_nil] at hF
  have HW0:=HW;have HB0:Hid (Below B w w):=lh (Y2 _ _);have x0_0:=HW0.out.cell c0;have x1_0:=HW0.out.cell c1;have HS:Hid (∀ w,Calls Tryz.prog 57 #[.int .i64 (23)] w fun e w'=>e=.returned (.int .i64 (9))∧w'=w):=lh fun w=>by have h:=Zc (23) w; rwa [show Zf (23)=9 by first | assumption | decide] at h
  have hcmp:(9 < need)=False:=by simp; omega
  clear hW HW hp hv;go_enter_defers Tryz.func37,Tryz.ntmps37
  go_wp2_with fail
  refine (HS.out _).mono ?_;rintro e w' ⟨rfl,hw'⟩;rw [hw'];clear hw' w' HS;go_wp2_with fail
  refine (HW0.out.str tx (by first | omega | (simp only [List.length_append,List.length_cons,List.length_nil]; omega))).mono ?_;rintro e w1 ⟨rfl,hw1,hb1⟩;have HW1:=lh hw1;have HB1:=lh (HB0.out.trans hb1);have x0_1:=HW1.out.cell c0;have x1_1:=HW1.out.cell c1;clear hw1 hb1;go_wp2_with fail
  refine ⟨.tuple #[],by simp [results,Tryz.results37,go_sem],rfl,?_,HB1.out⟩;have hwf:=HW1.out;simpa using hwf
theorem Zcc {w0:World} {Bt:Nat} (a:ATree) (hT:TreeAt w0 Bt a) (h1:a.kind=18) (hs:a.text.size≤1000000):Ze w0 a:=by
 have c0:=hT.c0;rw [h1] at c0;have c1:=hT.c1;have hv:∀ need,Z5 (vP a.tree need)=if decide ((9:Int) < need)=true then 40 :: (Z49 a.text ++ [41]) else Z49 a.text:=fun need=>by
  obtain ⟨ab,av,ak,tx,an,aks⟩:=a;simp only [ATree.kind] at h1;subst h1;exact Z0y _ _ _ _ _ _ (by rw [Zed,Z8,Z18,List.append_nil]; rfl) 9 (by decide)
 obtain ⟨tx,htx⟩:=zX a.text
 rw [← htx] at c1 hs;simp only [← htx] at hv;have hq:=fun w=>Zbf tx w hs;obtain ⟨ql,hql⟩:=zX (Z49 tx)
 rw [← hql] at hq;simp only [← hql] at hv;have HQ:=lh hq;clear htx hs hql hq;intro need B b l w hW hF;unfold Fits at hF;rw [hv] at hF ⊢;have HW:=lh hW;unfold ATree.ptr;by_cases hp:9 < need
 ·rw [decide_eq_true hp, Y5 rfl] at hF ⊢;try simp only [List.length_append, List.length_cons, List.length_nil] at hF
  have HW0:=HW;have HB0:Hid (Below B w w):=lh (Y2 _ _);have x0_0:=HW0.out.cell c0;have x1_0:=HW0.out.cell c1;have HS:Hid (∀ w,Calls Tryz.prog 57 #[.int .i64 (18)] w fun e w'=>e=.returned (.int .i64 (9))∧w'=w):=lh fun w=>by have h:=Zc (18) w; rwa [show Zf (18)=9 by first | assumption | decide] at h
  have hcmp:(9 < need)=True:=by simp; omega
  clear hW HW hp hv;go_enter_defers Tryz.func37,Tryz.ntmps37
  go_wp2_with fail
  refine (HS.out _).mono ?_;rintro e w' ⟨rfl,hw'⟩;rw [hw'];clear hw' w' HS;go_wp2_with fail
  refine (HW0.out.byte 40 (by omega)).mono ?_;rintro e w1 ⟨rfl,hw1,hb1⟩;have HW1:=lh hw1;have HB1:=lh (HB0.out.trans hb1);have x0_1:=HW1.out.cell c0;have x1_1:=HW1.out.cell c1;clear hw1 hb1;go_wp2_with fail
  refine (HQ.out _).mono ?_;rintro e w2 ⟨rfl,hb2⟩;have HW2:=lh (HW1.out.keep hb2);have HB2:=lh (HB1.out.trans (hb2.mono HW1.out.sz));have x0_2:=HW2.out.cell c0;have x1_2:=HW2.out.cell c1;clear hb2;go_wp2_with fail
  refine (HW2.out.str ⟨ql.toArray⟩ (by show _ + ql.length≤_; first | omega | (simp only [List.length_append,List.length_cons,List.length_nil]; omega))).mono ?_;rintro e w3 ⟨rfl,hw3,hb3⟩;have HW3:=lh hw3;have HB3:=lh (HB2.out.trans hb3);have x0_3:=HW3.out.cell c0;have x1_3:=HW3.out.cell c1;clear hw3 hb3;go_wp2_with fail
  refine leaves_cons (f:=17) (args:=#[.pointer (some ⟨b,0,none⟩),.int .u8 41]) (by simp) (by simp [go_sem]) ?_;refine (HW3.out.byteD 41 (by first | omega | (simp only [List.length_append,List.length_cons,List.length_nil]; omega)) .returning).mono ?_;rintro e u' w'' ⟨rfl,rfl,hwf,hbf⟩;refine ⟨.tuple #[],by simp [results,Tryz.results37,go_sem],rfl,?_,HB3.out.trans hbf⟩;simpa using hwf
 ·rw [decide_eq_false hp, Y3 (by simp)] at hF ⊢;try simp only [List.length_append, List.length_cons, List.length_nil] at hF
  have HW0:=HW;have HB0:Hid (Below B w w):=lh (Y2 _ _);have x0_0:=HW0.out.cell c0;have x1_0:=HW0.out.cell c1;have HS:Hid (∀ w,Calls Tryz.prog 57 #[.int .i64 (18)] w fun e w'=>e=.returned (.int .i64 (9))∧w'=w):=lh fun w=>by have h:=Zc (18) w; rwa [show Zf (18)=9 by first | assumption | decide] at h
  have hcmp:(9 < need)=False:=by simp; omega
  clear hW HW hp hv;go_enter_defers Tryz.func37,Tryz.ntmps37
  go_wp2_with fail
  refine (HS.out _).mono ?_;rintro e w' ⟨rfl,hw'⟩;rw [hw'];clear hw' w' HS;go_wp2_with fail
  refine (HQ.out _).mono ?_;rintro e w1 ⟨rfl,hb1⟩;have HW1:=lh (HW0.out.keep hb1);have HB1:=lh (HB0.out.trans (hb1.mono HW0.out.sz));have x0_1:=HW1.out.cell c0;have x1_1:=HW1.out.cell c1;clear hb1;go_wp2_with fail
  refine (HW1.out.str ⟨ql.toArray⟩ (by show _ + ql.length≤_; first | omega | (simp only [List.length_append,List.length_cons,List.length_nil]; omega))).mono ?_;rintro e w2 ⟨rfl,hw2,hb2⟩;have HW2:=lh hw2;have HB2:=lh (HB1.out.trans hb2);have x0_2:=HW2.out.cell c0;have x1_2:=HW2.out.cell c1;clear hw2 hb2;go_wp2_with fail
  refine ⟨.tuple #[],by simp [results,Tryz.results37,go_sem],rfl,?_,HB2.out⟩;have hwf:=HW2.out;simpa using hwf
theorem Zcb {w0:World} {Bt:Nat} (a:ATree) (hT:TreeAt w0 Bt a) (h1:a.kind=17) (hn0:0≤a.n) (hn1:a.n≤1000000000) (hP:Pow w0):Ze w0 a:=by
 have c0:=hT.c0;rw [h1] at c0;have c2:w0.cell? ⟨a.b,2,none⟩=some (.int .i64 a.n):=by simp [World.cell?,hT.blkOf]
 have hv:∀ need,Z5 (vP a.tree need)=if decide ((9:Int) < need)=true then 40 :: (Lib.itoa a.n ++ [41]) else Lib.itoa a.n:=fun need=>by
  obtain ⟨ab,av,ak,tx,an,aks⟩:=a;simp only [ATree.kind] at h1;subst h1;exact Z0y _ _ _ _ _ _ (by rw [Zb8,Z8,Z18,List.append_nil]; rfl) 9 (by decide)
 obtain ⟨n,hn⟩:=zX a.n
 rw [← hn] at c2 hn0 hn1;simp only [← hn] at hv;have hq:=fun w (h:Below w0.heap.size w0 w)=>Zdz w n (by omega) (by omega) (hP.below h);obtain ⟨ql,hql⟩:=zX (Lib.itoa n)
 rw [← hql] at hq;simp only [← hql] at hv;have HQ:=lh hq;clear hn hn0 hn1 hql hq hP;intro need B b l w hW hF;unfold Fits at hF;rw [hv] at hF ⊢;have HW:=lh hW;unfold ATree.ptr;by_cases hp:9 < need
 ·rw [decide_eq_true hp, Y5 rfl] at hF ⊢;try simp only [List.length_append, List.length_cons, List.length_nil] at hF
  have HW0:=HW;have HB0:Hid (Below B w w):=lh (Y2 _ _);have x0_0:=HW0.out.cell c0;have x1_0:=HW0.out.cell c2;have HS:Hid (∀ w,Calls Tryz.prog 57 #[.int .i64 (17)] w fun e w'=>e=.returned (.int .i64 (9))∧w'=w):=lh fun w=>by have h:=Zc (17) w; rwa [show Zf (17)=9 by first | assumption | decide] at h
  have hcmp:(9 < need)=True:=by simp; omega
  clear hW HW hp hv;go_enter_defers Tryz.func37,Tryz.ntmps37
  go_wp2_with fail
  refine (HS.out _).mono ?_;rintro e w' ⟨rfl,hw'⟩;rw [hw'];clear hw' w' HS;go_wp2_with fail
  refine (HW0.out.byte 40 (by omega)).mono ?_;rintro e w1 ⟨rfl,hw1,hb1⟩;have HW1:=lh hw1;have HB1:=lh (HB0.out.trans hb1);have x0_1:=HW1.out.cell c0;have x1_1:=HW1.out.cell c2;clear hw1 hb1;go_wp2_with fail
  refine (HQ.out _ HW1.out.bel).mono ?_;rintro e w2 ⟨rfl,hb2⟩;have HW2:=lh (HW1.out.keep hb2);have HB2:=lh (HB1.out.trans (hb2.mono HW1.out.sz));have x0_2:=HW2.out.cell c0;have x1_2:=HW2.out.cell c2;clear hb2;go_wp2_with fail
  refine (HW2.out.str ⟨ql.toArray⟩ (by show _ + ql.length≤_; first | omega | (simp only [List.length_append,List.length_cons,List.length_nil]; omega))).mono ?_;rintro e w3 ⟨rfl,hw3,hb3⟩;have HW3:=lh hw3;have HB3:=lh (HB2.out.trans hb3);have x0_3:=HW3.out.cell c0;have x1_3:=HW3.out.cell c2;clear hw3 hb3;go_wp2_with fail
  refine leaves_cons (f:=17) (args:=#[.pointer (some ⟨b,0,none⟩),.int .u8 41]) (by simp) (by simp [go_sem]) ?_;refine (HW3.out.byteD 41 (by first | omega | (simp only [List.length_append,List.length_cons,List.length_nil]; omega)) .returning).mono ?_;rintro e u' w'' ⟨rfl,rfl,hwf,hbf⟩;refine ⟨.tuple #[],by simp [results,Tryz.results37,go_sem],rfl,?_,HB3.out.trans hbf⟩;simpa using hwf
 ·rw [decide_eq_false hp, Y3 (by simp)] at hF ⊢;try simp only [List.length_append, List.length_cons, List.length_nil] at hF
  have HW0:=HW;have HB0:Hid (Below B w w):=lh (Y2 _ _);have x0_0:=HW0.out.cell c0;have x1_0:=HW0.out.cell c2;have HS:Hid (∀ w,Calls Tryz.prog 57 #[.int .i64 (17)] w fun e w'=>e=.returned (.int .i64 (9))∧w'=w):=lh fun w=>by have h:=Zc (17) w; rwa [show Zf (17)=9 by first | assumption | decide] at h
  have hcmp:(9 < need)=False:=by simp; omega
  clear hW HW hp hv;go_enter_defers Tryz.func37,Tryz.ntmps37
  go_wp2_with fail
  refine (HS.out _).mono ?_;rintro e w' ⟨rfl,hw'⟩;rw [hw'];clear hw' w' HS;go_wp2_with fail
  refine (HQ.out _ HW0.out.bel).mono ?_;rintro e w1 ⟨rfl,hb1⟩;have HW1:=lh (HW0.out.keep hb1);have HB1:=lh (HB0.out.trans (hb1.mono HW0.out.sz));have x0_1:=HW1.out.cell c0;have x1_1:=HW1.out.cell c2;clear hb1;go_wp2_with fail
  refine (HW1.out.str ⟨ql.toArray⟩ (by show _ + ql.length≤_; first | omega | (simp only [List.length_append,List.length_cons,List.length_nil]; omega))).mono ?_;rintro e w2 ⟨rfl,hw2,hb2⟩;have HW2:=lh hw2;have HB2:=lh (HB1.out.trans hb2);have x0_2:=HW2.out.cell c0;have x1_2:=HW2.out.cell c2;clear hw2 hb2;go_wp2_with fail
  refine ⟨.tuple #[],by simp [results,Tryz.results37,go_sem],rfl,?_,HB2.out⟩;have hwf:=HW2.out;simpa using hwf
theorem Zep (f:Bool) (L:List Tree) (x:Tree):lP f (L ++ [x])=lP f L ++ (sepP (f && L.isEmpty) [sg 44,sp] ++ vP x 0):=by
 induction L generalizing f with
 | nil=>rw [List.nil_append,Z3x,Z5o,Z5o]; simp
 | cons y L ih=>rw [List.cons_append,Z3x,Z3x,ih]; simp
theorem Z5b {w:World} {Bt:Nat} {a:ATree} (hT:TreeAt w Bt a):Z75 w a.v a.kids:=by
 obtain ⟨p,cp,hv,hge,hmx⟩:=hT.vOf;refine ⟨p,cp,hv,hge,hmx,fun i x hx=>?_⟩;have hne:a.kids≠[]:=by intro e; rw [e] at hx; cases hx
 obtain ⟨g,cp',h1,h2,h3,h4,h5⟩:=Z0r hT hne;have h6:some a.v=some (.slice (some ⟨g,0,none⟩) a.kids.length cp'):=hT.c3.symm.trans h1;rw [hv] at h6;simp only [Option.some.injEq,Value.slice.injEq] at h6;exact ⟨g,0,h6.1,by rw [Nat.zero_add]; exact h5 i x hx⟩
theorem Zdl {w0:World} (L:List ATree) (hL:∀ x∈L,Ze w0 x) (hlen:L.length≤1000000):Z3f w0 L:=by
 intro o e v B b l w hV hW hF;obtain ⟨p,cp,rfl,hge,hmx,hk⟩:=hV;have HF:=lh hF;have HW:=lh hW;have HK:=lh hk;have HL:=lh hL;obtain ⟨n,hn⟩:=zX L.length
 have HN:=lh hn;rw [← hn] at hge hlen ⊢;unfold maxLen at hmx;have HO:=lh (hW.str o (by omega));clear hW hF hk hL hn;go_enter Tryz.func60,Tryz.ntmps60
 go_wp2_with fail
 refine HO.out.mono ?_;rintro e' w1 ⟨rfl,hw1,hb1⟩;have HW1:=lh hw1;have HB1:=lh hb1;clear hw1 hb1 HO;go_wp2_with fail
 go_loopw [15] (fun i wr=>∃ k:Nat,k≤n∧i=.int .i64 k∧Hid (BW w0 B b (l ++ o.data.toList ++ Z5 (lP true (Zg (L.take k)))) wr)∧Hid (Below B w wr)) (fun i _=>n - (intOf i).toNat)
 case atStart=>exact ⟨0,by omega,rfl,by simpa [Zg,Z5o,Z18] using HW1,HB1⟩
 case round=>
  obtain ⟨k,hkn,rfl,HWk,HBk⟩:=hrel;clear HW1 HB1;by_cases hlt:k < n
  ·obtain ⟨x, hx⟩ : ∃ x, L[k]? = some x := ⟨_, Y6 (by rw [← HN.out]; exact hlt)⟩
   obtain ⟨g,off,rfl,hc⟩:=HK.out k x hx;have cx:=HWk.out.cell hc;have hWx:=(HL.out x (Yd hx)).says 0;have htk:L.take (k + 1)=L.take k ++ [x]:=by rw [List.take_add_one,hx]; rfl
   have hsn:Z5 (lP true (Zg (L.take (k + 1))))=Z5 (lP true (Zg (L.take k))) ++ ((if k=0 then [] else [44,32]) ++ Z5 (vP x.tree 0)):=by
    rw [htk,Z1z,show Zg [x]=[x.tree] from rfl,Zep,Za,Za];congr 2
    have hem:(Zg (L.take k)).isEmpty=decide (k=0):=by
     cases k with
     | zero=>rfl
     | succ k =>
       cases L with
       | nil=>cases hx
       | cons y L=>rfl
    rw [hem];by_cases h0:k=0;·rw [decide_eq_true h0,Y5 h0]; rfl
    ·rw [decide_eq_false h0,Y3 h0]; rfl
   have hpre:(Z5 (lP true (Zg (L.take (k + 1))))).length≤(Z5 (lP true (Zg L))).length:=by
    have:∀ (M N:List ATree) (f:Bool),(Z5 (lP f (Zg M))).length≤(Z5 (lP f (Zg (M ++ N)))).length:=by
     intro M;induction M with
     | nil=>intro N f; rw [show Zg ([]:List ATree)=[] from rfl,Z5o]; simp [Z18]
     | cons y M ih =>
       intro N f;rw [List.cons_append,Zg,Zg,Z3x,Z3x,Za,Za,Za,Za];simp only [List.length_append];have:=ih N false;omega
    have h:=this (L.take (k + 1)) (L.drop (k + 1)) true;rwa [List.take_append_drop] at h
   obtain ⟨P,hP⟩:=zX (Z5 (lP true (Zg (L.take k))))
   obtain ⟨X,hX⟩:=zX (Z5 (vP x.tree 0))
   have hft:=HF.out;rw [hsn,← hP,← hX] at hpre;simp only [List.length_append] at hpre;have hbd:l.length + (o.data.toList.length + (P.length + ((if k=0 then ([]:List UInt8) else [44,32]).length + X.length)))≤140737488355328:=by omega
   have HBD:=lh hbd;have HSN:=lh hsn;have HPX:=lh (And.intro hP hX);rw [← hP] at HWk;rw [← hX] at hWx;have HWX:=lh hWx;unfold ATree.ptr at cx;have hkI:((k:Nat):Int) < (n:Int):=by omega
   clear hc htk hsn hpre hft hbd hP hX hWx hx;by_cases h0:k=0
   ·subst h0;rw [Nat.add_zero] at cx;go_wp2_with fail
    refine (HWX.out B b _ _ HWk.out (by have:=HBD.out; simp only [if_pos,List.length_nil,List.length_append] at this ⊢; omega)).mono ?_;rintro e' w2 ⟨rfl,hw2,hb2⟩;have HW2:=lh hw2;have HB2:=lh (HBk.out.trans hb2);clear hw2 hb2;go_wp2;go_roundw
    case rel=>exact ⟨1,by omega,rfl,lh (by have h:=HW2.out; rw [HSN.out,← HPX.out.1,← HPX.out.2]; simpa using h),HB2⟩
    case measure=>simp [intOf]; omega
   ·have hkp : (0 : Int) < ((k : Nat) : Int) := by omega
    go_wp2_with fail
    refine (HWk.out.str ⟨#[44,32]⟩ (by have:=HBD.out; rw [Y3 h0] at this; simp only [List.length_append,List.length_cons,List.length_nil] at this ⊢; omega)).mono ?_;rintro e' w2 ⟨rfl,hw2,hb2⟩;have cx2:=HWk.out;have HW2:=lh hw2;have HB2:=lh (HBk.out.trans hb2);clear hw2 hb2 cx2;go_wp2_with fail
    refine (HWX.out B b _ _ HW2.out (by have:=HBD.out; rw [Y3 h0] at this; simp only [List.length_append,List.length_cons,List.length_nil] at this ⊢; omega)).mono ?_;rintro e' w3 ⟨rfl,hw3,hb3⟩;have HW3:=lh hw3;have HB3:=lh (HB2.out.trans hb3);clear hw3 hb3;go_wp2;go_roundw
    case rel=>exact ⟨k + 1,by omega,rfl,lh (by have h:=HW3.out; rw [HSN.out,← HPX.out.1,← HPX.out.2,Y3 h0]; simpa using h),HB3⟩
    case measure=>simp [intOf]; omega
  ·have hkn2 : k = n := by omega
   subst hkn2;have HWn:Hid (BW w0 B b (l ++ o.data.toList ++ Z5 (lP true (Zg L))) wr):=lh (by
    have h:=HWk.out;rwa [Ye (by rw [HN.out]; exact Y0 _)] at h)
   have HE:=lh (HWn.out.str e (by have:=HF.out; simp only [List.length_append] at this ⊢; omega));clear HWk;go_wp2_with fail
   refine HE.out.mono ?_;rintro e' w2 ⟨rfl,hw2,hb2⟩;have HW2:=lh hw2;have HB2:=lh (HBk.out.trans hb2);clear hw2 hb2 HE;go_wp2;first | go_end0 | refine bodyPost_ret (results_none rfl _ _ _) rfl ?_
   exact ⟨rfl,by simpa using HW2.out,HB2.out⟩
end Go.Proofs.YtjcgkdfeplbajaaGreatDoor
