/- Package tree: write: statements. -/
import Derived.Test.YtjcgkdfeplbajaaGreatDoorJ12
namespace Go.Proofs.YtjcgkdfeplbajaaGreatDoor
open Go Go.RowKit
set_option maxRecDepth 100000
set_option maxHeartbeats 20000000
set_option linter.unusedVariables false
set_option linter.unusedSimpArgs false
def hdsL:List ByteArray:=[⟨#[118,97,114,32]⟩,⟨#[108,101,116,32]⟩,⟨#[99,111,110,115,116,32]⟩,⟨#[]⟩,⟨#[]⟩,⟨#[105,102,32]⟩,⟨#[119,104,105,108,101,32]⟩,⟨#[119,105,116,104,32]⟩,⟨#[114,101,116,117,114,110]⟩,⟨#[116,104,114,111,119]⟩]
def Z28 (w:World):Prop:=∀ j s,hdsL[j]?=some s→w.cell? ⟨1,j,none⟩=some (.string s)
theorem Zde {w0:World} {Bt:Nat} (a:ATree) (hT:TreeAt w0 Bt a) (h1:a.kind=2) (hks:a.kids=[]) (hH:Z28 w0) (hsz:a.text.size≤1000000):Z12 w0 a:=by
 have c0:=hT.c0;rw [h1] at c0;have c1:=hT.c1;obtain ⟨pp,cp,hpv,hge,hmx⟩:=hT.vOf;have c3:=hT.c3;rw [hpv,hks] at c3;simp only [List.length_nil] at c3;have ch:=hH 0 ⟨#[118,97,114,32]⟩ rfl;have hv:Z5 (sP a.tree)=([118,97,114,32] ++ a.text.data.toList) ++ [59]:=by
  obtain ⟨ab,av,ak,tx,an,aks⟩:=a;simp only [ATree.kind] at h1;try simp only [ATree.kids] at hks
  try simp only [ATree.text]
  subst h1;subst hks;simp only [Zg,ATree.tree]; rw [Z83 (by omega),Za,Z8,List.append_assoc]; rfl
 obtain ⟨tx,htx⟩:=zX a.text
 rw [← htx] at c1 hsz;obtain ⟨sx,hsx⟩:∃ sx:ByteArray,sx=⟨#[118,97,114,32]⟩ ++ tx:=⟨_,rfl⟩
 have hsl:[118,97,114,32] ++ tx.data.toList=sx.data.toList:=by rw [hsx]; simp [ByteArray.data_append]
 simp only [← htx,hsl] at hv;have HSX:=lh hsx;have q1:¬ 9223372036854775807 < 4 + tx.size:=by omega
 have q2:4 + tx.size≤2000000:=by omega
 have hwr:IntKind.i64.wrap 0=0:=by decide
 clear htx hsx hsl;clear hT h1 hks hpv hge;intro B b l w hW hF;unfold Fits at hF;rw [hv] at hF ⊢;simp only [List.length_append,List.length_cons,List.length_nil] at hF;have HW0:=lh hW;have HB0:Hid (Below B w w):=lh (Y2 _ _);unfold ATree.ptr;have x0_0:=HW0.out.cell c0;have x1_0:=HW0.out.cell c1;have x2_0:=HW0.out.cell ch;have x3_0:=HW0.out.cell c3;clear hW hv;go_enter Tryz.func16,Tryz.ntmps16
 go_wp2_with fail
 refine Z4 [(true,0),(true,1),(true,2),(true,3),(true,4),(true,5),(true,6),(true,7),(true,8),(true,9),(true,10),(true,11),(true,12)] [13] (fun W=>W.cell? ⟨a.b,0,none⟩=some (.int .i64 2)∧W.cell? ⟨a.b,1,none⟩=some (.string tx)∧W.cell? ⟨1,0,none⟩=some (.string ⟨#[118,97,114,32]⟩)) (by kernel_rfl) (by kernel_rfl) (fun _ _ d _ _ h=>by cases d <;> exact h) ⟨x0_0,x1_0,x2_0⟩ (fun hS0=>?_);simp only [Zj,zD,zE,zF,zG,zH,zI]
 iterate 13
  first
   | (refine Z7 ?_ (by rfl) (fun w' hS'=>?_) ?_; rotate_left; (obtain ⟨s0,s1,s2⟩:=hS'; go_simp; first | done | with_reducible rfl); simp only [Act.put,zA,zB,zC])
   | (refine Z6 (by rfl) ?_; simp only [Act.put,zA,zB,zC])
 refine Zb ?_;go_wp2_with fail
 have HW0:Hid (BW w0 B b l w.drew):=lh (HW0.out.keep ((Y2 _ _).drew));have HB0:Hid (Below B w w.drew):=lh (HB0.out.drew);rw [← HSX.out];refine (HW0.out.str sx (by first | omega | (simp only [List.length_append,List.length_cons,List.length_nil]; omega))).mono ?_;rintro e w1 ⟨rfl,hw1,hb1⟩;have HW1:=lh hw1;have HB1:=lh (HB0.out.trans hb1);have x0_1:=HW1.out.cell c0;have x1_1:=HW1.out.cell c1;have x2_1:=HW1.out.cell ch;have x3_1:=HW1.out.cell c3;clear hw1 hb1;go_wp2_with fail
 refine (HW1.out.byte 59 (by first | omega | (simp only [List.length_append,List.length_cons,List.length_nil]; omega))).mono ?_;rintro e w2 ⟨rfl,hw2,hb2⟩;have HW2:=lh hw2;have HB2:=lh (HB1.out.trans hb2);have x0_2:=HW2.out.cell c0;have x1_2:=HW2.out.cell c1;have x2_2:=HW2.out.cell ch;have x3_2:=HW2.out.cell c3;clear hw2 hb2;go_wp2_with fail
 first | go_end0 | refine bodyPost_ret (results_none rfl _ _ _) rfl ?_
 exact ⟨rfl,by simpa using HW2.out,HB2.out⟩
theorem Zb0 {w0:World} {Bt:Nat} (a:ATree) (hT:TreeAt w0 Bt a) (h1:a.kind=2) (x:ATree) (hks:a.kids=[x]) (hx:Ze w0 x) (hH:Z28 w0) (hsz:a.text.size≤1000000):Z12 w0 a:=by
 have c0:=hT.c0;rw [h1] at c0;have c1:=hT.c1;obtain ⟨g,cp,c3',hge,hmx,hgl,hk⟩:=Z0r hT (by rw [hks]; simp);have c3:w0.cell? ⟨a.b,3,none⟩=some (.slice (some ⟨g,0,none⟩) 1 cp):=by rw [hks] at c3'; exact c3'
 have hge2:1≤cp:=by rw [hks] at hge; exact hge
 unfold maxLen at hmx;have k0:=hk 0 x (by rw [hks]; rfl);unfold ATree.ptr at k0;have ch:=hH 0 ⟨#[118,97,114,32]⟩ rfl;have hv:Z5 (sP a.tree)=([118,97,114,32] ++ a.text.data.toList) ++ ([32,61,32] ++ (Z5 (vP x.tree 0) ++ [59])):=by
  obtain ⟨ab,av,ak,tx,an,aks⟩:=a;simp only [ATree.kind] at h1;try simp only [ATree.kids] at hks
  try simp only [ATree.text]
  subst h1;subst hks;simp only [Zg,ATree.tree]; rw [Z77 (by omega),Za,Z8,Z8,Z8,Z8,Za,List.append_assoc]; rfl
 obtain ⟨tx,htx⟩:=zX a.text
 rw [← htx] at c1 hsz;obtain ⟨sx,hsx⟩:∃ sx:ByteArray,sx=⟨#[118,97,114,32]⟩ ++ tx:=⟨_,rfl⟩
 have hsl:[118,97,114,32] ++ tx.data.toList=sx.data.toList:=by rw [hsx]; simp [ByteArray.data_append]
 simp only [← htx,hsl] at hv;have HSX:=lh hsx;have q1:¬ 9223372036854775807 < 4 + tx.size:=by omega
 have q2:4 + tx.size≤2000000:=by omega
 have hwr:IntKind.i64.wrap 0=0:=by decide
 clear htx hsx hsl;have hmx:=hx.says 0;obtain ⟨mx,emx⟩:=zX (Z5 (vP x.tree 0))
 rw [← emx] at hmx;simp only [← emx] at hv;have Hmx:=lh hmx;clear emx hmx;clear hT h1 hks c3' hge;intro B b l w hW hF;unfold Fits at hF;rw [hv] at hF ⊢;simp only [List.length_append,List.length_cons,List.length_nil] at hF;have HW0:=lh hW;have HB0:Hid (Below B w w):=lh (Y2 _ _);unfold ATree.ptr;have x0_0:=HW0.out.cell c0;have x1_0:=HW0.out.cell c1;have x2_0:=HW0.out.cell ch;have x3_0:=HW0.out.cell c3;have x4_0:=HW0.out.cell k0;clear hW hv;go_enter Tryz.func16,Tryz.ntmps16
 go_wp2_with fail
 refine Z4 [(true,0),(true,1),(true,2),(true,3),(true,4),(true,5),(true,6),(true,7),(true,8),(true,9),(true,10),(true,11),(true,12)] [13] (fun W=>W.cell? ⟨a.b,0,none⟩=some (.int .i64 2)∧W.cell? ⟨a.b,1,none⟩=some (.string tx)∧W.cell? ⟨1,0,none⟩=some (.string ⟨#[118,97,114,32]⟩)) (by kernel_rfl) (by kernel_rfl) (fun _ _ d _ _ h=>by cases d <;> exact h) ⟨x0_0,x1_0,x2_0⟩ (fun hS0=>?_);simp only [Zj,zD,zE,zF,zG,zH,zI]
 iterate 13
  first
   | (refine Z7 ?_ (by rfl) (fun w' hS'=>?_) ?_; rotate_left; (obtain ⟨s0,s1,s2⟩:=hS'; go_simp; first | done | with_reducible rfl); simp only [Act.put,zA,zB,zC])
   | (refine Z6 (by rfl) ?_; simp only [Act.put,zA,zB,zC])
 refine Zb ?_;go_wp2_with fail
 have HW0:Hid (BW w0 B b l w.drew):=lh (HW0.out.keep ((Y2 _ _).drew));have HB0:Hid (Below B w w.drew):=lh (HB0.out.drew);rw [← HSX.out];refine (HW0.out.str sx (by first | omega | (simp only [List.length_append,List.length_cons,List.length_nil]; omega))).mono ?_;rintro e w1 ⟨rfl,hw1,hb1⟩;have HW1:=lh hw1;have HB1:=lh (HB0.out.trans hb1);have x0_1:=HW1.out.cell c0;have x1_1:=HW1.out.cell c1;have x2_1:=HW1.out.cell ch;have x3_1:=HW1.out.cell c3;have x4_1:=HW1.out.cell k0;clear hw1 hb1;go_wp2_with fail
 refine (HW1.out.str ⟨#[32,61,32]⟩ (by first | omega | (simp only [List.length_append,List.length_cons,List.length_nil]; omega))).mono ?_;rintro e w2 ⟨rfl,hw2,hb2⟩;have HW2:=lh hw2;have HB2:=lh (HB1.out.trans hb2);have x0_2:=HW2.out.cell c0;have x1_2:=HW2.out.cell c1;have x2_2:=HW2.out.cell ch;have x3_2:=HW2.out.cell c3;have x4_2:=HW2.out.cell k0;clear hw2 hb2;go_wp2_with fail
 refine (Hmx.out B b _ _ HW2.out (by first | omega | (simp only [List.length_append,List.length_cons,List.length_nil]; omega))).mono ?_;rintro e w3 ⟨rfl,hw3,hb3⟩;have HW3:=lh hw3;have HB3:=lh (HB2.out.trans hb3);have x0_3:=HW3.out.cell c0;have x1_3:=HW3.out.cell c1;have x2_3:=HW3.out.cell ch;have x3_3:=HW3.out.cell c3;have x4_3:=HW3.out.cell k0;clear hw3 hb3;go_wp2_with fail
 refine (HW3.out.byte 59 (by first | omega | (simp only [List.length_append,List.length_cons,List.length_nil]; omega))).mono ?_;rintro e w4 ⟨rfl,hw4,hb4⟩;have HW4:=lh hw4;have HB4:=lh (HB3.out.trans hb4);have x0_4:=HW4.out.cell c0;have x1_4:=HW4.out.cell c1;have x2_4:=HW4.out.cell ch;have x3_4:=HW4.out.cell c3;have x4_4:=HW4.out.cell k0;clear hw4 hb4;go_wp2_with fail
 first | go_end0 | refine bodyPost_ret (results_none rfl _ _ _) rfl ?_
 exact ⟨rfl,by simpa using HW4.out,HB4.out⟩
theorem Zd2 {w0:World} {Bt:Nat} (a:ATree) (hT:TreeAt w0 Bt a) (h1:a.kind=3) (hks:a.kids=[]) (hH:Z28 w0) (hsz:a.text.size≤1000000):Z12 w0 a:=by
 have c0:=hT.c0;rw [h1] at c0;have c1:=hT.c1;obtain ⟨pp,cp,hpv,hge,hmx⟩:=hT.vOf;have c3:=hT.c3;rw [hpv,hks] at c3;simp only [List.length_nil] at c3;have ch:=hH 1 ⟨#[108,101,116,32]⟩ rfl;have hv:Z5 (sP a.tree)=([108,101,116,32] ++ a.text.data.toList) ++ [59]:=by
  obtain ⟨ab,av,ak,tx,an,aks⟩:=a;simp only [ATree.kind] at h1;try simp only [ATree.kids] at hks
  try simp only [ATree.text]
  subst h1;subst hks;simp only [Zg,ATree.tree]; rw [Z83 (by omega),Za,Z8,List.append_assoc]; rfl
 obtain ⟨tx,htx⟩:=zX a.text
 rw [← htx] at c1 hsz;obtain ⟨sx,hsx⟩:∃ sx:ByteArray,sx=⟨#[108,101,116,32]⟩ ++ tx:=⟨_,rfl⟩
 have hsl:[108,101,116,32] ++ tx.data.toList=sx.data.toList:=by rw [hsx]; simp [ByteArray.data_append]
 simp only [← htx,hsl] at hv;have HSX:=lh hsx;have q1:¬ 9223372036854775807 < 4 + tx.size:=by omega
 have q2:4 + tx.size≤2000000:=by omega
 have hwr:IntKind.i64.wrap 1=1:=by decide
 clear htx hsx hsl;clear hT h1 hks hpv hge;intro B b l w hW hF;unfold Fits at hF;rw [hv] at hF ⊢;simp only [List.length_append,List.length_cons,List.length_nil] at hF;have HW0:=lh hW;have HB0:Hid (Below B w w):=lh (Y2 _ _);unfold ATree.ptr;have x0_0:=HW0.out.cell c0;have x1_0:=HW0.out.cell c1;have x2_0:=HW0.out.cell ch;have x3_0:=HW0.out.cell c3;clear hW hv;go_enter Tryz.func16,Tryz.ntmps16
 go_wp2_with fail
 refine Z4 [(true,0),(true,1),(true,2),(true,3),(true,4),(true,5),(true,6),(true,7),(true,8),(true,9),(true,10),(true,11),(true,12)] [13] (fun W=>W.cell? ⟨a.b,0,none⟩=some (.int .i64 3)∧W.cell? ⟨a.b,1,none⟩=some (.string tx)∧W.cell? ⟨1,1,none⟩=some (.string ⟨#[108,101,116,32]⟩)) (by kernel_rfl) (by kernel_rfl) (fun _ _ d _ _ h=>by cases d <;> exact h) ⟨x0_0,x1_0,x2_0⟩ (fun hS0=>?_);simp only [Zj,zD,zE,zF,zG,zH,zI]
 iterate 13
  first
   | (refine Z7 ?_ (by rfl) (fun w' hS'=>?_) ?_; rotate_left; (obtain ⟨s0,s1,s2⟩:=hS'; go_simp; first | done | with_reducible rfl); simp only [Act.put,zA,zB,zC])
   | (refine Z6 (by rfl) ?_; simp only [Act.put,zA,zB,zC])
 refine Zb ?_;go_wp2_with fail
 have HW0:Hid (BW w0 B b l w.drew):=lh (HW0.out.keep ((Y2 _ _).drew));have HB0:Hid (Below B w w.drew):=lh (HB0.out.drew);rw [← HSX.out];refine (HW0.out.str sx (by first | omega | (simp only [List.length_append,List.length_cons,List.length_nil]; omega))).mono ?_;rintro e w1 ⟨rfl,hw1,hb1⟩;have HW1:=lh hw1;have HB1:=lh (HB0.out.trans hb1);have x0_1:=HW1.out.cell c0;have x1_1:=HW1.out.cell c1;have x2_1:=HW1.out.cell ch;have x3_1:=HW1.out.cell c3;clear hw1 hb1;go_wp2_with fail
 refine (HW1.out.byte 59 (by first | omega | (simp only [List.length_append,List.length_cons,List.length_nil]; omega))).mono ?_;rintro e w2 ⟨rfl,hw2,hb2⟩;have HW2:=lh hw2;have HB2:=lh (HB1.out.trans hb2);have x0_2:=HW2.out.cell c0;have x1_2:=HW2.out.cell c1;have x2_2:=HW2.out.cell ch;have x3_2:=HW2.out.cell c3;clear hw2 hb2;go_wp2_with fail
 first | go_end0 | refine bodyPost_ret (results_none rfl _ _ _) rfl ?_
 exact ⟨rfl,by simpa using HW2.out,HB2.out⟩
theorem Zbx {w0:World} {Bt:Nat} (a:ATree) (hT:TreeAt w0 Bt a) (h1:a.kind=3) (x:ATree) (hks:a.kids=[x]) (hx:Ze w0 x) (hH:Z28 w0) (hsz:a.text.size≤1000000):Z12 w0 a:=by
 have c0:=hT.c0;rw [h1] at c0;have c1:=hT.c1;obtain ⟨g,cp,c3',hge,hmx,hgl,hk⟩:=Z0r hT (by rw [hks]; simp);have c3:w0.cell? ⟨a.b,3,none⟩=some (.slice (some ⟨g,0,none⟩) 1 cp):=by rw [hks] at c3'; exact c3'
 have hge2:1≤cp:=by rw [hks] at hge; exact hge
 unfold maxLen at hmx;have k0:=hk 0 x (by rw [hks]; rfl);unfold ATree.ptr at k0;have ch:=hH 1 ⟨#[108,101,116,32]⟩ rfl;have hv:Z5 (sP a.tree)=([108,101,116,32] ++ a.text.data.toList) ++ ([32,61,32] ++ (Z5 (vP x.tree 0) ++ [59])):=by
  obtain ⟨ab,av,ak,tx,an,aks⟩:=a;simp only [ATree.kind] at h1;try simp only [ATree.kids] at hks
  try simp only [ATree.text]
  subst h1;subst hks;simp only [Zg,ATree.tree]; rw [Z77 (by omega),Za,Z8,Z8,Z8,Z8,Za,List.append_assoc]; rfl
 obtain ⟨tx,htx⟩:=zX a.text
 rw [← htx] at c1 hsz;obtain ⟨sx,hsx⟩:∃ sx:ByteArray,sx=⟨#[108,101,116,32]⟩ ++ tx:=⟨_,rfl⟩
 have hsl:[108,101,116,32] ++ tx.data.toList=sx.data.toList:=by rw [hsx]; simp [ByteArray.data_append]
 simp only [← htx,hsl] at hv;have HSX:=lh hsx;have q1:¬ 9223372036854775807 < 4 + tx.size:=by omega
 have q2:4 + tx.size≤2000000:=by omega
 have hwr:IntKind.i64.wrap 1=1:=by decide
 clear htx hsx hsl;have hmx:=hx.says 0;obtain ⟨mx,emx⟩:=zX (Z5 (vP x.tree 0))
 rw [← emx] at hmx;simp only [← emx] at hv;have Hmx:=lh hmx;clear emx hmx;clear hT h1 hks c3' hge;intro B b l w hW hF;unfold Fits at hF;rw [hv] at hF ⊢;simp only [List.length_append,List.length_cons,List.length_nil] at hF;have HW0:=lh hW;have HB0:Hid (Below B w w):=lh (Y2 _ _);unfold ATree.ptr;have x0_0:=HW0.out.cell c0;have x1_0:=HW0.out.cell c1;have x2_0:=HW0.out.cell ch;have x3_0:=HW0.out.cell c3;have x4_0:=HW0.out.cell k0;clear hW hv;go_enter Tryz.func16,Tryz.ntmps16
 go_wp2_with fail
 refine Z4 [(true,0),(true,1),(true,2),(true,3),(true,4),(true,5),(true,6),(true,7),(true,8),(true,9),(true,10),(true,11),(true,12)] [13] (fun W=>W.cell? ⟨a.b,0,none⟩=some (.int .i64 3)∧W.cell? ⟨a.b,1,none⟩=some (.string tx)∧W.cell? ⟨1,1,none⟩=some (.string ⟨#[108,101,116,32]⟩)) (by kernel_rfl) (by kernel_rfl) (fun _ _ d _ _ h=>by cases d <;> exact h) ⟨x0_0,x1_0,x2_0⟩ (fun hS0=>?_);simp only [Zj,zD,zE,zF,zG,zH,zI]
 iterate 13
  first
   | (refine Z7 ?_ (by rfl) (fun w' hS'=>?_) ?_; rotate_left; (obtain ⟨s0,s1,s2⟩:=hS'; go_simp; first | done | with_reducible rfl); simp only [Act.put,zA,zB,zC])
   | (refine Z6 (by rfl) ?_; simp only [Act.put,zA,zB,zC])
 refine Zb ?_;go_wp2_with fail
 have HW0:Hid (BW w0 B b l w.drew):=lh (HW0.out.keep ((Y2 _ _).drew));have HB0:Hid (Below B w w.drew):=lh (HB0.out.drew);rw [← HSX.out];refine (HW0.out.str sx (by first | omega | (simp only [List.length_append,List.length_cons,List.length_nil]; omega))).mono ?_;rintro e w1 ⟨rfl,hw1,hb1⟩;have HW1:=lh hw1;have HB1:=lh (HB0.out.trans hb1);have x0_1:=HW1.out.cell c0;have x1_1:=HW1.out.cell c1;have x2_1:=HW1.out.cell ch;have x3_1:=HW1.out.cell c3;have x4_1:=HW1.out.cell k0;clear hw1 hb1;go_wp2_with fail
 refine (HW1.out.str ⟨#[32,61,32]⟩ (by first | omega | (simp only [List.length_append,List.length_cons,List.length_nil]; omega))).mono ?_;rintro e w2 ⟨rfl,hw2,hb2⟩;have HW2:=lh hw2;have HB2:=lh (HB1.out.trans hb2);have x0_2:=HW2.out.cell c0;have x1_2:=HW2.out.cell c1;have x2_2:=HW2.out.cell ch;have x3_2:=HW2.out.cell c3;have x4_2:=HW2.out.cell k0;clear hw2 hb2;go_wp2_with fail
 refine (Hmx.out B b _ _ HW2.out (by first | omega | (simp only [List.length_append,List.length_cons,List.length_nil]; omega))).mono ?_;rintro e w3 ⟨rfl,hw3,hb3⟩;have HW3:=lh hw3;have HB3:=lh (HB2.out.trans hb3);have x0_3:=HW3.out.cell c0;have x1_3:=HW3.out.cell c1;have x2_3:=HW3.out.cell ch;have x3_3:=HW3.out.cell c3;have x4_3:=HW3.out.cell k0;clear hw3 hb3;go_wp2_with fail
 refine (HW3.out.byte 59 (by first | omega | (simp only [List.length_append,List.length_cons,List.length_nil]; omega))).mono ?_;rintro e w4 ⟨rfl,hw4,hb4⟩;have HW4:=lh hw4;have HB4:=lh (HB3.out.trans hb4);have x0_4:=HW4.out.cell c0;have x1_4:=HW4.out.cell c1;have x2_4:=HW4.out.cell ch;have x3_4:=HW4.out.cell c3;have x4_4:=HW4.out.cell k0;clear hw4 hb4;go_wp2_with fail
 first | go_end0 | refine bodyPost_ret (results_none rfl _ _ _) rfl ?_
 exact ⟨rfl,by simpa using HW4.out,HB4.out⟩
theorem Zbg {w0:World} {Bt:Nat} (a:ATree) (hT:TreeAt w0 Bt a) (h1:a.kind=4) (x:ATree) (hks:a.kids=[x]) (hx:Ze w0 x) (hH:Z28 w0) (hsz:a.text.size≤1000000):Z12 w0 a:=by
 have c0:=hT.c0;rw [h1] at c0;have c1:=hT.c1;obtain ⟨g,cp,c3',hge,hmx,hgl,hk⟩:=Z0r hT (by rw [hks]; simp);have c3:w0.cell? ⟨a.b,3,none⟩=some (.slice (some ⟨g,0,none⟩) 1 cp):=by rw [hks] at c3'; exact c3'
 have hge2:1≤cp:=by rw [hks] at hge; exact hge
 unfold maxLen at hmx;have k0:=hk 0 x (by rw [hks]; rfl);unfold ATree.ptr at k0;have ch:=hH 2 ⟨#[99,111,110,115,116,32]⟩ rfl;have hv:Z5 (sP a.tree)=([99,111,110,115,116,32] ++ a.text.data.toList) ++ ([32,61,32] ++ (Z5 (vP x.tree 0) ++ [59])):=by
  obtain ⟨ab,av,ak,tx,an,aks⟩:=a;simp only [ATree.kind] at h1;try simp only [ATree.kids] at hks
  try simp only [ATree.text]
  subst h1;subst hks;simp only [Zg,ATree.tree]; rw [Z77 (by omega),Za,Z8,Z8,Z8,Z8,Za,List.append_assoc]; rfl
 obtain ⟨tx,htx⟩:=zX a.text
 rw [← htx] at c1 hsz;obtain ⟨sx,hsx⟩:∃ sx:ByteArray,sx=⟨#[99,111,110,115,116,32]⟩ ++ tx:=⟨_,rfl⟩
 have hsl:[99,111,110,115,116,32] ++ tx.data.toList=sx.data.toList:=by rw [hsx]; simp [ByteArray.data_append]
 simp only [← htx,hsl] at hv;have HSX:=lh hsx;have q1:¬ 9223372036854775807 < 6 + tx.size:=by omega
 have q2:6 + tx.size≤2000000:=by omega
 have hwr:IntKind.i64.wrap 2=2:=by decide
 clear htx hsx hsl;have hmx:=hx.says 0;obtain ⟨mx,emx⟩:=zX (Z5 (vP x.tree 0))
 rw [← emx] at hmx;simp only [← emx] at hv;have Hmx:=lh hmx;clear emx hmx;clear hT h1 hks c3' hge;intro B b l w hW hF;unfold Fits at hF;rw [hv] at hF ⊢;simp only [List.length_append,List.length_cons,List.length_nil] at hF;have HW0:=lh hW;have HB0:Hid (Below B w w):=lh (Y2 _ _);unfold ATree.ptr;have x0_0:=HW0.out.cell c0;have x1_0:=HW0.out.cell c1;have x2_0:=HW0.out.cell ch;have x3_0:=HW0.out.cell c3;have x4_0:=HW0.out.cell k0;clear hW hv;go_enter Tryz.func16,Tryz.ntmps16
 go_wp2_with fail
 refine Z4 [(true,0),(true,1),(true,2),(true,3),(true,4),(true,5),(true,6),(true,7),(true,8),(true,9),(true,10),(true,11),(true,12)] [13] (fun W=>W.cell? ⟨a.b,0,none⟩=some (.int .i64 4)∧W.cell? ⟨a.b,1,none⟩=some (.string tx)∧W.cell? ⟨1,2,none⟩=some (.string ⟨#[99,111,110,115,116,32]⟩)) (by kernel_rfl) (by kernel_rfl) (fun _ _ d _ _ h=>by cases d <;> exact h) ⟨x0_0,x1_0,x2_0⟩ (fun hS0=>?_);simp only [Zj,zD,zE,zF,zG,zH,zI]
 iterate 13
  first
   | (refine Z7 ?_ (by rfl) (fun w' hS'=>?_) ?_; rotate_left; (obtain ⟨s0,s1,s2⟩:=hS'; go_simp; first | done | with_reducible rfl); simp only [Act.put,zA,zB,zC])
   | (refine Z6 (by rfl) ?_; simp only [Act.put,zA,zB,zC])
 refine Zb ?_;go_wp2_with fail
 have HW0:Hid (BW w0 B b l w.drew):=lh (HW0.out.keep ((Y2 _ _).drew));have HB0:Hid (Below B w w.drew):=lh (HB0.out.drew);rw [← HSX.out];refine (HW0.out.str sx (by first | omega | (simp only [List.length_append,List.length_cons,List.length_nil]; omega))).mono ?_;rintro e w1 ⟨rfl,hw1,hb1⟩;have HW1:=lh hw1;have HB1:=lh (HB0.out.trans hb1);have x0_1:=HW1.out.cell c0;have x1_1:=HW1.out.cell c1;have x2_1:=HW1.out.cell ch;have x3_1:=HW1.out.cell c3;have x4_1:=HW1.out.cell k0;clear hw1 hb1;go_wp2_with fail
 refine (HW1.out.str ⟨#[32,61,32]⟩ (by first | omega | (simp only [List.length_append,List.length_cons,List.length_nil]; omega))).mono ?_;rintro e w2 ⟨rfl,hw2,hb2⟩;have HW2:=lh hw2;have HB2:=lh (HB1.out.trans hb2);have x0_2:=HW2.out.cell c0;have x1_2:=HW2.out.cell c1;have x2_2:=HW2.out.cell ch;have x3_2:=HW2.out.cell c3;have x4_2:=HW2.out.cell k0;clear hw2 hb2;go_wp2_with fail
 refine (Hmx.out B b _ _ HW2.out (by first | omega | (simp only [List.length_append,List.length_cons,List.length_nil]; omega))).mono ?_;rintro e w3 ⟨rfl,hw3,hb3⟩;have HW3:=lh hw3;have HB3:=lh (HB2.out.trans hb3);have x0_3:=HW3.out.cell c0;have x1_3:=HW3.out.cell c1;have x2_3:=HW3.out.cell ch;have x3_3:=HW3.out.cell c3;have x4_3:=HW3.out.cell k0;clear hw3 hb3;go_wp2_with fail
 refine (HW3.out.byte 59 (by first | omega | (simp only [List.length_append,List.length_cons,List.length_nil]; omega))).mono ?_;rintro e w4 ⟨rfl,hw4,hb4⟩;have HW4:=lh hw4;have HB4:=lh (HB3.out.trans hb4);have x0_4:=HW4.out.cell c0;have x1_4:=HW4.out.cell c1;have x2_4:=HW4.out.cell ch;have x3_4:=HW4.out.cell c3;have x4_4:=HW4.out.cell k0;clear hw4 hb4;go_wp2_with fail
 first | go_end0 | refine bodyPost_ret (results_none rfl _ _ _) rfl ?_
 exact ⟨rfl,by simpa using HW4.out,HB4.out⟩
theorem Zex {w0:World} {Bt:Nat} (a:ATree) (hT:TreeAt w0 Bt a) (h1:a.kind=7) (x y:ATree) (hks:a.kids=[x,y]) (hx:Ze w0 x) (hy:Z12 w0 y) (hH:Z28 w0):Z12 w0 a:=by
 have c0:=hT.c0;rw [h1] at c0;have c1:=hT.c1;obtain ⟨g,cp,c3',hge,hmx,hgl,hk⟩:=Z0r hT (by rw [hks]; simp);have c3:w0.cell? ⟨a.b,3,none⟩=some (.slice (some ⟨g,0,none⟩) 2 cp):=by rw [hks] at c3'; exact c3'
 have hge2:2≤cp:=by rw [hks] at hge; exact hge
 unfold maxLen at hmx;have k0:=hk 0 x (by rw [hks]; rfl);have k1:=hk 1 y (by rw [hks]; rfl);unfold ATree.ptr at k0 k1;have ch:=hH 5 ⟨#[105,102,32]⟩ rfl;have hv:Z5 (sP a.tree)=[105,102,32,40] ++ (Z5 (vP x.tree 0) ++ ([41,32] ++ Z5 (sP y.tree))):=by
  obtain ⟨ab,av,ak,tx,an,aks⟩:=a;simp only [ATree.kind] at h1;try simp only [ATree.kids] at hks
  try simp only [ATree.text]
  subst h1;subst hks;simp only [Zg,ATree.tree]; rw [Zc8 (by omega),Za,Z8,Za,Z8,Z8]; rfl
 have hmx:=hx.says 0;obtain ⟨mx,emx⟩:=zX (Z5 (vP x.tree 0))
 rw [← emx] at hmx;simp only [← emx] at hv;have Hmx:=lh hmx;clear emx hmx;have hmy:=hy.says;obtain ⟨my,emy⟩:=zX (Z5 (sP y.tree))
 rw [← emy] at hmy;simp only [← emy] at hv;have Hmy:=lh hmy;clear emy hmy;clear hT h1 hks c3' hge;intro B b l w hW hF;unfold Fits at hF;rw [hv] at hF ⊢;simp only [List.length_append,List.length_cons,List.length_nil] at hF;have HW0:=lh hW;have HB0:Hid (Below B w w):=lh (Y2 _ _);unfold ATree.ptr;have x0_0:=HW0.out.cell c0;have x1_0:=HW0.out.cell c3;have x2_0:=HW0.out.cell k0;have x3_0:=HW0.out.cell k1;have x4_0:=HW0.out.cell ch;clear hW hv;go_enter Tryz.func16,Tryz.ntmps16
 go_wp2_with fail
 refine (HW0.out.str ⟨#[105,102,32,40]⟩ (by first | omega | (simp only [List.length_append,List.length_cons,List.length_nil]; omega))).mono ?_;rintro e w1 ⟨rfl,hw1,hb1⟩;have HW1:=lh hw1;have HB1:=lh (HB0.out.trans hb1);have x0_1:=HW1.out.cell c0;have x1_1:=HW1.out.cell c3;have x2_1:=HW1.out.cell k0;have x3_1:=HW1.out.cell k1;have x4_1:=HW1.out.cell ch;clear hw1 hb1;go_wp2_with fail
 refine (Hmx.out B b _ _ HW1.out (by first | omega | (simp only [List.length_append,List.length_cons,List.length_nil]; omega))).mono ?_;rintro e w2 ⟨rfl,hw2,hb2⟩;have HW2:=lh hw2;have HB2:=lh (HB1.out.trans hb2);have x0_2:=HW2.out.cell c0;have x1_2:=HW2.out.cell c3;have x2_2:=HW2.out.cell k0;have x3_2:=HW2.out.cell k1;have x4_2:=HW2.out.cell ch;clear hw2 hb2;go_wp2_with fail
 refine (HW2.out.str ⟨#[41,32]⟩ (by first | omega | (simp only [List.length_append,List.length_cons,List.length_nil]; omega))).mono ?_;rintro e w3 ⟨rfl,hw3,hb3⟩;have HW3:=lh hw3;have HB3:=lh (HB2.out.trans hb3);have x0_3:=HW3.out.cell c0;have x1_3:=HW3.out.cell c3;have x2_3:=HW3.out.cell k0;have x3_3:=HW3.out.cell k1;have x4_3:=HW3.out.cell ch;clear hw3 hb3;go_wp2_with fail
 refine (Hmy.out B b _ _ HW3.out (by first | omega | (simp only [List.length_append,List.length_cons,List.length_nil]; omega))).mono ?_;rintro e w4 ⟨rfl,hw4,hb4⟩;have HW4:=lh hw4;have HB4:=lh (HB3.out.trans hb4);have x0_4:=HW4.out.cell c0;have x1_4:=HW4.out.cell c3;have x2_4:=HW4.out.cell k0;have x3_4:=HW4.out.cell k1;have x4_4:=HW4.out.cell ch;clear hw4 hb4;go_wp2_with fail
 first | go_end0 | refine bodyPost_ret (results_none rfl _ _ _) rfl ?_
 exact ⟨rfl,by simpa using HW4.out,HB4.out⟩
theorem Zeo {w0:World} {Bt:Nat} (a:ATree) (hT:TreeAt w0 Bt a) (h1:a.kind=8) (x y:ATree) (hks:a.kids=[x,y]) (hx:Ze w0 x) (hy:Z12 w0 y) (hH:Z28 w0):Z12 w0 a:=by
 have c0:=hT.c0;rw [h1] at c0;have c1:=hT.c1;obtain ⟨g,cp,c3',hge,hmx,hgl,hk⟩:=Z0r hT (by rw [hks]; simp);have c3:w0.cell? ⟨a.b,3,none⟩=some (.slice (some ⟨g,0,none⟩) 2 cp):=by rw [hks] at c3'; exact c3'
 have hge2:2≤cp:=by rw [hks] at hge; exact hge
 unfold maxLen at hmx;have k0:=hk 0 x (by rw [hks]; rfl);have k1:=hk 1 y (by rw [hks]; rfl);unfold ATree.ptr at k0 k1;have ch:=hH 6 ⟨#[119,104,105,108,101,32]⟩ rfl;have hv:Z5 (sP a.tree)=[119,104,105,108,101,32,40] ++ (Z5 (vP x.tree 0) ++ ([41,32] ++ Z5 (sP y.tree))):=by
  obtain ⟨ab,av,ak,tx,an,aks⟩:=a;simp only [ATree.kind] at h1;try simp only [ATree.kids] at hks
  try simp only [ATree.text]
  subst h1;subst hks;simp only [Zg,ATree.tree]; rw [Zc8 (by omega),Za,Z8,Za,Z8,Z8]; rfl
 have hmx:=hx.says 0;obtain ⟨mx,emx⟩:=zX (Z5 (vP x.tree 0))
 rw [← emx] at hmx;simp only [← emx] at hv;have Hmx:=lh hmx;clear emx hmx;have hmy:=hy.says;obtain ⟨my,emy⟩:=zX (Z5 (sP y.tree))
 rw [← emy] at hmy;simp only [← emy] at hv;have Hmy:=lh hmy;clear emy hmy;clear hT h1 hks c3' hge;intro B b l w hW hF;unfold Fits at hF;rw [hv] at hF ⊢;simp only [List.length_append,List.length_cons,List.length_nil] at hF;have HW0:=lh hW;have HB0:Hid (Below B w w):=lh (Y2 _ _);unfold ATree.ptr;have x0_0:=HW0.out.cell c0;have x1_0:=HW0.out.cell c3;have x2_0:=HW0.out.cell k0;have x3_0:=HW0.out.cell k1;have x4_0:=HW0.out.cell ch;clear hW hv;go_enter Tryz.func16,Tryz.ntmps16
 go_wp2_with fail
 refine (HW0.out.str ⟨#[119,104,105,108,101,32,40]⟩ (by first | omega | (simp only [List.length_append,List.length_cons,List.length_nil]; omega))).mono ?_;rintro e w1 ⟨rfl,hw1,hb1⟩;have HW1:=lh hw1;have HB1:=lh (HB0.out.trans hb1);have x0_1:=HW1.out.cell c0;have x1_1:=HW1.out.cell c3;have x2_1:=HW1.out.cell k0;have x3_1:=HW1.out.cell k1;have x4_1:=HW1.out.cell ch;clear hw1 hb1;go_wp2_with fail
 refine (Hmx.out B b _ _ HW1.out (by first | omega | (simp only [List.length_append,List.length_cons,List.length_nil]; omega))).mono ?_;rintro e w2 ⟨rfl,hw2,hb2⟩;have HW2:=lh hw2;have HB2:=lh (HB1.out.trans hb2);have x0_2:=HW2.out.cell c0;have x1_2:=HW2.out.cell c3;have x2_2:=HW2.out.cell k0;have x3_2:=HW2.out.cell k1;have x4_2:=HW2.out.cell ch;clear hw2 hb2;go_wp2_with fail
 refine (HW2.out.str ⟨#[41,32]⟩ (by first | omega | (simp only [List.length_append,List.length_cons,List.length_nil]; omega))).mono ?_;rintro e w3 ⟨rfl,hw3,hb3⟩;have HW3:=lh hw3;have HB3:=lh (HB2.out.trans hb3);have x0_3:=HW3.out.cell c0;have x1_3:=HW3.out.cell c3;have x2_3:=HW3.out.cell k0;have x3_3:=HW3.out.cell k1;have x4_3:=HW3.out.cell ch;clear hw3 hb3;go_wp2_with fail
 refine (Hmy.out B b _ _ HW3.out (by first | omega | (simp only [List.length_append,List.length_cons,List.length_nil]; omega))).mono ?_;rintro e w4 ⟨rfl,hw4,hb4⟩;have HW4:=lh hw4;have HB4:=lh (HB3.out.trans hb4);have x0_4:=HW4.out.cell c0;have x1_4:=HW4.out.cell c3;have x2_4:=HW4.out.cell k0;have x3_4:=HW4.out.cell k1;have x4_4:=HW4.out.cell ch;clear hw4 hb4;go_wp2_with fail
 first | go_end0 | refine bodyPost_ret (results_none rfl _ _ _) rfl ?_
 exact ⟨rfl,by simpa using HW4.out,HB4.out⟩
theorem Zev {w0:World} {Bt:Nat} (a:ATree) (hT:TreeAt w0 Bt a) (h1:a.kind=9) (x y:ATree) (hks:a.kids=[x,y]) (hx:Ze w0 x) (hy:Z12 w0 y) (hH:Z28 w0):Z12 w0 a:=by
 have c0:=hT.c0;rw [h1] at c0;have c1:=hT.c1;obtain ⟨g,cp,c3',hge,hmx,hgl,hk⟩:=Z0r hT (by rw [hks]; simp);have c3:w0.cell? ⟨a.b,3,none⟩=some (.slice (some ⟨g,0,none⟩) 2 cp):=by rw [hks] at c3'; exact c3'
 have hge2:2≤cp:=by rw [hks] at hge; exact hge
 unfold maxLen at hmx;have k0:=hk 0 x (by rw [hks]; rfl);have k1:=hk 1 y (by rw [hks]; rfl);unfold ATree.ptr at k0 k1;have ch:=hH 7 ⟨#[119,105,116,104,32]⟩ rfl;have hv:Z5 (sP a.tree)=[119,105,116,104,32,40] ++ (Z5 (vP x.tree 0) ++ ([41,32] ++ Z5 (sP y.tree))):=by
  obtain ⟨ab,av,ak,tx,an,aks⟩:=a;simp only [ATree.kind] at h1;try simp only [ATree.kids] at hks
  try simp only [ATree.text]
  subst h1;subst hks;simp only [Zg,ATree.tree]; rw [Zc8 (by omega),Za,Z8,Za,Z8,Z8]; rfl
 have hmx:=hx.says 0;obtain ⟨mx,emx⟩:=zX (Z5 (vP x.tree 0))
 rw [← emx] at hmx;simp only [← emx] at hv;have Hmx:=lh hmx;clear emx hmx;have hmy:=hy.says;obtain ⟨my,emy⟩:=zX (Z5 (sP y.tree))
 rw [← emy] at hmy;simp only [← emy] at hv;have Hmy:=lh hmy;clear emy hmy;clear hT h1 hks c3' hge;intro B b l w hW hF;unfold Fits at hF;rw [hv] at hF ⊢;simp only [List.length_append,List.length_cons,List.length_nil] at hF;have HW0:=lh hW;have HB0:Hid (Below B w w):=lh (Y2 _ _);unfold ATree.ptr;have x0_0:=HW0.out.cell c0;have x1_0:=HW0.out.cell c3;have x2_0:=HW0.out.cell k0;have x3_0:=HW0.out.cell k1;have x4_0:=HW0.out.cell ch;clear hW hv;go_enter Tryz.func16,Tryz.ntmps16
 go_wp2_with fail
 refine (HW0.out.str ⟨#[119,105,116,104,32,40]⟩ (by first | omega | (simp only [List.length_append,List.length_cons,List.length_nil]; omega))).mono ?_;rintro e w1 ⟨rfl,hw1,hb1⟩;have HW1:=lh hw1;have HB1:=lh (HB0.out.trans hb1);have x0_1:=HW1.out.cell c0;have x1_1:=HW1.out.cell c3;have x2_1:=HW1.out.cell k0;have x3_1:=HW1.out.cell k1;have x4_1:=HW1.out.cell ch;clear hw1 hb1;go_wp2_with fail
 refine (Hmx.out B b _ _ HW1.out (by first | omega | (simp only [List.length_append,List.length_cons,List.length_nil]; omega))).mono ?_;rintro e w2 ⟨rfl,hw2,hb2⟩;have HW2:=lh hw2;have HB2:=lh (HB1.out.trans hb2);have x0_2:=HW2.out.cell c0;have x1_2:=HW2.out.cell c3;have x2_2:=HW2.out.cell k0;have x3_2:=HW2.out.cell k1;have x4_2:=HW2.out.cell ch;clear hw2 hb2;go_wp2_with fail
 refine (HW2.out.str ⟨#[41,32]⟩ (by first | omega | (simp only [List.length_append,List.length_cons,List.length_nil]; omega))).mono ?_;rintro e w3 ⟨rfl,hw3,hb3⟩;have HW3:=lh hw3;have HB3:=lh (HB2.out.trans hb3);have x0_3:=HW3.out.cell c0;have x1_3:=HW3.out.cell c3;have x2_3:=HW3.out.cell k0;have x3_3:=HW3.out.cell k1;have x4_3:=HW3.out.cell ch;clear hw3 hb3;go_wp2_with fail
 refine (Hmy.out B b _ _ HW3.out (by first | omega | (simp only [List.length_append,List.length_cons,List.length_nil]; omega))).mono ?_;rintro e w4 ⟨rfl,hw4,hb4⟩;have HW4:=lh hw4;have HB4:=lh (HB3.out.trans hb4);have x0_4:=HW4.out.cell c0;have x1_4:=HW4.out.cell c3;have x2_4:=HW4.out.cell k0;have x3_4:=HW4.out.cell k1;have x4_4:=HW4.out.cell ch;clear hw4 hb4;go_wp2_with fail
 first | go_end0 | refine bodyPost_ret (results_none rfl _ _ _) rfl ?_
 exact ⟨rfl,by simpa using HW4.out,HB4.out⟩
theorem Zfe {w0:World} {Bt:Nat} (a:ATree) (hT:TreeAt w0 Bt a) (h1:a.kind=7) (x y z:ATree) (hks:a.kids=[x,y,z]) (hx:Ze w0 x) (hy:Z12 w0 y) (hz:Z12 w0 z) (hH:Z28 w0):Z12 w0 a:=by
 have c0:=hT.c0;rw [h1] at c0;have c1:=hT.c1;obtain ⟨g,cp,c3',hge,hmx,hgl,hk⟩:=Z0r hT (by rw [hks]; simp);have c3:w0.cell? ⟨a.b,3,none⟩=some (.slice (some ⟨g,0,none⟩) 3 cp):=by rw [hks] at c3'; exact c3'
 have hge2:3≤cp:=by rw [hks] at hge; exact hge
 unfold maxLen at hmx;have k0:=hk 0 x (by rw [hks]; rfl);have k1:=hk 1 y (by rw [hks]; rfl);have k2:=hk 2 z (by rw [hks]; rfl);unfold ATree.ptr at k0 k1 k2;have ch:=hH 5 ⟨#[105,102,32]⟩ rfl;have hv:Z5 (sP a.tree)=[105,102,32,40] ++ (Z5 (vP x.tree 0) ++ ([41,32] ++ (Z5 (sP y.tree) ++ ([32,101,108,115,101,32] ++ Z5 (sP z.tree))))):=by
  obtain ⟨ab,av,ak,tx,an,aks⟩:=a;simp only [ATree.kind] at h1;try simp only [ATree.kids] at hks
  try simp only [ATree.text]
  subst h1;subst hks;simp only [Zg,ATree.tree]; rw [Zfm,Za,Z8,Za,Z8,Z8,Za,Z8,Z8,Z8]; rfl
 have hmx:=hx.says 0;obtain ⟨mx,emx⟩:=zX (Z5 (vP x.tree 0))
 rw [← emx] at hmx;simp only [← emx] at hv;have Hmx:=lh hmx;clear emx hmx;have hmy:=hy.says;obtain ⟨my,emy⟩:=zX (Z5 (sP y.tree))
 rw [← emy] at hmy;simp only [← emy] at hv;have Hmy:=lh hmy;clear emy hmy;have hmz:=hz.says;obtain ⟨mz,emz⟩:=zX (Z5 (sP z.tree))
 rw [← emz] at hmz;simp only [← emz] at hv;have Hmz:=lh hmz;clear emz hmz;clear hT h1 hks c3' hge;intro B b l w hW hF;unfold Fits at hF;rw [hv] at hF ⊢;simp only [List.length_append,List.length_cons,List.length_nil] at hF;have HW0:=lh hW;have HB0:Hid (Below B w w):=lh (Y2 _ _);unfold ATree.ptr;have x0_0:=HW0.out.cell c0;have x1_0:=HW0.out.cell c3;have x2_0:=HW0.out.cell k0;have x3_0:=HW0.out.cell k1;have x4_0:=HW0.out.cell k2;have x5_0:=HW0.out.cell ch;clear hW hv;go_enter Tryz.func16,Tryz.ntmps16
 go_wp2_with fail
 refine (HW0.out.str ⟨#[105,102,32,40]⟩ (by first | omega | (simp only [List.length_append,List.length_cons,List.length_nil]; omega))).mono ?_;rintro e w1 ⟨rfl,hw1,hb1⟩;have HW1:=lh hw1;have HB1:=lh (HB0.out.trans hb1);have x0_1:=HW1.out.cell c0;have x1_1:=HW1.out.cell c3;have x2_1:=HW1.out.cell k0;have x3_1:=HW1.out.cell k1;have x4_1:=HW1.out.cell k2;have x5_1:=HW1.out.cell ch;clear hw1 hb1;go_wp2_with fail
 refine (Hmx.out B b _ _ HW1.out (by first | omega | (simp only [List.length_append,List.length_cons,List.length_nil]; omega))).mono ?_;rintro e w2 ⟨rfl,hw2,hb2⟩;have HW2:=lh hw2;have HB2:=lh (HB1.out.trans hb2);have x0_2:=HW2.out.cell c0;have x1_2:=HW2.out.cell c3;have x2_2:=HW2.out.cell k0;have x3_2:=HW2.out.cell k1;have x4_2:=HW2.out.cell k2;have x5_2:=HW2.out.cell ch;clear hw2 hb2;go_wp2_with fail
 refine (HW2.out.str ⟨#[41,32]⟩ (by first | omega | (simp only [List.length_append,List.length_cons,List.length_nil]; omega))).mono ?_;rintro e w3 ⟨rfl,hw3,hb3⟩;have HW3:=lh hw3;have HB3:=lh (HB2.out.trans hb3);have x0_3:=HW3.out.cell c0;have x1_3:=HW3.out.cell c3;have x2_3:=HW3.out.cell k0;have x3_3:=HW3.out.cell k1;have x4_3:=HW3.out.cell k2;have x5_3:=HW3.out.cell ch;clear hw3 hb3;go_wp2_with fail
 refine (Hmy.out B b _ _ HW3.out (by first | omega | (simp only [List.length_append,List.length_cons,List.length_nil]; omega))).mono ?_;rintro e w4 ⟨rfl,hw4,hb4⟩;have HW4:=lh hw4;have HB4:=lh (HB3.out.trans hb4);have x0_4:=HW4.out.cell c0;have x1_4:=HW4.out.cell c3;have x2_4:=HW4.out.cell k0;have x3_4:=HW4.out.cell k1;have x4_4:=HW4.out.cell k2;have x5_4:=HW4.out.cell ch;clear hw4 hb4;go_wp2_with fail
 refine (HW4.out.str ⟨#[32,101,108,115,101,32]⟩ (by first | omega | (simp only [List.length_append,List.length_cons,List.length_nil]; omega))).mono ?_;rintro e w5 ⟨rfl,hw5,hb5⟩;have HW5:=lh hw5;have HB5:=lh (HB4.out.trans hb5);have x0_5:=HW5.out.cell c0;have x1_5:=HW5.out.cell c3;have x2_5:=HW5.out.cell k0;have x3_5:=HW5.out.cell k1;have x4_5:=HW5.out.cell k2;have x5_5:=HW5.out.cell ch;clear hw5 hb5;go_wp2_with fail
 refine (Hmz.out B b _ _ HW5.out (by first | omega | (simp only [List.length_append,List.length_cons,List.length_nil]; omega))).mono ?_;rintro e w6 ⟨rfl,hw6,hb6⟩;have HW6:=lh hw6;have HB6:=lh (HB5.out.trans hb6);have x0_6:=HW6.out.cell c0;have x1_6:=HW6.out.cell c3;have x2_6:=HW6.out.cell k0;have x3_6:=HW6.out.cell k1;have x4_6:=HW6.out.cell k2;have x5_6:=HW6.out.cell ch;clear hw6 hb6;go_wp2_with fail
 first | go_end0 | refine bodyPost_ret (results_none rfl _ _ _) rfl ?_
 exact ⟨rfl,by simpa using HW6.out,HB6.out⟩
theorem Ze4 {w0:World} {Bt:Nat} (a:ATree) (hT:TreeAt w0 Bt a) (h1:a.kind=10) (x:ATree) (hks:a.kids=[x]) (hx:Ze w0 x) (hH:Z28 w0):Z12 w0 a:=by
 have c0:=hT.c0;rw [h1] at c0;have c1:=hT.c1;obtain ⟨g,cp,c3',hge,hmx,hgl,hk⟩:=Z0r hT (by rw [hks]; simp);have c3:w0.cell? ⟨a.b,3,none⟩=some (.slice (some ⟨g,0,none⟩) 1 cp):=by rw [hks] at c3'; exact c3'
 have hge2:1≤cp:=by rw [hks] at hge; exact hge
 unfold maxLen at hmx;have k0:=hk 0 x (by rw [hks]; rfl);unfold ATree.ptr at k0;have ch:=hH 8 ⟨#[114,101,116,117,114,110]⟩ rfl;have hv:Z5 (sP a.tree)=[114,101,116,117,114,110] ++ (32 :: (Z5 (vP x.tree 0) ++ [59])):=by
  obtain ⟨ab,av,ak,tx,an,aks⟩:=a;simp only [ATree.kind] at h1;try simp only [ATree.kids] at hks
  try simp only [ATree.text]
  subst h1;subst hks;simp only [Zg,ATree.tree]; rw [Zcj (by omega),Za,Z8,Za]; rfl
 have hmx:=hx.says 0;obtain ⟨mx,emx⟩:=zX (Z5 (vP x.tree 0))
 rw [← emx] at hmx;simp only [← emx] at hv;have Hmx:=lh hmx;clear emx hmx;clear hT h1 hks c3' hge;intro B b l w hW hF;unfold Fits at hF;rw [hv] at hF ⊢;simp only [List.length_append,List.length_cons,List.length_nil] at hF;have HW0:=lh hW;have HB0:Hid (Below B w w):=lh (Y2 _ _);unfold ATree.ptr;have x0_0:=HW0.out.cell c0;have x1_0:=HW0.out.cell c3;have x2_0:=HW0.out.cell k0;have x3_0:=HW0.out.cell ch;clear hW hv;go_enter Tryz.func16,Tryz.ntmps16
 go_wp2_with fail
 refine (HW0.out.str ⟨#[114,101,116,117,114,110]⟩ (by first | omega | (simp only [List.length_append,List.length_cons,List.length_nil]; omega))).mono ?_;rintro e w1 ⟨rfl,hw1,hb1⟩;have HW1:=lh hw1;have HB1:=lh (HB0.out.trans hb1);have x0_1:=HW1.out.cell c0;have x1_1:=HW1.out.cell c3;have x2_1:=HW1.out.cell k0;have x3_1:=HW1.out.cell ch;clear hw1 hb1;go_wp2_with fail
 refine (HW1.out.byte 32 (by first | omega | (simp only [List.length_append,List.length_cons,List.length_nil]; omega))).mono ?_;rintro e w2 ⟨rfl,hw2,hb2⟩;have HW2:=lh hw2;have HB2:=lh (HB1.out.trans hb2);have x0_2:=HW2.out.cell c0;have x1_2:=HW2.out.cell c3;have x2_2:=HW2.out.cell k0;have x3_2:=HW2.out.cell ch;clear hw2 hb2;go_wp2_with fail
 refine (Hmx.out B b _ _ HW2.out (by first | omega | (simp only [List.length_append,List.length_cons,List.length_nil]; omega))).mono ?_;rintro e w3 ⟨rfl,hw3,hb3⟩;have HW3:=lh hw3;have HB3:=lh (HB2.out.trans hb3);have x0_3:=HW3.out.cell c0;have x1_3:=HW3.out.cell c3;have x2_3:=HW3.out.cell k0;have x3_3:=HW3.out.cell ch;clear hw3 hb3;go_wp2_with fail
 refine (HW3.out.byte 59 (by first | omega | (simp only [List.length_append,List.length_cons,List.length_nil]; omega))).mono ?_;rintro e w4 ⟨rfl,hw4,hb4⟩;have HW4:=lh hw4;have HB4:=lh (HB3.out.trans hb4);have x0_4:=HW4.out.cell c0;have x1_4:=HW4.out.cell c3;have x2_4:=HW4.out.cell k0;have x3_4:=HW4.out.cell ch;clear hw4 hb4;go_wp2_with fail
 first | go_end0 | refine bodyPost_ret (results_none rfl _ _ _) rfl ?_
 exact ⟨rfl,by simpa using HW4.out,HB4.out⟩
theorem Zd5 {w0:World} {Bt:Nat} (a:ATree) (hT:TreeAt w0 Bt a) (h1:a.kind=11) (x:ATree) (hks:a.kids=[x]) (hx:Ze w0 x) (hH:Z28 w0):Z12 w0 a:=by
 have c0:=hT.c0;rw [h1] at c0;have c1:=hT.c1;obtain ⟨g,cp,c3',hge,hmx,hgl,hk⟩:=Z0r hT (by rw [hks]; simp);have c3:w0.cell? ⟨a.b,3,none⟩=some (.slice (some ⟨g,0,none⟩) 1 cp):=by rw [hks] at c3'; exact c3'
 have hge2:1≤cp:=by rw [hks] at hge; exact hge
 unfold maxLen at hmx;have k0:=hk 0 x (by rw [hks]; rfl);unfold ATree.ptr at k0;have ch:=hH 9 ⟨#[116,104,114,111,119]⟩ rfl;have hv:Z5 (sP a.tree)=[116,104,114,111,119] ++ (32 :: (Z5 (vP x.tree 0) ++ [59])):=by
  obtain ⟨ab,av,ak,tx,an,aks⟩:=a;simp only [ATree.kind] at h1;try simp only [ATree.kids] at hks
  try simp only [ATree.text]
  subst h1;subst hks;simp only [Zg,ATree.tree]; rw [Zcj (by omega),Za,Z8,Za]; rfl
 have hmx:=hx.says 0;obtain ⟨mx,emx⟩:=zX (Z5 (vP x.tree 0))
 rw [← emx] at hmx;simp only [← emx] at hv;have Hmx:=lh hmx;clear emx hmx;clear hT h1 hks c3' hge;intro B b l w hW hF;unfold Fits at hF;rw [hv] at hF ⊢;simp only [List.length_append,List.length_cons,List.length_nil] at hF;have HW0:=lh hW;have HB0:Hid (Below B w w):=lh (Y2 _ _);unfold ATree.ptr;have x0_0:=HW0.out.cell c0;have x1_0:=HW0.out.cell c3;have x2_0:=HW0.out.cell k0;have x3_0:=HW0.out.cell ch;clear hW hv;go_enter Tryz.func16,Tryz.ntmps16
 go_wp2_with fail
 refine (HW0.out.str ⟨#[116,104,114,111,119]⟩ (by first | omega | (simp only [List.length_append,List.length_cons,List.length_nil]; omega))).mono ?_;rintro e w1 ⟨rfl,hw1,hb1⟩;have HW1:=lh hw1;have HB1:=lh (HB0.out.trans hb1);have x0_1:=HW1.out.cell c0;have x1_1:=HW1.out.cell c3;have x2_1:=HW1.out.cell k0;have x3_1:=HW1.out.cell ch;clear hw1 hb1;go_wp2_with fail
 refine (HW1.out.byte 32 (by first | omega | (simp only [List.length_append,List.length_cons,List.length_nil]; omega))).mono ?_;rintro e w2 ⟨rfl,hw2,hb2⟩;have HW2:=lh hw2;have HB2:=lh (HB1.out.trans hb2);have x0_2:=HW2.out.cell c0;have x1_2:=HW2.out.cell c3;have x2_2:=HW2.out.cell k0;have x3_2:=HW2.out.cell ch;clear hw2 hb2;go_wp2_with fail
 refine (Hmx.out B b _ _ HW2.out (by first | omega | (simp only [List.length_append,List.length_cons,List.length_nil]; omega))).mono ?_;rintro e w3 ⟨rfl,hw3,hb3⟩;have HW3:=lh hw3;have HB3:=lh (HB2.out.trans hb3);have x0_3:=HW3.out.cell c0;have x1_3:=HW3.out.cell c3;have x2_3:=HW3.out.cell k0;have x3_3:=HW3.out.cell ch;clear hw3 hb3;go_wp2_with fail
 refine (HW3.out.byte 59 (by first | omega | (simp only [List.length_append,List.length_cons,List.length_nil]; omega))).mono ?_;rintro e w4 ⟨rfl,hw4,hb4⟩;have HW4:=lh hw4;have HB4:=lh (HB3.out.trans hb4);have x0_4:=HW4.out.cell c0;have x1_4:=HW4.out.cell c3;have x2_4:=HW4.out.cell k0;have x3_4:=HW4.out.cell ch;clear hw4 hb4;go_wp2_with fail
 first | go_end0 | refine bodyPost_ret (results_none rfl _ _ _) rfl ?_
 exact ⟨rfl,by simpa using HW4.out,HB4.out⟩
theorem Zf5 {w0:World} {Bt:Nat} (a:ATree) (hT:TreeAt w0 Bt a) (h1:a.kind=10) (hks:a.kids=[]) (hH:Z28 w0):Z12 w0 a:=by
 have c0:=hT.c0;rw [h1] at c0;have c1:=hT.c1;obtain ⟨pp,cp,hpv,hge,hmx⟩:=hT.vOf;have c3:=hT.c3;rw [hpv,hks] at c3;simp only [List.length_nil] at c3;have ch:=hH 8 ⟨#[114,101,116,117,114,110]⟩ rfl;have hv:Z5 (sP a.tree)=[114,101,116,117,114,110] ++ [59]:=by
  obtain ⟨ab,av,ak,tx,an,aks⟩:=a;simp only [ATree.kind] at h1;try simp only [ATree.kids] at hks
  try simp only [ATree.text]
  subst h1;subst hks;simp only [Zg,ATree.tree]; rw [Zej (by omega),Za]; rfl
 clear hT h1 hks hpv hge;intro B b l w hW hF;unfold Fits at hF;rw [hv] at hF ⊢;simp only [List.length_append,List.length_cons,List.length_nil] at hF;have HW0:=lh hW;have HB0:Hid (Below B w w):=lh (Y2 _ _);unfold ATree.ptr;have x0_0:=HW0.out.cell c0;have x1_0:=HW0.out.cell c3;have x2_0:=HW0.out.cell ch;clear hW hv;go_enter Tryz.func16,Tryz.ntmps16
 go_wp2_with fail
 refine (HW0.out.str ⟨#[114,101,116,117,114,110]⟩ (by first | omega | (simp only [List.length_append,List.length_cons,List.length_nil]; omega))).mono ?_;rintro e w1 ⟨rfl,hw1,hb1⟩;have HW1:=lh hw1;have HB1:=lh (HB0.out.trans hb1);have x0_1:=HW1.out.cell c0;have x1_1:=HW1.out.cell c3;have x2_1:=HW1.out.cell ch;clear hw1 hb1;go_wp2_with fail
 refine (HW1.out.byte 59 (by first | omega | (simp only [List.length_append,List.length_cons,List.length_nil]; omega))).mono ?_;rintro e w2 ⟨rfl,hw2,hb2⟩;have HW2:=lh hw2;have HB2:=lh (HB1.out.trans hb2);have x0_2:=HW2.out.cell c0;have x1_2:=HW2.out.cell c3;have x2_2:=HW2.out.cell ch;clear hw2 hb2;go_wp2_with fail
 first | go_end0 | refine bodyPost_ret (results_none rfl _ _ _) rfl ?_
 exact ⟨rfl,by simpa using HW2.out,HB2.out⟩
theorem Zd9 {w0:World} {Bt:Nat} (a:ATree) (hT:TreeAt w0 Bt a) (h1:a.kind=16):Z12 w0 a:=by
 have c0:=hT.c0;rw [h1] at c0;have c1:=hT.c1;have hv:Z5 (sP a.tree)=[59]:=by
  obtain ⟨ab,av,ak,tx,an,aks⟩:=a;simp only [ATree.kind] at h1;try simp only [ATree.text]
  subst h1;simp only [ATree.tree]; rw [Zcq]; rfl
 clear hT h1;intro B b l w hW hF;unfold Fits at hF;rw [hv] at hF ⊢;simp only [List.length_append,List.length_cons,List.length_nil] at hF;have HW0:=lh hW;have HB0:Hid (Below B w w):=lh (Y2 _ _);unfold ATree.ptr;have x0_0:=HW0.out.cell c0;clear hW hv;go_enter Tryz.func16,Tryz.ntmps16
 go_wp2_with fail
 refine (HW0.out.byte 59 (by first | omega | (simp only [List.length_append,List.length_cons,List.length_nil]; omega))).mono ?_;rintro e w1 ⟨rfl,hw1,hb1⟩;have HW1:=lh hw1;have HB1:=lh (HB0.out.trans hb1);have x0_1:=HW1.out.cell c0;clear hw1 hb1;go_wp2_with fail
 first | go_end0 | refine bodyPost_ret (results_none rfl _ _ _) rfl ?_
 exact ⟨rfl,by simpa using HW1.out,HB1.out⟩
end Go.Proofs.YtjcgkdfeplbajaaGreatDoor
