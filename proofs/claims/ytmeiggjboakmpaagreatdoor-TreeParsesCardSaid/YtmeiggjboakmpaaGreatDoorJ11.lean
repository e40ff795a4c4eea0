/- Package tree: write: functions; calls and objects. -/
import Derived.Test.YtmeiggjboakmpaaGreatDoorJ10
import Derived.Lib.ItoaLen
namespace Go.Proofs.YtmeiggjboakmpaaGreatDoor
open Go Go.RowKit
set_option maxRecDepth 100000
set_option maxHeartbeats 20000000
set_option linter.unusedVariables false
set_option linter.unusedSimpArgs false
def Zh5 (w0:World) (a:ATree) (m:List UInt8):Prop:=∀ (B b:Nat) (l:List UInt8) (w:World),BW w0 B b l w→l.length + m.length≤140737488355328 →
 Calls Tryz.prog 57 #[.pointer (some ⟨b,0,none⟩),.pointer (some ⟨a.b,0,none⟩)] w (Wrote w0 B b l w m)
theorem Zjy {w0:World} {Bt:Nat} (a:ATree) (hT:TreeAt w0 Bt a) (p q:ATree) (hks:a.kids=[p,q]) (hp:Z5w w0 p.kids) (hq:Z2e w0 q) (hsz:a.text.size≤1000000) :
 Zh5 w0 a (Zd (fnP a.text (lP true (Zr p.kids)) (sP q.tree))):=by
 intro B b l w hW hF;have c1:=hT.c1;obtain ⟨g,cp,c3,hge2,hmx,hgl,hk⟩:=Z3a hT hks 2 rfl (by decide);have k0:=hk 0 p rfl;have k1:=hk 1 q rfl;have hTp:TreeAt w0 Bt p:=hT.kid (by rw [hks]; simp);have hSl:=Z4j hTp;have cp3:=hTp.c3;obtain ⟨pp,pc,hpv,_,_⟩:=hTp.vOf;rw [hpv] at cp3 hSl;have hl:=fun l w h=>hp ⟨#[40]⟩ ⟨#[41,32]⟩ (.slice pp p.kids.length pc) B b l w hSl h;have hs:=fun l w=>hq.says B b l w;obtain ⟨ml,eml⟩:=zX (Zd (lP true (Zr p.kids)))
 obtain ⟨mb,emb⟩:=zX (Zd (sP q.tree))
 obtain ⟨tx,htx⟩:=zX a.text
 have hX:Zd (fnP a.text (lP true (Zr p.kids)) (sP q.tree))=[102,117,110,99,116,105,111,110] ++ ((if tx.size=0 then [] else 32 :: tx.data.toList) ++ (40 :: (ml ++ ([41,32] ++ mb)))):=by
  rw [eml,emb,htx];unfold fnP;rw [Z4,Z7,Z4,Z7,Z4,Z4];by_cases hz:a.text.size=0;·rw [Yb hz,Yb hz]; rfl
  ·rw [Y9 hz,Y9 hz];rw [Z4,Z4,Zj,List.append_nil];rfl
 rw [hX] at hF ⊢;rw [← eml] at hl;rw [← emb] at hs;rw [← htx] at c1 hsz;have HLs:=lh hl;have HSt:=lh hs;have hlens:(p.kids.length:Int)≤140737488355328∨True:=.inr trivial;obtain ⟨pn,hpn⟩:=zX p.kids.length
 rw [← hpn] at cp3;have HLs:Hid (∀ (l:List UInt8) (w:World),BW w0 B b l w→l.length + ((⟨#[40]⟩:ByteArray).data.toList.length + ml.length + (⟨#[41,32]⟩:ByteArray).data.toList.length)≤140737488355328→Calls Tryz.prog 86 #[.pointer (some ⟨b,0,none⟩),.string ⟨#[40]⟩,.slice pp pn pc,.string ⟨#[41,32]⟩] w (Wrote w0 B b l w ((⟨#[40]⟩:ByteArray).data.toList ++ (ml ++ (⟨#[41,32]⟩:ByteArray).data.toList)))):=by
  rw [hpn]; exact HLs
 obtain ⟨sx,hsx⟩:∃ sx:ByteArray,sx=⟨#[32]⟩ ++ tx:=⟨_,rfl⟩
 have hsl:32 :: tx.data.toList=sx.data.toList:=by rw [hsx]; simp [ByteArray.data_append]
 rw [hsl] at hF ⊢;have HSX:=lh hsx;have q1:¬ 9223372036854775807 < 1 + tx.size:=by omega
 have HW:=lh hW;clear hl hs eml emb hpv hSl hp hq hT hTp hks hX htx hsx hsl hW hpn hlens;by_cases hz:tx=ByteArray.empty
 ·rw [Yb (by rw [hz]; rfl)] at hF ⊢;simp only [List.nil_append, List.length_append, List.length_cons, List.length_nil] at hF;subst hz;have HS0 := lh (HW.out.str ⟨#[102, 117, 110, 99, 116, 105, 111, 110]⟩ (by show l.length + 8 ≤ _; omega));go_enter Tryz.func57, Tryz.ntmps57
  go_wp2_with fail
  refine HS0.out.mono ?_;rintro e w1 ⟨rfl,hw1,hb1⟩;have HW1:=lh hw1;have HB1:=lh hb1;have x1:=HW1.out.cell c1;have x3:=HW1.out.cell c3;have y0:=HW1.out.cell k0;have y1:=HW1.out.cell k1;have z3:=HW1.out.cell cp3;clear hw1 hb1 HS0;go_wp2_with fail
  refine (HLs.out _ _ HW1.out (by show _ + (1 + ml.length + 2)≤_; first | omega | (simp only [zL,zM,zN]; omega))).mono ?_;rintro e w2 ⟨rfl,hw2,hb2⟩;have HW2:=lh hw2;have HB2:=lh (HB1.out.trans hb2);have x1_2:=HW2.out.cell c1;have x3_2:=HW2.out.cell c3;have y1_2:=HW2.out.cell k1;clear hw2 hb2;go_wp2_with fail
  refine (HSt.out _ _ HW2.out (by show (_ ++ ([40] ++ (ml ++ [41,32]))).length + _≤_; simp only [zL,zM,zN]; omega)).mono ?_;rintro e w3 ⟨rfl,hw3,hb3⟩;have HW3:=lh hw3;have HB3:=lh (HB2.out.trans hb3);clear hw3 hb3;go_wp2_with fail
  first | go_end0 | refine bodyPost_ret (results_none rfl _ _ _) rfl ?_
  exact ⟨rfl,by simpa using HW3.out,HB3.out⟩
 ·have hz0 : tx.size ≠ 0 := fun e => hz (ByteArray.size_eq_zero_iff.1 e);rw [Y9 hz0] at hF ⊢;have hsxl : sx.data.toList.length = 1 + tx.size := by rw [HSX.out]; simp [ByteArray.data_append]; omega
  simp only [zL,zM,zN] at hF;have HS0:=lh (HW.out.str ⟨#[102,117,110,99,116,105,111,110]⟩ (by show l.length + 8≤_; omega));go_enter Tryz.func57,Tryz.ntmps57
  go_wp2_with fail
  refine HS0.out.mono ?_;rintro e w1 ⟨rfl,hw1,hb1⟩;have HW1:=lh hw1;have HB1:=lh hb1;have x1:=HW1.out.cell c1;have x3:=HW1.out.cell c3;have y0:=HW1.out.cell k0;have y1:=HW1.out.cell k1;have z3:=HW1.out.cell cp3;clear hw1 hb1 HS0;have hie:tx.toList.isEmpty=false:=by
   cases hc:tx.toList with
   | nil=>exact absurd (Z25 (by rw [hc]; kernel_rfl)) hz
   | cons u r=>rfl
  go_wp2_with fail
  rw [← HSX.out];refine (HW1.out.str sx (by rw [hsxl]; show (l ++ _).length + _≤_; simp only [zL,zM,zN]; omega)).mono ?_;rintro e w2 ⟨rfl,hw2,hb2⟩;have HW2:=lh hw2;have HB2:=lh (HB1.out.trans hb2);have x1_2:=HW2.out.cell c1;have x3_2:=HW2.out.cell c3;have y0_2:=HW2.out.cell k0;have y1_2:=HW2.out.cell k1;have z3_2:=HW2.out.cell cp3;clear hw2 hb2;go_wp2_with fail
  refine (HLs.out _ _ HW2.out (by show _ + (1 + ml.length + 2)≤_; simp only [zL,zM,zN]; omega)).mono ?_;rintro e w3 ⟨rfl,hw3,hb3⟩;have HW3:=lh hw3;have HB3:=lh (HB2.out.trans hb3);have x1_3:=HW3.out.cell c1;have x3_3:=HW3.out.cell c3;have y1_3:=HW3.out.cell k1;clear hw3 hb3;go_wp2_with fail
  refine (HSt.out _ _ HW3.out (by show (_ ++ ([40] ++ (ml ++ [41,32]))).length + _≤_; simp only [zL,zM,zN]; omega)).mono ?_;rintro e w4 ⟨rfl,hw4,hb4⟩;have HW4:=lh hw4;have HB4:=lh (HB3.out.trans hb4);clear hw4 hb4;go_wp2_with fail
  first | go_end0 | refine bodyPost_ret (results_none rfl _ _ _) rfl ?_
  exact ⟨rfl,by simpa using HW4.out,HB4.out⟩
theorem Zgo {w0:World} {Bt:Nat} (a:ATree) (hT:TreeAt w0 Bt a) (h1:a.kind=37) (p q:ATree) (hks:a.kids=[p,q]) (hf:Zh5 w0 a (Zd (fnP a.text (lP true (Zr p.kids)) (sP q.tree)))):Z0e w0 a:=by
 have c0:=hT.c0;rw [h1] at c0;have hv:∀ need,Zd (vP a.tree need)=if decide ((9:Int) < need)=true then 40 :: (Zd (fnP a.text (lP true (Zr p.kids)) (sP q.tree)) ++ [41]) else Zd (fnP a.text (lP true (Zr p.kids)) (sP q.tree)):=fun need=>by
  obtain ⟨ab,av,ak,tx,an,aks⟩:=a;obtain ⟨pb,pv,pk,pt,pn,pks⟩:=p;simp only [ATree.kind,ATree.kids,ATree.text] at h1 hks ⊢;subst h1;subst hks;exact Z3w _ _ _ _ _ _ (by simp only [Zr,ATree.tree]; rw [Zc3]) 9 (by decide)
 obtain ⟨mf,emf⟩:=zX (Zd (fnP a.text (lP true (Zr p.kids)) (sP q.tree)))
 rw [← emf] at hf;simp only [← emf] at hv;have HF2:=lh hf;clear hT h1 hks emf hf;intro need B b l w hW hF;unfold Fits at hF;rw [hv] at hF ⊢;have HW:=lh hW;unfold ATree.ptr;by_cases hp:9 < need
 ·rw [decide_eq_true hp, Yb rfl] at hF ⊢;try simp only [zL, zM, zN] at hF
  have HW0:=HW;have HB0:Hid (Below B w w):=lh (Y8 _ _);have x0_0:=HW0.out.cell c0;have HS:Hid (∀ w,Calls Tryz.prog 83 #[.int .i64 (37)] w fun e w'=>e=.returned (.int .i64 (9))∧w'=w):=lh fun w=>by have h:=Z0b (37) w; rwa [show Zo (37)=9 by first | assumption | decide] at h
  have hcmp:(9 < need)=True:=by simp; omega
  clear hW HW hp hv;go_enter_defers Tryz.func56,Tryz.ntmps56
  go_wp2_with fail
  refine (HS.out _).mono ?_;rintro e w' ⟨rfl,hw'⟩;rw [hw'];clear hw' w' HS;go_wp2_with fail
  refine (Z5h HW0 HB0 40).mono ?_;rintro e w1 ⟨rfl,HW1,HB1⟩;have x0_1:=HW1.out.cell c0;go_wp2_with fail
  refine (Z36 HF2 HW1 HB1).mono ?_;rintro e w2 ⟨rfl,HW2,HB2⟩;go_wp2_with fail
  refine leaves_cons (f:=24) (args:=#[.pointer (some ⟨b,0,none⟩),.int .u8 41]) (by simp) (by simp [go_sem]) ?_;refine (Z5o HW2 HB2 41 .returning).mono ?_;rintro e u' w'' ⟨rfl,rfl,hwf,hbf⟩;refine ⟨.tuple #[],by simp [results,Tryz.results56,go_sem],rfl,?_,hbf⟩;simpa using hwf
 ·rw [decide_eq_false hp, Y9 (by simp)] at hF ⊢;try simp only [zL, zM, zN] at hF
  have HW0:=HW;have HB0:Hid (Below B w w):=lh (Y8 _ _);have x0_0:=HW0.out.cell c0;have HS:Hid (∀ w,Calls Tryz.prog 83 #[.int .i64 (37)] w fun e w'=>e=.returned (.int .i64 (9))∧w'=w):=lh fun w=>by have h:=Z0b (37) w; rwa [show Zo (37)=9 by first | assumption | decide] at h
  have hcmp:(9 < need)=False:=by simp; omega
  clear hW HW hp hv;go_enter_defers Tryz.func56,Tryz.ntmps56
  go_wp2_with fail
  refine (HS.out _).mono ?_;rintro e w' ⟨rfl,hw'⟩;rw [hw'];clear hw' w' HS;go_wp2_with fail
  refine (Z36 HF2 HW0 HB0).mono ?_;rintro e w1 ⟨rfl,HW1,HB1⟩;go_wp2_with fail
  refine ⟨.tuple #[],by simp [results,Tryz.results56,go_sem],rfl,?_,HB1.out⟩;have hwf:=HW1.out;simpa using hwf
theorem Zfn {w0:World} {Bt:Nat} (a:ATree) (hT:TreeAt w0 Bt a) (h1:a.kind=38) (hl:Z5w w0 a.kids):Z0e w0 a:=by
 have c0:=hT.c0;rw [h1] at c0;have c3:=hT.c3;have hSl:=Z4j hT;obtain ⟨pp,pc,hpv,_,_⟩:=hT.vOf;rw [hpv] at c3 hSl;have hv:∀ need,Zd (vP a.tree need)=if decide ((9:Int) < need)=true then 40 :: ((123 :: (Zd (lP true (Zr a.kids)) ++ [125])) ++ [41]) else 123 :: (Zd (lP true (Zr a.kids)) ++ [125]):=fun need=>by
  obtain ⟨ab,av,ak,tx,an,aks⟩:=a;simp only [ATree.kind,ATree.kids] at h1 ⊢;subst h1;exact Z3w _ _ _ _ _ _ (by rw [Zdw,Z4,Z7]; rfl) 9 (by decide)
 obtain ⟨pn,hpn⟩:=zX a.kids.length
 have hl2:=fun B b l w h=>hl ⟨#[123]⟩ ⟨#[125]⟩ (.slice pp a.kids.length pc) B b l w hSl h;obtain ⟨ml,eml⟩:=zX (Zd (lP true (Zr a.kids)))
 rw [← eml,← hpn] at hl2;rw [← hpn] at c3;simp only [← eml] at hv;have HLs:=lh hl2;clear hT h1 hSl hpv hpn eml hl hl2;intro need B b l w hW hF;unfold Fits at hF;rw [hv] at hF ⊢;have HW:=lh hW;unfold ATree.ptr;by_cases hp:9 < need
 ·rw [decide_eq_true hp, Yb rfl] at hF ⊢;try simp only [zL, zM, zN] at hF
  have HW0:=HW;have HB0:Hid (Below B w w):=lh (Y8 _ _);have x0_0:=HW0.out.cell c0;have x1_0:=HW0.out.cell c3;have HS:Hid (∀ w,Calls Tryz.prog 83 #[.int .i64 (38)] w fun e w'=>e=.returned (.int .i64 (9))∧w'=w):=lh fun w=>by have h:=Z0b (38) w; rwa [show Zo (38)=9 by first | assumption | decide] at h
  have hcmp:(9 < need)=True:=by simp; omega
  clear hW HW hp hv;go_enter_defers Tryz.func56,Tryz.ntmps56
  go_wp2_with fail
  refine (HS.out _).mono ?_;rintro e w' ⟨rfl,hw'⟩;rw [hw'];clear hw' w' HS;go_wp2_with fail
  refine (Z5h HW0 HB0 40).mono ?_;rintro e w1 ⟨rfl,HW1,HB1⟩;have x0_1:=HW1.out.cell c0;have x1_1:=HW1.out.cell c3;go_wp2_with fail
  refine (HLs.out B b _ _ HW1.out (by show _ + (1 + ml.length + 1)≤_; first | omega | (simp only [zL,zM,zN]; omega))).mono ?_;rintro e w2 ⟨rfl,hw2,hb2⟩;have HW2:=lh hw2;have HB2:=lh (HB1.out.trans hb2);clear hw2 hb2;go_wp2_with fail
  refine leaves_cons (f:=24) (args:=#[.pointer (some ⟨b,0,none⟩),.int .u8 41]) (by simp) (by simp [go_sem]) ?_;refine (Z5o HW2 HB2 41 .returning).mono ?_;rintro e u' w'' ⟨rfl,rfl,hwf,hbf⟩;refine ⟨.tuple #[],by simp [results,Tryz.results56,go_sem],rfl,?_,hbf⟩;simpa using hwf
 ·rw [decide_eq_false hp, Y9 (by simp)] at hF ⊢;try simp only [zL, zM, zN] at hF
  have HW0:=HW;have HB0:Hid (Below B w w):=lh (Y8 _ _);have x0_0:=HW0.out.cell c0;have x1_0:=HW0.out.cell c3;have HS:Hid (∀ w,Calls Tryz.prog 83 #[.int .i64 (38)] w fun e w'=>e=.returned (.int .i64 (9))∧w'=w):=lh fun w=>by have h:=Z0b (38) w; rwa [show Zo (38)=9 by first | assumption | decide] at h
  have hcmp:(9 < need)=False:=by simp; omega
  clear hW HW hp hv;go_enter_defers Tryz.func56,Tryz.ntmps56
  go_wp2_with fail
  refine (HS.out _).mono ?_;rintro e w' ⟨rfl,hw'⟩;rw [hw'];clear hw' w' HS;go_wp2_with fail
  refine (HLs.out B b _ _ HW0.out (by show _ + (1 + ml.length + 1)≤_; first | omega | (simp only [zL,zM,zN]; omega))).mono ?_;rintro e w1 ⟨rfl,hw1,hb1⟩;have HW1:=lh hw1;have HB1:=lh (HB0.out.trans hb1);clear hw1 hb1;go_wp2_with fail
  refine ⟨.tuple #[],by simp [results,Tryz.results56,go_sem],rfl,?_,HB1.out⟩;have hwf:=HW1.out;simpa using hwf
theorem Zc9 {w0:World} {Bt:Nat} (a:ATree) (hT:TreeAt w0 Bt a) (h1:a.kind=35) (x:ATree) (r:List ATree) (hks:a.kids=x :: r) (hx:Z0e w0 x) (hl:Z5w w0 r) (hrl:r.length≤100000) (g cp:Nat) (c3':w0.cell? ⟨a.b,3,none⟩=some (.slice (some ⟨g,0,none⟩) a.kids.length cp)) (hge:a.kids.length≤cp) (hmx:cp≤maxLen) (hk:∀ (i:Nat) (x:ATree),a.kids[i]?=some x→w0.cell? ⟨g,i,none⟩=some x.ptr) (hcp:cp=1):Z0e w0 a:=by
 have c0:=hT.c0;rw [h1] at c0;obtain ⟨pn,hpn⟩:=zX r.length
 have c3:w0.cell? ⟨a.b,3,none⟩=some (.slice (some ⟨g,0,none⟩) (pn + 1) cp):=by rw [hks] at c3'; rw [hpn]; exact c3'
 have hge2:pn + 1≤cp:=by rw [hks] at hge; rw [hpn]; exact hge
 unfold maxLen at hmx;have k0:=hk 0 x (by rw [hks]; rfl);unfold ATree.ptr at k0;have hv:∀ need,Zd (vP a.tree need)=if decide ((8:Int) < need)=true then 40 :: ((Zd (vP x.tree 8) ++ (40 :: (Zd (lP true (Zr r)) ++ [41]))) ++ [41]) else Zd (vP x.tree 8) ++ (40 :: (Zd (lP true (Zr r)) ++ [41])):=fun need=>by
  obtain ⟨ab,av,ak,tx,an,aks⟩:=a;simp only [ATree.kind,ATree.kids] at h1 hks ⊢;subst h1;subst hks;exact Z3w _ _ _ _ _ _ (by simp only [Zr]; rw [Z8z,Z7,Z4,Z7]; rfl) 8 (by decide)
 have hsl:Z4c w0 (.slice (some ⟨g,0,none⟩) pn 0) r:=by
  rw [hpn];refine ⟨(some ⟨g,0,none⟩),0,rfl,by omega,by unfold maxLen; omega,fun i y hy=>⟨g,1,?_,?_⟩⟩
  ·have:=(List.getElem?_eq_some_iff.1 hy).1;first | rfl | omega
  ·have:=hk (i + 1) y (by rw [hks]; exact hy);rwa [Nat.add_comm] at this
 have hl2:=fun B b l w=>hl ⟨#[40]⟩ ⟨#[41]⟩ (.slice (some ⟨g,0,none⟩) pn 0) B b l w hsl;obtain ⟨ml,eml⟩:=zX (Zd (lP true (Zr r)))
 rw [← eml] at hl2;simp only [← eml] at hv;have HLs:=lh hl2;have hpI:(1:Int)≤((pn + 1:Nat):Int):=by omega
 have hpb:pn≤100000:=by omega
 clear eml hl hl2 hsl hpn hrl;have hmx:=hx.says (8);obtain ⟨mx,emx⟩:=zX (Zd (vP x.tree (8)))
 rw [← emx] at hmx;simp only [← emx] at hv;have Hmx:=lh hmx;clear emx hmx;clear hT h1 hks hk c3' hge;subst hcp;have hp0:pn=0:=by omega
 subst hp0;simp only [Nat.zero_add] at c3;clear hge2 hpI hpb;intro need B b l w hW hF;unfold Fits at hF;rw [hv] at hF ⊢;have HW:=lh hW;unfold ATree.ptr;by_cases hp:8 < need
 ·rw [decide_eq_true hp, Yb rfl] at hF ⊢;try simp only [zL, zM, zN] at hF
  have HW0:=HW;have HB0:Hid (Below B w w):=lh (Y8 _ _);have x0_0:=HW0.out.cell c0;have x1_0:=HW0.out.cell c3;have x2_0:=HW0.out.cell k0;have HS:Hid (∀ w,Calls Tryz.prog 83 #[.int .i64 (35)] w fun e w'=>e=.returned (.int .i64 (8))∧w'=w):=lh fun w=>by have h:=Z0b (35) w; rwa [show Zo (35)=8 by first | assumption | decide] at h
  have hcmp:(8 < need)=True:=by simp; omega
  clear hW HW hp hv;go_enter_defers Tryz.func56,Tryz.ntmps56
  go_wp2_with fail
  refine (HS.out _).mono ?_;rintro e w' ⟨rfl,hw'⟩;rw [hw'];clear hw' w' HS;go_wp2_with fail
  refine (Z5h HW0 HB0 40).mono ?_;rintro e w1 ⟨rfl,HW1,HB1⟩;have x0_1:=HW1.out.cell c0;have x1_1:=HW1.out.cell c3;have x2_1:=HW1.out.cell k0;go_wp2_with fail
  refine (Z36 Hmx HW1 HB1).mono ?_;rintro e w2 ⟨rfl,HW2,HB2⟩;have x0_2:=HW2.out.cell c3;go_wp2_with fail
  refine (HLs.out B b _ _ HW2.out (by show _ + (1 + ml.length + 1)≤_; simp only [zL,zM,zN]; omega)).mono ?_;rintro e w3 ⟨rfl,hw3,hb3⟩;have HW3:=lh hw3;have HB3:=lh (HB2.out.trans hb3);clear hw3 hb3;go_wp2_with fail
  refine leaves_cons (f:=24) (args:=#[.pointer (some ⟨b,0,none⟩),.int .u8 41]) (by simp) (by simp [go_sem]) ?_;refine (Z5o HW3 HB3 41 .returning).mono ?_;rintro e u' w'' ⟨rfl,rfl,hwf,hbf⟩;refine ⟨.tuple #[],by simp [results,Tryz.results56,go_sem],rfl,?_,hbf⟩;simpa using hwf
 ·rw [decide_eq_false hp, Y9 (by simp)] at hF ⊢;try simp only [zL, zM, zN] at hF
  have HW0:=HW;have HB0:Hid (Below B w w):=lh (Y8 _ _);have x0_0:=HW0.out.cell c0;have x1_0:=HW0.out.cell c3;have x2_0:=HW0.out.cell k0;have HS:Hid (∀ w,Calls Tryz.prog 83 #[.int .i64 (35)] w fun e w'=>e=.returned (.int .i64 (8))∧w'=w):=lh fun w=>by have h:=Z0b (35) w; rwa [show Zo (35)=8 by first | assumption | decide] at h
  have hcmp:(8 < need)=False:=by simp; omega
  clear hW HW hp hv;go_enter_defers Tryz.func56,Tryz.ntmps56
  go_wp2_with fail
  refine (HS.out _).mono ?_;rintro e w' ⟨rfl,hw'⟩;rw [hw'];clear hw' w' HS;go_wp2_with fail
  refine (Z36 Hmx HW0 HB0).mono ?_;rintro e w1 ⟨rfl,HW1,HB1⟩;have x0_1:=HW1.out.cell c3;go_wp2_with fail
  refine (HLs.out B b _ _ HW1.out (by show _ + (1 + ml.length + 1)≤_; simp only [zL,zM,zN]; omega)).mono ?_;rintro e w2 ⟨rfl,hw2,hb2⟩;have HW2:=lh hw2;have HB2:=lh (HB1.out.trans hb2);clear hw2 hb2;go_wp2_with fail
  refine ⟨.tuple #[],by simp [results,Tryz.results56,go_sem],rfl,?_,HB2.out⟩;have hwf:=HW2.out;simpa using hwf
theorem Zck {w0:World} {Bt:Nat} (a:ATree) (hT:TreeAt w0 Bt a) (h1:a.kind=35) (x:ATree) (r:List ATree) (hks:a.kids=x :: r) (hx:Z0e w0 x) (hl:Z5w w0 r) (hrl:r.length≤100000) (g cp:Nat) (c3':w0.cell? ⟨a.b,3,none⟩=some (.slice (some ⟨g,0,none⟩) a.kids.length cp)) (hge:a.kids.length≤cp) (hmx:cp≤maxLen) (hk:∀ (i:Nat) (x:ATree),a.kids[i]?=some x→w0.cell? ⟨g,i,none⟩=some x.ptr) (hcp:¬ cp=1):Z0e w0 a:=by
 have c0:=hT.c0;rw [h1] at c0;obtain ⟨pn,hpn⟩:=zX r.length
 have c3:w0.cell? ⟨a.b,3,none⟩=some (.slice (some ⟨g,0,none⟩) (pn + 1) cp):=by rw [hks] at c3'; rw [hpn]; exact c3'
 have hge2:pn + 1≤cp:=by rw [hks] at hge; rw [hpn]; exact hge
 unfold maxLen at hmx;have k0:=hk 0 x (by rw [hks]; rfl);unfold ATree.ptr at k0;have hv:∀ need,Zd (vP a.tree need)=if decide ((8:Int) < need)=true then 40 :: ((Zd (vP x.tree 8) ++ (40 :: (Zd (lP true (Zr r)) ++ [41]))) ++ [41]) else Zd (vP x.tree 8) ++ (40 :: (Zd (lP true (Zr r)) ++ [41])):=fun need=>by
  obtain ⟨ab,av,ak,tx,an,aks⟩:=a;simp only [ATree.kind,ATree.kids] at h1 hks ⊢;subst h1;subst hks;exact Z3w _ _ _ _ _ _ (by simp only [Zr]; rw [Z8z,Z7,Z4,Z7]; rfl) 8 (by decide)
 have hsl:Z4c w0 (.slice (some ⟨g,1,none⟩) pn (cp - 1)) r:=by
  rw [hpn];refine ⟨(some ⟨g,1,none⟩),(cp - 1),rfl,by omega,by unfold maxLen; omega,fun i y hy=>⟨g,1,?_,?_⟩⟩
  ·have:=(List.getElem?_eq_some_iff.1 hy).1;first | rfl | omega
  ·have:=hk (i + 1) y (by rw [hks]; exact hy);rwa [Nat.add_comm] at this
 have hl2:=fun B b l w=>hl ⟨#[40]⟩ ⟨#[41]⟩ (.slice (some ⟨g,1,none⟩) pn (cp - 1)) B b l w hsl;obtain ⟨ml,eml⟩:=zX (Zd (lP true (Zr r)))
 rw [← eml] at hl2;simp only [← eml] at hv;have HLs:=lh hl2;have hpI:(1:Int)≤((pn + 1:Nat):Int):=by omega
 have hpb:pn≤100000:=by omega
 clear eml hl hl2 hsl hpn hrl;have hmx:=hx.says (8);obtain ⟨mx,emx⟩:=zX (Zd (vP x.tree (8)))
 rw [← emx] at hmx;simp only [← emx] at hv;have Hmx:=lh hmx;clear emx hmx;clear hT h1 hks hk c3' hge;intro need B b l w hW hF;unfold Fits at hF;rw [hv] at hF ⊢;have HW:=lh hW;unfold ATree.ptr;by_cases hp:8 < need
 ·rw [decide_eq_true hp, Yb rfl] at hF ⊢;try simp only [zL, zM, zN] at hF
  have HW0:=HW;have HB0:Hid (Below B w w):=lh (Y8 _ _);have x0_0:=HW0.out.cell c0;have x1_0:=HW0.out.cell c3;have x2_0:=HW0.out.cell k0;have HS:Hid (∀ w,Calls Tryz.prog 83 #[.int .i64 (35)] w fun e w'=>e=.returned (.int .i64 (8))∧w'=w):=lh fun w=>by have h:=Z0b (35) w; rwa [show Zo (35)=8 by first | assumption | decide] at h
  have hcmp:(8 < need)=True:=by simp; omega
  clear hW HW hp hv;go_enter_defers Tryz.func56,Tryz.ntmps56
  go_wp2_with fail
  refine (HS.out _).mono ?_;rintro e w' ⟨rfl,hw'⟩;rw [hw'];clear hw' w' HS;go_wp2_with fail
  refine (Z5h HW0 HB0 40).mono ?_;rintro e w1 ⟨rfl,HW1,HB1⟩;have x0_1:=HW1.out.cell c0;have x1_1:=HW1.out.cell c3;have x2_1:=HW1.out.cell k0;go_wp2_with fail
  refine (Z36 Hmx HW1 HB1).mono ?_;rintro e w2 ⟨rfl,HW2,HB2⟩;have x0_2:=HW2.out.cell c3;go_wp2_with fail
  refine (HLs.out B b _ _ HW2.out (by show _ + (1 + ml.length + 1)≤_; simp only [zL,zM,zN]; omega)).mono ?_;rintro e w3 ⟨rfl,hw3,hb3⟩;have HW3:=lh hw3;have HB3:=lh (HB2.out.trans hb3);clear hw3 hb3;go_wp2_with fail
  refine leaves_cons (f:=24) (args:=#[.pointer (some ⟨b,0,none⟩),.int .u8 41]) (by simp) (by simp [go_sem]) ?_;refine (Z5o HW3 HB3 41 .returning).mono ?_;rintro e u' w'' ⟨rfl,rfl,hwf,hbf⟩;refine ⟨.tuple #[],by simp [results,Tryz.results56,go_sem],rfl,?_,hbf⟩;simpa using hwf
 ·rw [decide_eq_false hp, Y9 (by simp)] at hF ⊢;try simp only [zL, zM, zN] at hF
  have HW0:=HW;have HB0:Hid (Below B w w):=lh (Y8 _ _);have x0_0:=HW0.out.cell c0;have x1_0:=HW0.out.cell c3;have x2_0:=HW0.out.cell k0;have HS:Hid (∀ w,Calls Tryz.prog 83 #[.int .i64 (35)] w fun e w'=>e=.returned (.int .i64 (8))∧w'=w):=lh fun w=>by have h:=Z0b (35) w; rwa [show Zo (35)=8 by first | assumption | decide] at h
  have hcmp:(8 < need)=False:=by simp; omega
  clear hW HW hp hv;go_enter_defers Tryz.func56,Tryz.ntmps56
  go_wp2_with fail
  refine (HS.out _).mono ?_;rintro e w' ⟨rfl,hw'⟩;rw [hw'];clear hw' w' HS;go_wp2_with fail
  refine (Z36 Hmx HW0 HB0).mono ?_;rintro e w1 ⟨rfl,HW1,HB1⟩;have x0_1:=HW1.out.cell c3;go_wp2_with fail
  refine (HLs.out B b _ _ HW1.out (by show _ + (1 + ml.length + 1)≤_; simp only [zL,zM,zN]; omega)).mono ?_;rintro e w2 ⟨rfl,hw2,hb2⟩;have HW2:=lh hw2;have HB2:=lh (HB1.out.trans hb2);clear hw2 hb2;go_wp2_with fail
  refine ⟨.tuple #[],by simp [results,Tryz.results56,go_sem],rfl,?_,HB2.out⟩;have hwf:=HW2.out;simpa using hwf
theorem Zeo {w0:World} {Bt:Nat} (a:ATree) (hT:TreeAt w0 Bt a) (h1:a.kind=35) (x:ATree) (r:List ATree) (hks:a.kids=x :: r) (hx:Z0e w0 x) (hl:Z5w w0 r) (hrl:r.length≤100000):Z0e w0 a:=by
 obtain ⟨g,cp,c3',hge,hmx,hgl,hk⟩:=Z5q hT (by rw [hks]; simp);by_cases hcp:cp=1;·exact Zc9 a hT h1 x r hks hx hl hrl g cp c3' hge hmx hk hcp
 ·exact Zck a hT h1 x r hks hx hl hrl g cp c3' hge hmx hk hcp
theorem Zlo {w0:World} {Bt:Nat} (a:ATree) (hT:TreeAt w0 Bt a) (h1:a.kind=5) (p q:ATree) (hks:a.kids=[p,q]) (hf:Zh5 w0 a (Zd (fnP a.text (lP true (Zr p.kids)) (sP q.tree)))):Z2e w0 a:=by
 have c0:=hT.c0;rw [h1] at c0;have c1:=hT.c1;have hv:Zd (sP a.tree)=Zd (fnP a.text (lP true (Zr p.kids)) (sP q.tree)):=by
  obtain ⟨ab,av,ak,tx,an,aks⟩:=a;obtain ⟨pb,pv,pk,pt,pn,pks⟩:=p;simp only [ATree.kind,ATree.kids,ATree.text] at h1 hks ⊢;subst h1;subst hks;simp only [Zr,ATree.tree];rw [Zgr]
 obtain ⟨mf,emf⟩:=zX (Zd (fnP a.text (lP true (Zr p.kids)) (sP q.tree)))
 rw [← emf] at hf;simp only [← emf] at hv;have HF2:=lh hf;clear hT h1 hks emf hf;intro B b l w hW hF;unfold Fits at hF;rw [hv] at hF ⊢;try simp only [zL,zM,zN] at hF
 have HW0:=lh hW;have HB0:Hid (Below B w w):=lh (Y8 _ _);unfold ATree.ptr;have x0_0:=HW0.out.cell c0;clear hW hv;go_enter Tryz.func23,Tryz.ntmps23
 go_wp2_with fail
 refine (Z36 HF2 HW0 HB0).mono ?_;rintro e w1 ⟨rfl,HW1,HB1⟩;have x0_1:=HW1.out.cell c0;go_wp2_with fail
 first | go_end0 | refine bodyPost_ret (results_none rfl _ _ _) rfl ?_
 exact ⟨rfl,by simpa using HW1.out,HB1.out⟩
theorem Zku {w0:World} {Bt:Nat} (a:ATree) (hT:TreeAt w0 Bt a) (h1:a.kind=15) (x:ATree) (hks:a.kids=[x]) (hx:Z0e w0 x):Z2e w0 a:=by
 have c0:=hT.c0;rw [h1] at c0;have c1:=hT.c1;obtain ⟨g,cp,c3,hge2,hmx,hgl,hk⟩:=Z3a hT hks 1 rfl (by decide);have k0:=hk 0 x rfl;have HAB:=lh hT.lt;have hv:Zd (sP a.tree)=(if Z6y (Zd (vP x.tree 0)) then 40 :: (Zd (vP x.tree 0) ++ [41]) else Zd (vP x.tree 0)) ++ [59]:=by
  obtain ⟨ab,av,ak,tx,an,aks⟩:=a;simp only [ATree.kind,ATree.kids] at h1 hks;subst h1;subst hks;simp only [Zr,ATree.tree];rw [Zgh,Z7];unfold Zfm Z9o;split;·rw [Z4,Z7]; rfl
  ·rfl
 have hmx:=hx.says 0;obtain ⟨mx,emx⟩:=zX (Zd (vP x.tree 0))
 rw [← emx] at hmx;simp only [← emx] at hv;have Hmx:=lh hmx;clear emx hmx;clear hT h1 hks hk;intro B b l w hW hF;unfold Fits at hF;rw [hv] at hF ⊢;have hml:l.length + (mx.length + 1)≤140737488355328:=by
  rw [Yq] at hF;split at hF;·simp only [zL,zM,zN] at hF; omega
  ·simp only [zL,zM,zN] at hF; omega
 have HF:=lh hF;have HW:=lh hW;have hWn:BW w0 w.heap.size w.heap.size [] (w.alloc (.cells #[.pointer none,.slice none 0 0] 69)):=⟨(BAt.new w).is,hW.bel.alloc (Ya hW.low hW.sz) _,Ya hW.low hW.sz,by rw [World.size_alloc]; omega⟩
 have HWN:=lh hWn;have y0:=hWn.cell c0;have y3:=hWn.cell c3;have yk:=hWn.cell k0;have x0:=hW.cell c0;have x3:=hW.cell c3;have xk:=hW.cell k0;have hab:a.b < w.heap.size:=by
  have h1:a.b < w0.heap.size:=HAB.out;have:=hW.bel.size; omega
 have hgb:g < w.heap.size:=by have:=hW.bel.size; omega
 have q1:¬ 9223372036854775807 < 1 + mx.length:=by omega
 have q2:¬ 9223372036854775807 < 1 + mx.length + 1:=by omega
 have q3:¬ 9223372036854775807 < 1 + mx.length + 1 + 1:=by omega
 have q4:¬ 9223372036854775807 < mx.length + 1:=by omega
 obtain ⟨b1,hb1⟩:=zX (Lib.hasPrefix mx [123])
 obtain ⟨b2,hb2⟩:=zX (Lib.hasPrefix mx [102,117,110,99,116,105,111,110,40])
 obtain ⟨b3,hb3⟩:=zX (Lib.hasPrefix mx [102,117,110,99,116,105,111,110,32])
 have hst:Z6y mx=(b1 || b2 || b3):=by rw [hb1,hb2,hb3]; rfl
 have P1:Hid (∀ w,Calls Tryz.prog 31 #[.string ⟨mx.toArray⟩,.string ⟨#[123]⟩] w fun e w'=>e=.returned (.bool b1)∧w'=w):=lh fun w=>by rw [hb1]; exact Tryz.strings_HasPrefix ⟨mx.toArray⟩ ⟨#[123]⟩ w
 have P2:Hid (∀ w,Calls Tryz.prog 31 #[.string ⟨mx.toArray⟩,.string ⟨#[102,117,110,99,116,105,111,110,40]⟩] w fun e w'=>e=.returned (.bool b2)∧w'=w):=lh fun w=>by rw [hb2]; exact Tryz.strings_HasPrefix ⟨mx.toArray⟩ ⟨#[102,117,110,99,116,105,111,110,40]⟩ w
 have P3:Hid (∀ w,Calls Tryz.prog 31 #[.string ⟨mx.toArray⟩,.string ⟨#[102,117,110,99,116,105,111,110,32]⟩] w fun e w'=>e=.returned (.bool b3)∧w'=w):=lh fun w=>by rw [hb3]; exact Tryz.strings_HasPrefix ⟨mx.toArray⟩ ⟨#[102,117,110,99,116,105,111,110,32]⟩ w
 rw [hst] at HF ⊢;obtain ⟨res,hres⟩:=zX ((if (b1 || b2 || b3)=true then 40 :: (mx ++ [41]) else mx) ++ [59])
 rw [← hres] at HF ⊢;have HR:=lh hres;obtain ⟨s1,hs1⟩:∃ s:ByteArray,s=⟨#[40]⟩ ++ ⟨mx.toArray⟩ ++ ⟨#[41]⟩ ++ ⟨#[59]⟩:=⟨_,rfl⟩
 obtain ⟨s2,hs2⟩:∃ s:ByteArray,s=⟨mx.toArray⟩ ++ ⟨#[59]⟩:=⟨_,rfl⟩
 have t1:s1.data.toList=40 :: (mx ++ [41]) ++ [59]:=by rw [hs1]; simp [ByteArray.data_append]
 have t2:s2.data.toList=mx ++ [59]:=by rw [hs2]; simp [ByteArray.data_append]
 have S1:=lh hs1;have S2:=lh hs2;have T1:=lh t1;have T2:=lh t2;have HMX:Hid (([]:List UInt8).length + mx.length≤140737488355328):=lh (by simp; omega);clear hW hF hWn hb1 hb2 hb3 hst hs1 hs2 t1 t2 hv hres;unfold ATree.ptr;go_enter Tryz.func23,Tryz.ntmps23
 go_wp2_with fail
 refine (Hmx.out w.heap.size w.heap.size _ _ HWN.out HMX.out).mono ?_;rintro e w2 ⟨rfl,hw2,hn2⟩;have HW2:=lh hw2;have HN2:=lh (((Y8 w.heap.size w).alloc (Y5 _) _).trans hn2);clear hw2 hn2;go_wp2_with fail
 refine (Tryz.Builder_String_any w.heap.size w.heap.size mx w2 (by have h:=HW2.out.is; rwa [List.nil_append] at h) HW2.out.sz).mono ?_;rintro e w3 ⟨rfl,hn3⟩;have HN3:=lh (HN2.out.trans hn3);have HW3:=lh (HW.out.keep HN3.out);have HB3:=lh (HN3.out.mono HW.out.sz |> fun h=>h);clear hn3;go_wp2_with fail
 refine (P1.out _).mono ?_;rintro e w' ⟨rfl,hw'⟩;rw [hw'];clear hw' w';cases b1 <;> (focus go_wp2_with fail)
 all_goals (try (focus (refine (P2.out _).mono ?_; rintro e w' ⟨rfl,hw'⟩; rw [hw']; clear hw' w'; cases b2 <;> (focus go_wp2_with fail))))
 all_goals (try (focus (refine (P3.out _).mono ?_; rintro e w' ⟨rfl,hw'⟩; rw [hw']; clear hw' w'; cases b3 <;> (focus go_wp2_with fail))))
 all_goals focus
  first
   | (rw [← S1.out]
      refine (HW3.out.str s1 (by have:=HF.out; rw [HR.out] at this; rw [T1.out]; simpa using this)).mono ?_;rintro e w4 ⟨rfl,hw4,hb4⟩;go_wp2_with fail
      first | go_end0 | refine bodyPost_ret (results_none rfl _ _ _) rfl ?_
      exact ⟨rfl,by rw [T1.out] at hw4; rw [HR.out]; simpa using hw4,HB3.out.trans hb4⟩)
   | (rw [← S2.out]
      refine (HW3.out.str s2 (by rw [T2.out,Yq,List.length_singleton]; omega)).mono ?_;rintro e w4 ⟨rfl,hw4,hb4⟩;go_wp2_with fail
      first | go_end0 | refine bodyPost_ret (results_none rfl _ _ _) rfl ?_
      exact ⟨rfl,by rw [T2.out] at hw4; rw [HR.out]; simpa using hw4,HB3.out.trans hb4⟩)
theorem Zkw (f:Bool) (L:List Tree) (x:Tree):bP f (L ++ [x])=bP f L ++ (sepP (f && L.isEmpty) [sp] ++ sP x):=by
 induction L generalizing f with
 | nil=>rw [List.nil_append,Z6d,Z94,Z94]; simp
 | cons y L ih=>rw [List.cons_append,Z6d,Z6d,ih]; simp
theorem Zmh:∀ (M N:List ATree) (f:Bool),(Zd (bP f (Zr M))).length≤(Zd (bP f (Zr (M ++ N)))).length:=by
 intro M;induction M with
 | nil=>intro N f; rw [show Zr ([]:List ATree)=[] from rfl,Z94]; simp [Zj]
 | cons y M ih =>
   intro N f;rw [List.cons_append,Zr,Zr,Z6d,Z6d,Z7,Z7,Z7,Z7];simp only [List.length_append];have:=ih N false;omega
theorem Zdz {w0:World} {Bt:Nat} (a:ATree) (hT:TreeAt w0 Bt a) (h1:a.kind=6) (hL:∀ x∈a.kids,Z2e w0 x) (hlen:a.kids.length≤1000000):Z2e w0 a:=by
 have c0:=hT.c0;rw [h1] at c0;have c3:=hT.c3;have hV:=Z4j hT;have hv:Zd (sP a.tree)=123 :: (Zd (bP true (Zr a.kids)) ++ [125]):=by
  obtain ⟨ab,av,ak,tx,an,aks⟩:=a;simp only [ATree.kind,ATree.kids] at h1 ⊢;subst h1;simp only [ATree.tree];rw [Z99,Z4,Z7]; rfl
 obtain ⟨L,hLL⟩:=zX a.kids
 rw [← hLL] at hL hlen hv hV;clear hLL;intro B b l w hW hF;unfold Fits at hF;rw [hv] at hF ⊢;simp only [zL,zM,zN] at hF;obtain ⟨p,cp,hpv,hge,hmx,hk⟩:=hV;rw [hpv] at c3;have HF:=lh hF;have HW:=lh hW;have HK:=lh hk;have HL:=lh hL;have x0:=HW.out.cell c0;have x3:=HW.out.cell c3;obtain ⟨n,hn⟩:=zX L.length
 have HN:=lh hn;rw [← hn] at hge hlen c3 x3;unfold maxLen at hmx;have HO:=lh (hW.byte 123 (by omega));unfold ATree.ptr;clear hW hF hk hL hn hv hpv hT;go_enter Tryz.func23,Tryz.ntmps23
 go_wp2_with fail
 refine HO.out.mono ?_;rintro e' w1 ⟨rfl,hw1,hb1⟩;have HW1:=lh hw1;have HB1:=lh hb1;have y3:=HW1.out.cell c3;clear hw1 hb1 HO;go_wp2_with fail
 go_loopw [89] (fun i wr=>∃ k:Nat,k≤n∧i=.int .i64 k∧Hid (BW w0 B b (l ++ [123] ++ Zd (bP true (Zr (L.take k)))) wr)∧Hid (Below B w wr)) (fun i _=>n - (intOf i).toNat)
 case atStart=>exact ⟨0,by omega,rfl,by simpa [Zr,Z94,Zj] using HW1,HB1⟩
 case round=>
  obtain ⟨k,hkn,rfl,HWk,HBk⟩:=hrel;clear HW1 HB1;by_cases hlt:k < n
  ·obtain ⟨x, hx⟩ : ∃ x, L[k]? = some x := ⟨_, Yd (by rw [← HN.out]; exact hlt)⟩
   obtain ⟨g,off,rfl,hc⟩:=HK.out k x hx;have cx:=HWk.out.cell hc;have hWx:=(HL.out x (Yl hx)).says;have htk:L.take (k + 1)=L.take k ++ [x]:=by rw [List.take_add_one,hx]; rfl
   have hsn:Zd (bP true (Zr (L.take (k + 1))))=Zd (bP true (Zr (L.take k))) ++ ((if k=0 then [] else [32]) ++ Zd (sP x.tree)):=by
    rw [htk,Z2j,show Zr [x]=[x.tree] from rfl,Zkw,Z7,Z7];congr 2
    have hem:(Zr (L.take k)).isEmpty=decide (k=0):=by
     cases k with
     | zero=>rfl
     | succ k =>
       cases L with
       | nil=>cases hx
       | cons y L=>rfl
    rw [hem];by_cases h0:k=0;·rw [decide_eq_true h0,Yb h0]; rfl
    ·rw [decide_eq_false h0,Y9 h0]; rfl
   have hpre:(Zd (bP true (Zr (L.take (k + 1))))).length≤(Zd (bP true (Zr L))).length:=by
    have h:=Zmh (L.take (k + 1)) (L.drop (k + 1)) true;rwa [List.take_append_drop] at h
   obtain ⟨P,hP⟩:=zX (Zd (bP true (Zr (L.take k))))
   obtain ⟨X,hX⟩:=zX (Zd (sP x.tree))
   have hft:=HF.out;rw [hsn,← hP,← hX] at hpre;simp only [List.length_append] at hpre;have hbd:l.length + (1 + (P.length + ((if k=0 then ([]:List UInt8) else [32]).length + X.length)))≤140737488355328:=by omega
   have HBD:=lh hbd;have HSN:=lh hsn;have HPX:=lh (And.intro hP hX);rw [← hP] at HWk;rw [← hX] at hWx;have HWX:=lh hWx;unfold ATree.ptr at cx;have hkI:((k:Nat):Int) < (n:Int):=by omega
   clear hc htk hsn hpre hft hbd hP hX hWx hx;by_cases h0:k=0
   ·subst h0;rw [Nat.add_zero] at cx;go_wp2_with fail
    refine (HWX.out B b _ _ HWk.out (by have:=HBD.out; simp only [if_pos,List.length_nil,List.length_append,List.length_cons] at this ⊢; omega)).mono ?_;rintro e' w2 ⟨rfl,hw2,hb2⟩;have HW2:=lh hw2;have HB2:=lh (HBk.out.trans hb2);clear hw2 hb2;go_wp2;go_roundw
    case rel=>exact ⟨1,by omega,rfl,lh (by have h:=HW2.out; rw [HSN.out,← HPX.out.1,← HPX.out.2]; simpa using h),HB2⟩
    case measure=>simp [intOf]; omega
   ·have hkp : (0 : Int) < ((k : Nat) : Int) := by omega
    go_wp2_with fail
    refine (HWk.out.byte 32 (by have:=HBD.out; rw [Y9 h0] at this; simp only [zL,zM,zN] at this ⊢; omega)).mono ?_;rintro e' w2 ⟨rfl,hw2,hb2⟩;have HW2:=lh hw2;have HB2:=lh (HBk.out.trans hb2);clear hw2 hb2;go_wp2_with fail
    refine (HWX.out B b _ _ HW2.out (by have:=HBD.out; rw [Y9 h0] at this; simp only [zL,zM,zN] at this ⊢; omega)).mono ?_;rintro e' w3 ⟨rfl,hw3,hb3⟩;have HW3:=lh hw3;have HB3:=lh (HB2.out.trans hb3);clear hw3 hb3;go_wp2;go_roundw
    case rel=>exact ⟨k + 1,by omega,rfl,lh (by have h:=HW3.out; rw [HSN.out,← HPX.out.1,← HPX.out.2,Y9 h0]; simpa using h),HB3⟩
    case measure=>simp [intOf]; omega
  ·have hkn2 : k = n := by omega
   subst hkn2;have HWn:Hid (BW w0 B b (l ++ [123] ++ Zd (bP true (Zr L))) wr):=lh (by
    have h:=HWk.out;rwa [Ym (by rw [HN.out]; exact Y5 _)] at h)
   have HE:=lh (HWn.out.byte 125 (by have:=HF.out; simp only [zL,zM,zN] at this ⊢; omega));clear HWk;go_wp2_with fail
   refine HE.out.mono ?_;rintro e' w2 ⟨rfl,hw2,hb2⟩;have HW2:=lh hw2;have HB2:=lh (HBk.out.trans hb2);clear hw2 hb2 HE;go_wp2;first | go_end0 | refine bodyPost_ret (results_none rfl _ _ _) rfl ?_
   exact ⟨rfl,by simpa using HW2.out,HB2.out⟩
theorem Zk0 (L M:List Tree):cP (L ++ M)=cP L ++ cP M:=by
 induction L with
 | nil=>rw [Z9l]; rfl
 | cons y L ih =>
   obtain ⟨k,t,n,ks⟩:=y;rw [List.cons_append,cP.eq_def,cP.eq_def (.mk k t n ks :: L)];simp only;rw [ih,List.append_assoc]
def Z77 (w0:World) (Bt:Nat) (x:ATree):Prop:=∃ c,TreeAt w0 Bt x∧x.kids=[c]∧(x.kind=13∨x.kind=14)∧x.text.size≤1000000∧Z2e w0 c
theorem Zkq {x c:ATree} (hk:x.kids=[c]) (h:x.kind=13∨x.kind=14):Zd (cP [x.tree])=(if x.kind=13 then [32,99,97,116,99,104,32,40] ++ (x.text.data.toList ++ [41,32]) else [32,102,105,110,97,108,108,121,32]) ++ Zd (sP c.tree):=by
 rcases h with h | h
 ·rw [Yb h];obtain ⟨ab,av,ak,tx,an,aks⟩:=x;simp only [ATree.kind,ATree.kids,ATree.text] at h hk ⊢;subst h hk;simp only [ATree.tree,Zr];rw [Z8t,Z9l,List.append_nil];simp only [Z4];simp [Pc.bytes,Z0r]
 ·rw [Y9 (by omega)];obtain ⟨ab,av,ak,tx,an,aks⟩:=x;simp only [ATree.kind,ATree.kids,ATree.text] at h hk ⊢;subst h hk;simp only [ATree.tree,Zr];rw [Z5z,Z9l,List.append_nil];simp only [Z4];simp [Pc.bytes,Zt]
theorem Zd7 {w0:World} {Bt:Nat} (a:ATree) (hT:TreeAt w0 Bt a) (h1:a.kind=12) (y:ATree) (L:List ATree) (hks:a.kids=y :: L) (hy:Z2e w0 y) (hne:1≤L.length) (hL:∀ x∈L,Z77 w0 Bt x) (hlen:L.length≤1000000):Z2e w0 a:=by
 have c0:=hT.c0;rw [h1] at c0;obtain ⟨g,cp,c3',hge,hmx,hgl,hk⟩:=Z5q hT (by rw [hks]; simp);obtain ⟨n,hn⟩:=zX L.length
 have c3:w0.cell? ⟨a.b,3,none⟩=some (.slice (some ⟨g,0,none⟩) (n + 1) cp):=by rw [hks] at c3'; rw [hn]; exact c3'
 have hge2:n + 1≤cp:=by rw [hks] at hge; rw [hn]; exact hge
 unfold maxLen at hmx;have k0:=hk 0 y (by rw [hks]; rfl);have hkk:∀ (i:Nat) (x:ATree),L[i]?=some x→w0.cell? ⟨g,1 + i,none⟩=some x.ptr:=fun i x hx=>by
  have:=hk (i + 1) x (by rw [hks]; exact hx);rwa [Nat.add_comm] at this
 unfold ATree.ptr at k0;have hv:Zd (sP a.tree)=[116,114,121,32] ++ (Zd (sP y.tree) ++ Zd (cP (Zr L))):=by
  obtain ⟨ab,av,ak,tx,an,aks⟩:=a;simp only [ATree.kind,ATree.kids] at h1 hks;subst h1;subst hks;simp only [ATree.tree,Zr];rw [Z9d,Z4,Z4,Z7]; rfl
 intro B b l w hW hF;unfold Fits at hF;have hys:=hy.says;obtain ⟨Y,hY⟩:=zX (Zd (sP y.tree))
 rw [← hY] at hv hys;rw [hv] at hF ⊢;simp only [zL,zM,zN] at hF;have HF:=lh hF;have HW:=lh hW;have HK:=lh hkk;have HL:=lh hL;have HY:=lh hys;have x0:=HW.out.cell c0;have x3:=HW.out.cell c3;have HN:=lh hn;rw [← hn] at hne hlen;have HO:=lh (hW.str ⟨#[116,114,121,32]⟩ (by show _ + 4≤_; omega));have hcp1:¬ cp=1:=by omega
 have hnI:(1:Int)≤((n + 1:Nat):Int):=by omega
 unfold ATree.ptr;clear hW hF hk hkk hL hn hv hT hks hys hy hY c3' hge;go_enter Tryz.func23,Tryz.ntmps23
 go_wp2_with fail
 refine HO.out.mono ?_;rintro e' w1 ⟨rfl,hw1,hb1⟩;have HW1:=lh hw1;have HB1:=lh hb1;have y3:=HW1.out.cell c3;have y0:=HW1.out.cell k0;clear hw1 hb1 HO;go_wp2_with fail
 refine (HY.out B b _ _ HW1.out (by have:=HF.out; show (l ++ [116,114,121,32]).length + _≤_; simp only [zL,zM,zN]; omega)).mono ?_;rintro e' w2 ⟨rfl,hw2,hb2⟩;have HW2:Hid (BW w0 B b (l ++ [116,114,121,32] ++ Y) w2):=lh hw2;have HB2:=lh (HB1.out.trans hb2);have z3:=HW2.out.cell c3;clear hw2 hb2 HY;go_wp2_with fail
 go_loopw [200] (fun i wr=>∃ k:Nat,k≤n∧i=.int .i64 k∧Hid (BW w0 B b (l ++ [116,114,121,32] ++ Y ++ Zd (cP (Zr (L.take k)))) wr)∧Hid (Below B w wr)) (fun i _=>n - (intOf i).toNat)
 case atStart=>exact ⟨0,by omega,rfl,by simpa [Zr,Z9l,Zj] using HW2,HB2⟩
 case round=>
  obtain ⟨k,hkn,rfl,HWk,HBk⟩:=hrel;clear HW2 HB2 HW1 HB1;by_cases hlt:k < n
  ·obtain ⟨x, hx⟩ : ∃ x, L[k]? = some x := ⟨_, Yd (by rw [← HN.out]; exact hlt)⟩
   have hc:=HK.out k x hx;have cx:=HWk.out.cell hc;obtain ⟨c,hTx,hxk,hxk2,hxt,hcs⟩:=HL.out x (Yl hx);have htk:L.take (k + 1)=L.take k ++ [x]:=by rw [List.take_add_one,hx]; rfl
   have hsn:Zd (cP (Zr (L.take (k + 1))))=Zd (cP (Zr (L.take k))) ++ Zd (cP [x.tree]):=by
    rw [htk,Z2j,show Zr [x]=[x.tree] from rfl,Zk0,Z7]
   rw [Zkq hxk hxk2] at hsn;have hpre:(Zd (cP (Zr (L.take (k + 1))))).length≤(Zd (cP (Zr L))).length:=by
    have h:Zr L=Zr (L.take (k + 1)) ++ Zr (L.drop (k + 1)):=by rw [← Z2j,List.take_append_drop]
    rw [h,Zk0,Z7,Yq]; omega
   obtain ⟨P,hP⟩:=zX (Zd (cP (Zr (L.take k))))
   obtain ⟨X,hX⟩:=zX (Zd (sP c.tree))
   have hWx:=hcs.says;have hft:=HF.out;rw [hsn,← hP,← hX] at hpre;have e0:=HWk.out.cell hTx.c0;have e1:=HWk.out.cell hTx.c1;have d3:=hTx.c3;obtain ⟨gx,cpx,d3',hgex,hmxx,hglx,hkx⟩:=Z5q hTx (by rw [hxk]; simp);rw [hxk] at d3';have d3'':w0.cell? ⟨x.b,3,none⟩=some (.slice (some ⟨gx,0,none⟩) 1 cpx):=d3';have hgex1:1≤cpx:=by rw [hxk] at hgex; exact hgex
   unfold maxLen at hmxx;have ec:=hkx 0 c (by rw [hxk]; rfl);unfold ATree.ptr at ec;rw [← hP] at HWk;rw [← hX] at hWx;have HWX:=lh hWx;unfold ATree.ptr at cx;have hkI:((k:Nat):Int) < (n:Int):=by omega
   have HD3:=lh d3'';have HEC:=lh ec;obtain ⟨tx,htx⟩:=zX x.text
   rw [← htx] at e1 hxt hsn hpre;obtain ⟨sx,hsx⟩:∃ sx:ByteArray,sx=⟨#[32,99,97,116,99,104,32,40]⟩ ++ tx ++ ⟨#[41,32]⟩:=⟨_,rfl⟩
   have hsl:[32,99,97,116,99,104,32,40] ++ (tx.data.toList ++ [41,32])=sx.data.toList:=by rw [hsx]; simp [ByteArray.data_append]
   rw [hsl] at hsn hpre;have HSX:=lh hsx;have HSN:=lh hsn;have HPX:=lh (And.intro hP hX);have q1:¬ 9223372036854775807 < 8 + tx.size:=by omega
   have q2:¬ 9223372036854775807 < 8 + tx.size + 2:=by omega
   clear hc htk hsn hP hX hWx hx d3 d3' d3'' hgex hkx ec hsl hsx htx hTx hcs hxk;rcases hxk2 with hk13 | hk14
   ·rw [hk13] at e0;rw [Yb hk13] at hpre;simp only [List.length_append] at hpre;have hbd : l.length + (4 + (Y.length + (P.length + (sx.data.toList.length + X.length)))) ≤ 140737488355328 := by omega
    have HBD:=lh hbd;clear hpre hft hbd;go_wp2_with fail
    rw [← HSX.out];refine (HWk.out.str sx (by have:=HBD.out; simp only [zL,zM,zN] at this ⊢; omega)).mono ?_;rintro e' w3 ⟨rfl,hw3,hb3⟩;have HW3:=lh hw3;have HB3:=lh (HBk.out.trans hb3);have u3:=HW3.out.cell HD3.out;have uc:=HW3.out.cell HEC.out;clear hw3 hb3;go_wp2_with fail
    refine (HWX.out B b _ _ HW3.out (by have:=HBD.out; simp only [zL,zM,zN] at this ⊢; omega)).mono ?_;rintro e' w4 ⟨rfl,hw4,hb4⟩;have HW4:=lh hw4;have HB4:=lh (HB3.out.trans hb4);clear hw4 hb4;go_wp2;go_roundw
    case rel=>exact ⟨k + 1,by omega,rfl,lh (by have h:=HW4.out; rw [HSN.out,← HPX.out.1,← HPX.out.2,Yb hk13]; simpa using h),HB4⟩
    case measure=>simp [intOf]; omega
   ·rw [hk14] at e0;have hk13 : ¬ x.kind = 13 := by omega
    rw [Y9 hk13] at hpre;simp only [List.length_append] at hpre;have hbd:l.length + (4 + (Y.length + (P.length + (9 + X.length))))≤140737488355328:=by simp only [List.length_cons,List.length_nil] at hpre; omega
    have HBD:=lh hbd;clear hpre hft hbd;go_wp2_with fail
    refine (HWk.out.str ⟨#[32,102,105,110,97,108,108,121,32]⟩ (by have:=HBD.out; simp only [zL,zM,zN] at this ⊢; omega)).mono ?_;rintro e' w3 ⟨rfl,hw3,hb3⟩;have HW3:=lh hw3;have HB3:=lh (HBk.out.trans hb3);have u3:=HW3.out.cell HD3.out;have uc:=HW3.out.cell HEC.out;clear hw3 hb3;go_wp2_with fail
    refine (HWX.out B b _ _ HW3.out (by have:=HBD.out; simp only [zL,zM,zN] at this ⊢; omega)).mono ?_;rintro e' w4 ⟨rfl,hw4,hb4⟩;have HW4:=lh hw4;have HB4:=lh (HB3.out.trans hb4);clear hw4 hb4;go_wp2;go_roundw
    case rel=>exact ⟨k + 1,by omega,rfl,lh (by have h:=HW4.out; rw [HSN.out,← HPX.out.1,← HPX.out.2,Y9 hk13]; simpa using h),HB4⟩
    case measure=>simp [intOf]; omega
  ·have hkn2 : k = n := by omega
   subst hkn2;have HWn:Hid (BW w0 B b (l ++ [116,114,121,32] ++ Y ++ Zd (cP (Zr L))) wr):=lh (by
    have h:=HWk.out;rwa [Ym (by rw [HN.out]; exact Y5 _)] at h)
   clear HWk;go_wp2;first | go_end0 | refine bodyPost_ret (results_none rfl _ _ _) rfl ?_
   exact ⟨rfl,by simpa using HWn.out,HBk.out⟩
theorem Z0p {a:ATree} {k:Int} {s:ByteArray} {n:Int} {ks:List Tree} (h:a.tree=.mk k s n ks):a.kind=k∧a.text=s∧a.n=n∧Zr a.kids=ks:=by
 obtain ⟨ab,av,ak,tx,an,aks⟩:=a;simp only [ATree.tree,Tree.mk.injEq] at h;exact h
theorem Zy {l:List ATree} (h:Zr l=[]):l=[]:=by cases l with | nil=>rfl | cons a l=>simp [Zr] at h
theorem Zg {l:List ATree} {t:Tree} {r:List Tree} (h:Zr l=t :: r):∃ a l',l=a :: l'∧a.tree=t∧Zr l'=r:=by
 cases l with
 | nil=>simp [Zr] at h
 | cons a l=>simp only [Zr,List.cons.injEq] at h; exact ⟨a,l,rfl,h.1,h.2⟩
theorem Z2x (l:List Tree):l.length≤Zv l:=by
 induction l with
 | nil=>simp [Zv]
 | cons x l ih =>
   have:1≤x.many:=by cases x; simp [Tree.many]
   simp only [Zv,List.length_cons]; omega
theorem Z2p:∀ l:List ATree,(Zr l).length=l.length:=fun l=>by rw [Z26,Yv]
def Srt.st:Srt→Bool
 | .b | .k | .s | .sl=>true
 | _=>false
structure Tabs (w:World):Prop where
 pow:Pow w
 signs:Zd4 w
 heads:Z5b w
def WG (w0:World) (c:Srt) (l:List Tree):Prop:=Zv l≤100000→∀ (Bt:Nat) (L:List ATree),Zr L=l→(∀ x∈L,TreeAt w0 Bt x)→∀ x∈L,(c.st=true→Z2e w0 x)∧(c.st=false→Z0e w0 x)
section
variable {w0:World} {t:Tree} {l:List Tree} {Bt:Nat} {a:ATree} {c:Srt}
theorem Z42:Zv [t]=t.many:=by simp [Zv]
theorem WG.w (h:WG w0 c [t]) (e:a.tree=t) (hT:TreeAt w0 Bt a) (hm:t.many≤100000) (hc:c.st=false):Z0e w0 a:=
 (h (by rw [Z42]; exact hm) Bt [a] (by rw [← e]; rfl) (by simpa using hT) a (by simp)).2 hc
theorem WG.s (h:WG w0 c [t]) (e:a.tree=t) (hT:TreeAt w0 Bt a) (hm:t.many≤100000) (hc:c.st=true):Z2e w0 a:=
 (h (by rw [Z42]; exact hm) Bt [a] (by rw [← e]; rfl) (by simpa using hT) a (by simp)).1 hc
theorem WG.ofW (hc:c.st=false) (h:t.many≤100000→∀ (Bt:Nat) (a:ATree),a.tree=t→TreeAt w0 Bt a→Z0e w0 a):WG w0 c [t]:=by
 intro hm Bt L hL hT x hx;obtain ⟨a,L',rfl,ha,h2⟩:=Zg hL;have h3:=Zy h2;subst h3;have:x=a:=by simpa using hx
 subst this;exact ⟨fun e=>by (rw [hc] at e; cases e),fun _=>h (by rw [Z42] at hm; exact hm) Bt x ha (hT x hx)⟩
theorem WG.ofS (hc:c.st=true) (h:t.many≤100000→∀ (Bt:Nat) (a:ATree),a.tree=t→TreeAt w0 Bt a→Z2e w0 a):WG w0 c [t]:=by
 intro hm Bt L hL hT x hx;obtain ⟨a,L',rfl,ha,h2⟩:=Zg hL;have h3:=Zy h2;subst h3;have:x=a:=by simpa using hx
 subst this;exact ⟨fun _=>h (by rw [Z42] at hm; exact hm) Bt x ha (hT x hx),fun e=>by (rw [hc] at e; cases e)⟩
theorem WG.cons {c':Srt} (hc:c'.st=c.st) (h1:WG w0 c' [t]) (h2:WG w0 c l):WG w0 c (t :: l):=by
 intro hm Bt L hL hT x hx;simp only [Zv] at hm;obtain ⟨a,L',rfl,ha,e2⟩:=Zg hL;rcases List.mem_cons.1 hx with rfl | hx2
 ·have:=h1 (by rw [Z42]; omega) Bt [x] (by rw [← ha]; rfl) (by simpa using hT x (by simp)) x (by simp);rwa [hc] at this
 ·exact h2 (by omega) Bt L' e2 (fun y hy=>hT y (by simp [hy])) x hx2
theorem WG.nil:WG w0 c []:=by
 intro hm Bt L hL hT x hx;have h3:=Zy hL;subst h3;cases hx
theorem WG.as {c':Srt} (hc:c'.st=c.st) (h:WG w0 c' l):WG w0 c l:=by
 intro hm Bt L hL hT x hx;have:=h hm Bt L hL hT x hx;rwa [hc] at this
theorem WG.wl (h:WG w0 c l) (hc:c.st=false) (hm:Zv l≤100000) {L:List ATree} (e:Zr L=l) (hT:∀ x∈L,TreeAt w0 Bt x):Z5w w0 L:=
 Zj3 L (fun x hx=>(h hm Bt L e hT x hx).2 hc) (by have:=Z2x l; have h2:l.length=L.length:=(by rw [← e,Z2p]); omega)
end
theorem Z2u {s:ByteArray} (h:Z3o s):s.size≤1000000:=by have:=h.2.1; omega
theorem Zir {w0:World} (hB:Tabs w0) {c:Srt} {l:List Tree} (h:Wf c l):WG w0 c l:=by
 have hP:=hB.pow;have hS:=hB.signs;have hH:=hB.heads;induction h with
 | num h1 h2 =>
   refine WG.ofW rfl fun hm Bt a ha hT=>?_;obtain ⟨k1,k2,k3,k4⟩:=Z0p ha;simp only [Tree.many,Zv] at hm;have k4:=Zy k4;exact Zgw a hT k1 (by rw [k3]; exact h1) (by rw [k3]; exact h2) hP
 | str h1 =>
   refine WG.ofW rfl fun hm Bt a ha hT=>?_;obtain ⟨k1,k2,k3,k4⟩:=Z0p ha;simp only [Tree.many,Zv] at hm;exact Zgv a hT k1 (by rw [k2]; omega)
 | @con k h1 h2 =>
   refine WG.ofW rfl fun hm Bt a ha hT=>?_;obtain ⟨k1,k2,k3,k4⟩:=Z0p ha;simp only [Tree.many,Zv] at hm;have:k=19∨k=20∨k=21∨k=22:=by omega
   rcases this with rfl | rfl | rfl | rfl;·exact Z74 a hT _ [116,114,117,101] (by simp) k1
   ·exact Z74 a hT _ [102,97,108,115,101] (by simp) k1
   ·exact Z74 a hT _ [110,117,108,108] (by simp) k1
   ·exact Z74 a hT _ [117,110,100,101,102,105,110,101,100] (by simp) k1
 | name h1 =>
   refine WG.ofW rfl fun hm Bt a ha hT=>?_;obtain ⟨k1,k2,k3,k4⟩:=Z0p ha;simp only [Tree.many,Zv] at hm;exact Za3 a hT k1
 | set h0 h1 h2 i1 i2 =>
   refine WG.ofW rfl fun hm Bt a ha hT=>?_;obtain ⟨k1,k2,k3,k4⟩:=Z0p ha;simp only [Tree.many,Zv] at hm;obtain ⟨x,r0,e0,t0,k4⟩:=Zg k4;obtain ⟨y,r1,e1,t1,k4⟩:=Zg k4;have k4:=Zy k4;subst k4;subst e1;have hk:=e0;have Tx:TreeAt w0 Bt x:=hT.kid (by rw [hk]; simp);have Ty:TreeAt w0 Bt y:=hT.kid (by rw [hk]; simp);exact Zfv a hT k1 x y hk (i1.w t0 Tx (by omega) rfl) (i2.w t1 Ty (by omega) rfl)
 | @two k x0 y0 h1 h2 g1 g2 i1 i2 =>
   refine WG.ofW rfl fun hm Bt a ha hT=>?_;obtain ⟨k1,k2,k3,k4⟩:=Z0p ha;simp only [Tree.many,Zv] at hm;obtain ⟨x,r0,e0,t0,k4⟩:=Zg k4;obtain ⟨y,r1,e1,t1,k4⟩:=Zg k4;have k4:=Zy k4;subst k4;subst e1;have hk:=e0;have Tx:TreeAt w0 Bt x:=hT.kid (by rw [hk]; simp);have Ty:TreeAt w0 Bt y:=hT.kid (by rw [hk]; simp);have:k=25∨k=26∨k=27∨k=28∨k=29∨k=30∨k=31:=by omega
   rcases this with rfl | rfl | rfl | rfl | rfl | rfl | rfl;·exact Z4v a hT _ 1 0 ⟨#[32,124,124,32]⟩ (by simp) k1 x y hk (i1.w t0 Tx (by omega) rfl) (i2.w t1 Ty (by omega) rfl) hS
   ·exact Z4v a hT _ 2 1 ⟨#[32,38,38,32]⟩ (by simp) k1 x y hk (i1.w t0 Tx (by omega) rfl) (i2.w t1 Ty (by omega) rfl) hS
   ·exact Z4v a hT _ 3 2 ⟨#[32,61,61,61,32]⟩ (by simp) k1 x y hk (i1.w t0 Tx (by omega) rfl) (i2.w t1 Ty (by omega) rfl) hS
   ·exact Z4v a hT _ 4 3 ⟨#[32,60,32]⟩ (by simp) k1 x y hk (i1.w t0 Tx (by omega) rfl) (i2.w t1 Ty (by omega) rfl) hS
   ·exact Z4v a hT _ 5 4 ⟨#[32,43,32]⟩ (by simp) k1 x y hk (i1.w t0 Tx (by omega) rfl) (i2.w t1 Ty (by omega) rfl) hS
   ·exact Z4v a hT _ 5 5 ⟨#[32,45,32]⟩ (by simp) k1 x y hk (i1.w t0 Tx (by omega) rfl) (i2.w t1 Ty (by omega) rfl) hS
   ·exact Z4v a hT _ 6 6 ⟨#[32,42,32]⟩ (by simp) k1 x y hk (i1.w t0 Tx (by omega) rfl) (i2.w t1 Ty (by omega) rfl) hS
 | @one k x0 h1 h2 g1 i1 =>
   refine WG.ofW rfl fun hm Bt a ha hT=>?_;obtain ⟨k1,k2,k3,k4⟩:=Z0p ha;simp only [Tree.many,Zv] at hm;obtain ⟨x,r0,e0,t0,k4⟩:=Zg k4;have k4:=Zy k4;subst k4;have hk:=e0;have Tx:TreeAt w0 Bt x:=hT.kid (by rw [hk]; simp);have:k=32∨k=33∨k=34:=by omega
   rcases this with rfl | rfl | rfl;·exact Z8m a hT _ 7 7 ⟨#[33]⟩ (by simp) k1 x hk (i1.w t0 Tx (by omega) rfl) hS
   ·exact Z8m a hT _ 7 8 ⟨#[116,121,112,101,111,102,32]⟩ (by simp) k1 x hk (i1.w t0 Tx (by omega) rfl) hS
   ·exact Z8m a hT _ 7 9 ⟨#[100,101,108,101,116,101,32]⟩ (by simp) k1 x hk (i1.w t0 Tx (by omega) rfl) hS
 | mem h1 g1 i1 =>
   refine WG.ofW rfl fun hm Bt a ha hT=>?_;obtain ⟨k1,k2,k3,k4⟩:=Z0p ha;simp only [Tree.many,Zv] at hm;obtain ⟨x,r0,e0,t0,k4⟩:=Zg k4;have k4:=Zy k4;subst k4;have hk:=e0;have Tx:TreeAt w0 Bt x:=hT.kid (by rw [hk]; simp);exact Zfr a hT k1 x hk (i1.w t0 Tx (by omega) rfl) (by rw [k2]; exact Z2u h1)
 | @call x0 l g1 g2 i1 i2 =>
   refine WG.ofW rfl fun hm Bt a ha hT=>?_;obtain ⟨k1,k2,k3,k4⟩:=Z0p ha;simp only [Tree.many,Zv] at hm;obtain ⟨x,L,hk,t0,k4⟩:=Zg k4;have Tx:TreeAt w0 Bt x:=hT.kid (by rw [hk]; simp);have hLl:L.length≤100000:=by
    have:=Z2x l;have h2:l.length=L.length:=by rw [← k4,Z2p]
    omega
   exact Zeo a hT k1 x L hk (i1.w t0 Tx (by omega) rfl) (i2.wl rfl (by omega) k4 fun y hy=>hT.kid (by rw [hk]; simp [hy])) hLl
 | lam h1 g1 g2 i1 i2 =>
   refine WG.ofW rfl fun hm Bt a ha hT=>?_;obtain ⟨k1,k2,k3,k4⟩:=Z0p ha;simp only [Tree.many,Zv] at hm;obtain ⟨p,r0,e0,t0,k4⟩:=Zg k4;obtain ⟨q,r1,e1,t1,k4⟩:=Zg k4;have k4:=Zy k4;subst k4;subst e1;have hk:=e0;have Tp:TreeAt w0 Bt p:=hT.kid (by rw [hk]; simp);have Tq:TreeAt w0 Bt q:=hT.kid (by rw [hk]; simp);obtain ⟨p1,p2,p3,p4⟩:=Z0p t0;have hl:=i1.wl (Bt:=Bt) rfl (by omega) p4 fun y hy=>Tp.kid hy;have hf:=Zjy a hT p q hk hl (i2.s t1 Tq (by omega) rfl) (by rw [k2]; rcases h1 with rfl | h1 <;> first | exact Yp _ | exact Z2u h1)
   exact Zgo a hT k1 p q hk hf
 | obj g1 i1 =>
   refine WG.ofW rfl fun hm Bt a ha hT=>?_;obtain ⟨k1,k2,k3,k4⟩:=Z0p ha;simp only [Tree.many,Zv] at hm;exact Zfn a hT k1 (i1.wl rfl (by omega) k4 fun y hy=>hT.kid hy)
 | vnil=>exact WG.nil
 | vcons _ _ i1 i2=>exact i1.cons rfl i2
 | onil=>exact WG.nil
 | ocons h1 _ _ i1 i2 =>
   refine WG.cons (c':=.v) rfl ?_ i2;refine WG.ofW rfl fun hm Bt a ha hT=>?_;obtain ⟨k1,k2,k3,k4⟩:=Z0p ha;simp only [Tree.many,Zv] at hm;obtain ⟨x,r0,e0,t0,k4⟩:=Zg k4;have k4:=Zy k4;subst k4;have hk:=e0;have Tx:TreeAt w0 Bt x:=hT.kid (by rw [hk]; simp);exact Zep a hT k1 x hk (i1.w t0 Tx (by omega) rfl) (by rw [k2]; exact Z2u h1)
 | pnil=>exact WG.nil
 | pcons h1 _ i2 =>
   refine WG.cons (c':=.v) rfl ?_ i2;refine WG.ofW rfl fun hm Bt a ha hT=>?_;obtain ⟨k1,k2,k3,k4⟩:=Z0p ha;simp only [Tree.many,Zv] at hm;exact Za3 a hT k1
 | @body l _ i1 =>
   refine WG.ofS rfl fun hm Bt a ha hT=>?_;obtain ⟨k1,k2,k3,k4⟩:=Z0p ha;simp only [Tree.many,Zv] at hm;have hlen:=Z2x l;have h2:l.length=a.kids.length:=by rw [← k4,Z2p]
   exact Zdz a hT k1 (fun x hx=>(i1 (by omega) Bt a.kids k4 (fun y hy=>hT.kid hy) x hx).1 rfl) (by omega)
 | @block l _ i1 =>
   refine WG.ofS rfl fun hm Bt a ha hT=>?_;obtain ⟨k1,k2,k3,k4⟩:=Z0p ha;simp only [Tree.many,Zv] at hm;have hlen:=Z2x l;have h2:l.length=a.kids.length:=by rw [← k4,Z2p]
   exact Zdz a hT k1 (fun x hx=>(i1 (by omega) Bt a.kids k4 (fun y hy=>hT.kid hy) x hx).1 rfl) (by omega)
 | decl0 h0 h1 =>
   refine WG.ofS rfl fun hm Bt a ha hT=>?_;obtain ⟨k1,k2,k3,k4⟩:=Z0p ha;simp only [Tree.many,Zv] at hm;have k4:=Zy k4;have hk:=k4;rcases h0 with rfl | rfl;·exact Zg7 a hT _ 0 ⟨#[118,97,114,32]⟩ (by simp) k1 hk hH (by rw [k2]; exact Z2u h1)
   ·exact Zg7 a hT _ 1 ⟨#[108,101,116,32]⟩ (by simp) k1 hk hH (by rw [k2]; exact Z2u h1)
 | decl1 h0 h1 g1 i1 =>
   refine WG.ofS rfl fun hm Bt a ha hT=>?_;obtain ⟨k1,k2,k3,k4⟩:=Z0p ha;simp only [Tree.many,Zv] at hm;obtain ⟨x,r0,e0,t0,k4⟩:=Zg k4;have k4:=Zy k4;subst k4;have hk:=e0;have Tx:TreeAt w0 Bt x:=hT.kid (by rw [hk]; simp);rcases h0 with rfl | rfl | rfl;·exact Zau a hT _ 0 ⟨#[118,97,114,32]⟩ (by simp) k1 x hk (i1.w t0 Tx (by omega) rfl) hH (by rw [k2]; exact Z2u h1)
   ·exact Zau a hT _ 1 ⟨#[108,101,116,32]⟩ (by simp) k1 x hk (i1.w t0 Tx (by omega) rfl) hH (by rw [k2]; exact Z2u h1)
   ·exact Zau a hT _ 2 ⟨#[99,111,110,115,116,32]⟩ (by simp) k1 x hk (i1.w t0 Tx (by omega) rfl) hH (by rw [k2]; exact Z2u h1)
 | func h1 g1 g2 i1 i2 =>
   refine WG.ofS rfl fun hm Bt a ha hT=>?_;obtain ⟨k1,k2,k3,k4⟩:=Z0p ha;simp only [Tree.many,Zv] at hm;obtain ⟨p,r0,e0,t0,k4⟩:=Zg k4;obtain ⟨q,r1,e1,t1,k4⟩:=Zg k4;have k4:=Zy k4;subst k4;subst e1;have hk:=e0;have Tp:TreeAt w0 Bt p:=hT.kid (by rw [hk]; simp);have Tq:TreeAt w0 Bt q:=hT.kid (by rw [hk]; simp);obtain ⟨p1,p2,p3,p4⟩:=Z0p t0;have hl:=i1.wl (Bt:=Bt) rfl (by omega) p4 fun y hy=>Tp.kid hy;have hf:=Zjy a hT p q hk hl (i2.s t1 Tq (by omega) rfl) (by rw [k2]; exact Z2u h1);exact Zlo a hT k1 p q hk hf
 | blk _ i1=>exact i1.as rfl
 | if2 g1 g2 i1 i2 =>
   refine WG.ofS rfl fun hm Bt a ha hT=>?_;obtain ⟨k1,k2,k3,k4⟩:=Z0p ha;simp only [Tree.many,Zv] at hm;obtain ⟨x,r0,e0,t0,k4⟩:=Zg k4;obtain ⟨y,r1,e1,t1,k4⟩:=Zg k4;have k4:=Zy k4;subst k4;subst e1;have hk:=e0;have Tx:TreeAt w0 Bt x:=hT.kid (by rw [hk]; simp);have Ty:TreeAt w0 Bt y:=hT.kid (by rw [hk]; simp);exact Zk6 a hT k1 x y hk (i1.w t0 Tx (by omega) rfl) (i2.s t1 Ty (by omega) rfl) hH
 | if3 g1 g2 g3 hd i1 i2 i3 =>
   refine WG.ofS rfl fun hm Bt a ha hT=>?_;obtain ⟨k1,k2,k3,k4⟩:=Z0p ha;simp only [Tree.many,Zv] at hm;obtain ⟨x,r0,e0,t0,k4⟩:=Zg k4;obtain ⟨y,r1,e1,t1,k4⟩:=Zg k4;obtain ⟨z,r2,e2,t2,k4⟩:=Zg k4;have k4:=Zy k4;subst k4;subst e2;subst e1;have hk:=e0;have Tx:TreeAt w0 Bt x:=hT.kid (by rw [hk]; simp);have Ty:TreeAt w0 Bt y:=hT.kid (by rw [hk]; simp);have Tz:TreeAt w0 Bt z:=hT.kid (by rw [hk]; simp);exact Zmp a hT k1 x y z hk (i1.w t0 Tx (by omega) rfl) (i2.s t1 Ty (by omega) rfl) (i3.s t2 Tz (by omega) rfl) hH
 | loop h0 g1 g2 i1 i2 =>
   refine WG.ofS rfl fun hm Bt a ha hT=>?_;obtain ⟨k1,k2,k3,k4⟩:=Z0p ha;simp only [Tree.many,Zv] at hm;obtain ⟨x,r0,e0,t0,k4⟩:=Zg k4;obtain ⟨y,r1,e1,t1,k4⟩:=Zg k4;have k4:=Zy k4;subst k4;subst e1;have hk:=e0;have Tx:TreeAt w0 Bt x:=hT.kid (by rw [hk]; simp);have Ty:TreeAt w0 Bt y:=hT.kid (by rw [hk]; simp);rcases h0 with rfl | rfl;·exact Zkf a hT k1 x y hk (i1.w t0 Tx (by omega) rfl) (i2.s t1 Ty (by omega) rfl) hH
   ·exact Zl9 a hT k1 x y hk (i1.w t0 Tx (by omega) rfl) (i2.s t1 Ty (by omega) rfl) hH
 | ret0 =>
   refine WG.ofS rfl fun hm Bt a ha hT=>?_;obtain ⟨k1,k2,k3,k4⟩:=Z0p ha;simp only [Tree.many,Zv] at hm;have k4:=Zy k4;have hk:=k4;exact Zkg a hT k1 hk hH
 | ret1 h0 g1 i1 =>
   refine WG.ofS rfl fun hm Bt a ha hT=>?_;obtain ⟨k1,k2,k3,k4⟩:=Z0p ha;simp only [Tree.many,Zv] at hm;obtain ⟨x,r0,e0,t0,k4⟩:=Zg k4;have k4:=Zy k4;subst k4;have hk:=e0;have Tx:TreeAt w0 Bt x:=hT.kid (by rw [hk]; simp);rcases h0 with rfl | rfl;·exact Ziv a hT k1 x hk (i1.w t0 Tx (by omega) rfl) hH
   ·exact Zhu a hT k1 x hk (i1.w t0 Tx (by omega) rfl) hH
 | tryc g1 h1 g2 i1 i2 =>
   refine WG.ofS rfl fun hm Bt a ha hT=>?_;obtain ⟨k1,k2,k3,k4⟩:=Z0p ha;simp only [Tree.many,Zv] at hm;obtain ⟨b,r0,e0,t0,k4⟩:=Zg k4;obtain ⟨x,r1,e1,t1,k4⟩:=Zg k4;have k4:=Zy k4;subst k4;subst e1;have hk:=e0;have Tb:TreeAt w0 Bt b:=hT.kid (by rw [hk]; simp);have Tx:TreeAt w0 Bt x:=hT.kid (by rw [hk]; simp);obtain ⟨u1,u2,u3,u4⟩:=Z0p t1;obtain ⟨c1,q1,v1,w1,u4⟩:=Zg u4;have u4:=Zy u4;subst u4;have H1:Z77 w0 Bt x:=⟨c1,Tx,v1,by rw [u1]; simp,by rw [u2]; exact Z2u h1,i2.s w1 (Tx.kid (by rw [v1]; simp)) (by omega) rfl⟩
   exact Zd7 a hT k1 b [x] hk (i1.s t0 Tb (by omega) rfl) (by simp) (by simpa using H1) (by simp)
 | tryf g1 g2 i1 i2 =>
   refine WG.ofS rfl fun hm Bt a ha hT=>?_;obtain ⟨k1,k2,k3,k4⟩:=Z0p ha;simp only [Tree.many,Zv] at hm;obtain ⟨b,r0,e0,t0,k4⟩:=Zg k4;obtain ⟨x,r1,e1,t1,k4⟩:=Zg k4;have k4:=Zy k4;subst k4;subst e1;have hk:=e0;have Tb:TreeAt w0 Bt b:=hT.kid (by rw [hk]; simp);have Tx:TreeAt w0 Bt x:=hT.kid (by rw [hk]; simp);obtain ⟨u1,u2,u3,u4⟩:=Z0p t1;obtain ⟨c1,q1,v1,w1,u4⟩:=Zg u4;have u4:=Zy u4;subst u4;have H1:Z77 w0 Bt x:=⟨c1,Tx,v1,by rw [u1]; simp,by rw [u2]; exact Yp _,i2.s w1 (Tx.kid (by rw [v1]; simp)) (by omega) rfl⟩
   exact Zd7 a hT k1 b [x] hk (i1.s t0 Tb (by omega) rfl) (by simp) (by simpa using H1) (by simp)
 | trycf g1 h1 g2 g3 i1 i2 i3 =>
   refine WG.ofS rfl fun hm Bt a ha hT=>?_;obtain ⟨k1,k2,k3,k4⟩:=Z0p ha;simp only [Tree.many,Zv] at hm;obtain ⟨b,r0,e0,t0,k4⟩:=Zg k4;obtain ⟨x,r1,e1,t1,k4⟩:=Zg k4;obtain ⟨y,r2,e2,t2,k4⟩:=Zg k4;have k4:=Zy k4;subst k4;subst e2;subst e1;have hk:=e0;have Tb:TreeAt w0 Bt b:=hT.kid (by rw [hk]; simp);have Tx:TreeAt w0 Bt x:=hT.kid (by rw [hk]; simp);have Ty:TreeAt w0 Bt y:=hT.kid (by rw [hk]; simp);obtain ⟨u1,u2,u3,u4⟩:=Z0p t1;obtain ⟨c1,q1,v1,w1,u4⟩:=Zg u4;have u4:=Zy u4;subst u4
   have H1:Z77 w0 Bt x:=⟨c1,Tx,v1,by rw [u1]; simp,by rw [u2]; exact Z2u h1,i2.s w1 (Tx.kid (by rw [v1]; simp)) (by omega) rfl⟩
   obtain ⟨u1,u2,u3,u4⟩:=Z0p t2;obtain ⟨c2,q2,v2,w2,u4⟩:=Zg u4;have u4:=Zy u4;subst u4;have H2:Z77 w0 Bt y:=⟨c2,Ty,v2,by rw [u1]; simp,by rw [u2]; exact Yp _,i3.s w2 (Ty.kid (by rw [v2]; simp)) (by omega) rfl⟩
   exact Zd7 a hT k1 b [x,y] hk (i1.s t0 Tb (by omega) rfl) (by simp) (by simpa using ⟨H1,H2⟩) (by simp)
 | empty =>
   refine WG.ofS rfl fun hm Bt a ha hT=>?_;obtain ⟨k1,k2,k3,k4⟩:=Z0p ha;simp only [Tree.many,Zv] at hm;exact Zja a hT k1
 | expr g1 i1 =>
   refine WG.ofS rfl fun hm Bt a ha hT=>?_;obtain ⟨k1,k2,k3,k4⟩:=Z0p ha;simp only [Tree.many,Zv] at hm;obtain ⟨x,r0,e0,t0,k4⟩:=Zg k4;have k4:=Zy k4;subst k4;have hk:=e0;have Tx:TreeAt w0 Bt x:=hT.kid (by rw [hk]; simp);exact Zku a hT k1 x hk (i1.w t0 Tx (by omega) rfl)
 | snil=>exact WG.nil
 | scons _ _ i1 i2=>exact i1.cons rfl i2
def lenP (l:List Pc):Nat:=(Zd l).length
theorem Z02:lenP []=0:=rfl
theorem Zx (l m:List Pc):lenP (l ++ m)=lenP l + lenP m:=by unfold lenP; rw [Z7,Yq]
theorem Z0i (c:UInt8) (l:List Pc):lenP (.sp c :: l)=1 + lenP l:=by unfold lenP; rw [Z4,Yq]; rfl
theorem Z0h (c:UInt8) (l:List Pc):lenP (.t 5 ⟨#[c]⟩ 0 :: l)=1 + lenP l:=by unfold lenP; rw [Z4,Yq]; rfl
theorem Z0l (s:ByteArray) (l:List Pc):lenP (.t 2 s 0 :: l)=s.size + lenP l:=by unfold lenP; rw [Z4,Yq]; simp [Pc.bytes]
theorem Z0k (s:ByteArray) (l:List Pc):lenP (.t 1 s 0 :: l)=s.size + lenP l:=by unfold lenP; rw [Z4,Yq]; simp [Pc.bytes]
theorem Zds (k:Int):lenP (sgnP k)≤10:=by
 unfold sgnP;repeat' split
 all_goals (show _≤10; decide)
theorem Z4t (k:Int):lenP (Z2y k)≤10:=by
 unfold Z2y;repeat' split
 all_goals (show _≤10; decide)
theorem Zih (k:Int):(Z9z k).size≤10:=by
 unfold Z9z;repeat' split
 all_goals (show _≤10; decide)
theorem Zc4 (p:Bool) (l:List Pc):lenP (Z9o p l)≤lenP l + 2:=by
 unfold Z9o;split;·rw [Z0h,Zx,Z0h,Z02]; omega
 ·omega
theorem Z92 (f:Bool):lenP (sepP f [sg 44,sp])≤2:=by cases f <;> decide
theorem Zg4 (f:Bool):lenP (sepP f [sp])≤1:=by cases f <;> decide
theorem Zju {n:Int} (h0:0≤n) (h1:n≤1000000000):lenP [.t 3 ByteArray.empty n]≤30:=by
 unfold lenP;rw [Z4,Zj,List.append_nil];have:=Lib.itoa_length_le n (by omega) (by omega);show (Lib.itoa n).length≤30;omega
theorem Zjf (l:List UInt8):(l.flatMap escB).length≤2 * l.length:=by
 induction l with
 | nil=>simp
 | cons u l ih =>
   rw [List.flatMap_cons,Yq,List.length_cons]
   have : (escB u).length ≤ 2 := by unfold escB; repeat' split
                                    all_goals simp
   omega
theorem Zhy {s:ByteArray} (h:s.size≤500):lenP [.t 4 s 0]≤1010:=by
 unfold lenP;rw [Z4,Zj,List.append_nil];show (Z57 s).length≤_;unfold Z57;have:=Zjf s.data.toList;simp only [List.length_cons,List.length_append,List.length_nil];have h2:s.data.toList.length=s.size:=by simp
 omega
theorem Zhp {s:ByteArray} (h:s.size≤20) (l b:List Pc):lenP (fnP s l b)≤lenP l + lenP b + 40:=by
 unfold fnP;rw [Z0l,Zx,Z0h,Zx,Z0h,Z0i];have h1:lenP (if s.size=0 then [] else [sp,nm s])≤21:=by
  split;·rw [Z02]; omega
  ·rw [Z0i,Z0k,Z02]; omega
 have h2:Ze.size=8:=by decide
 omega
def LG:Srt→List Tree→Prop
 | .v,l=>∀ x,l=[x]→∀ need,lenP (vP x need) + 4≤2000 * x.many
 | .vl,l | .ol,l | .pl,l=>∀ f,lenP (lP f l)≤2000 * Zv l
 | .b,l | .k,l | .s,l=>∀ x,l=[x]→lenP (sP x) + 4≤2000 * x.many
 | .sl,l=>(∀ f,lenP (bP f l)≤2000 * Zv l)∧lenP (pP l)≤2000 * Zv l
theorem LG.ofV {k:Int} {s:ByteArray} {n:Int} {ks:List Tree} (h:lenP (vbP k s n ks) + 6≤2000 * (1 + Zv ks)):LG .v [.mk k s n ks]:=by
 intro x e need;simp only [List.cons.injEq,and_true] at e;subst e;rw [Zl1,Tree.many];have:=Zc4 (decide (Zo k < need)) (vbP k s n ks);omega
theorem LG.ofS {c:Srt} (hc:c=.b∨c=.k∨c=.s) {k:Int} {s:ByteArray} {n:Int} {ks:List Tree} (h:lenP (sP (.mk k s n ks)) + 4≤2000 * (1 + Zv ks)):LG c [.mk k s n ks]:=by
 have:∀ x,[Tree.mk k s n ks]=[x]→lenP (sP x) + 4≤2000 * x.many:=by
  intro x e;simp only [List.cons.injEq,and_true] at e;subst e;rw [Tree.many]; omega
 rcases hc with rfl | rfl | rfl <;> exact this
theorem Z4p {c:Srt} {l:List Tree} (h:Wf c l):LG c l:=by
 induction h with
 | num h1 h2 =>
   refine LG.ofV ?_;rw [Zdy];have:=Zju h1 h2
   first
    | (simp only [Zx,Z0i,Z0h,Z0l,Z0k,Z02,Zv,Tree.many] at *; omega)
    | (simp only [Zx,Z0i,Z0h,Z0l,Z0k,Z02,Zv,Tree.many]; omega)
 | str h1 =>
   refine LG.ofV ?_;rw [Zdi];have:=Zhy h1
   first
    | (simp only [Zx,Z0i,Z0h,Z0l,Z0k,Z02,Zv,Tree.many] at *; omega)
    | (simp only [Zx,Z0i,Z0h,Z0l,Z0k,Z02,Zv,Tree.many]; omega)
 | con h1 h2 =>
   refine LG.ofV ?_;rw [Z95 h1 h2];have:=Zih ‹Int›
   first
    | (simp only [Zx,Z0i,Z0h,Z0l,Z0k,Z02,Zv,Tree.many] at *; omega)
    | (simp only [Zx,Z0i,Z0h,Z0l,Z0k,Z02,Zv,Tree.many]; omega)
 | name h1 =>
   refine LG.ofV ?_;rw [Z7v];have:=h1.2.1
   first
    | (simp only [Zx,Z0i,Z0h,Z0l,Z0k,Z02,Zv,Tree.many] at *; omega)
    | (simp only [Zx,Z0i,Z0h,Z0l,Z0k,Z02,Zv,Tree.many]; omega)
 | set h0 h1 h2 i1 i2 =>
   refine LG.ofV ?_;rw [Zdq];have:=i1 _ rfl 8;have:=i2 _ rfl 0
   first
    | (simp only [Zx,Z0i,Z0h,Z0l,Z0k,Z02,Zv,Tree.many] at *; omega)
    | (simp only [Zx,Z0i,Z0h,Z0l,Z0k,Z02,Zv,Tree.many]; omega)
 | two h1 h2 g1 g2 i1 i2 =>
   refine LG.ofV ?_;rw [Zdp h1 h2];have:=i1 _ rfl (Zo ‹Int›);have:=i2 _ rfl (Zo ‹Int› + 1);have:=Zds ‹Int›
   first
    | (simp only [Zx,Z0i,Z0h,Z0l,Z0k,Z02,Zv,Tree.many] at *; omega)
    | (simp only [Zx,Z0i,Z0h,Z0l,Z0k,Z02,Zv,Tree.many]; omega)
 | one h1 h2 g1 i1 =>
   refine LG.ofV ?_;rw [Za0 h1 h2];have:=i1 _ rfl 7;have:=Zds ‹Int›
   first
    | (simp only [Zx,Z0i,Z0h,Z0l,Z0k,Z02,Zv,Tree.many] at *; omega)
    | (simp only [Zx,Z0i,Z0h,Z0l,Z0k,Z02,Zv,Tree.many]; omega)
 | mem h1 g1 i1 =>
   refine LG.ofV ?_;rw [Zdl];have:=i1 _ rfl 8;have:=h1.2.1
   first
    | (simp only [Zx,Z0i,Z0h,Z0l,Z0k,Z02,Zv,Tree.many] at *; omega)
    | (simp only [Zx,Z0i,Z0h,Z0l,Z0k,Z02,Zv,Tree.many]; omega)
 | call g1 g2 i1 i2 =>
   refine LG.ofV ?_;rw [Z8z];have:=i1 _ rfl 8;have:=i2 true
   first
    | (simp only [Zx,Z0i,Z0h,Z0l,Z0k,Z02,Zv,Tree.many] at *; omega)
    | (simp only [Zx,Z0i,Z0h,Z0l,Z0k,Z02,Zv,Tree.many]; omega)
 | lam h1 g1 g2 i1 i2 =>
   refine LG.ofV ?_;rename_i s l b;rw [Zc3];have h2:s.size≤20:=by
    rcases h1 with rfl | h1;·exact Yp _
    ·exact h1.2.1
   have:=Zhp h2 (lP true l) (sP b);have:=i1 true;have:=i2 _ rfl;simp only [Zv,Tree.many];omega
 | obj g1 i1 =>
   refine LG.ofV ?_;rw [Zdw];have:=i1 true
   first
    | (simp only [Zx,Z0i,Z0h,Z0l,Z0k,Z02,Zv,Tree.many] at *; omega)
    | (simp only [Zx,Z0i,Z0h,Z0l,Z0k,Z02,Zv,Tree.many]; omega)
 | vnil=>intro f; rw [Z7f,Z02]; omega
 | vcons g1 g2 i1 i2 =>
   intro f;rw [Z5e,Zx,Zx];have:=Z92 f;have:=i1 _ rfl 0;have:=i2 false;simp only [Zv];omega
 | onil=>intro f; rw [Z7f,Z02]; omega
 | ocons h1 g1 g2 i1 i2 =>
   intro f;rename_i s x l;have h3:LG .v [.mk 39 s 0 [x]]:=by
    refine LG.ofV ?_;rw [Zda];have:=i1 _ rfl 0;have:=h1.2.1;simp only [Zx,Z0i,Z0h,Z0l,Z0k,Z02,Zv,Tree.many];omega
   rw [Z5e,Zx,Zx];have:=Z92 f;have:=h3 _ rfl 0;have:=i2 false;simp only [Zv];omega
 | pnil=>intro f; rw [Z7f,Z02]; omega
 | pcons h1 g2 i2 =>
   intro f;rename_i s l;have h3:LG .v [.mk 23 s 0 []]:=by
    refine LG.ofV ?_;rw [Z7v];have:=h1.2.1;simp only [Zx,Z0i,Z0h,Z0l,Z0k,Z02,Zv,Tree.many];omega
   rw [Z5e,Zx,Zx];have:=Z92 f;have:=h3 _ rfl 0;have:=i2 false;simp only [Zv];omega
 | body g1 i1 =>
   refine LG.ofS (by simp) ?_;rw [Z99];have:=i1.1 true
   first
    | (simp only [Zx,Z0i,Z0h,Z0l,Z0k,Z02,Zv,Tree.many] at *; omega)
    | (simp only [Zx,Z0i,Z0h,Z0l,Z0k,Z02,Zv,Tree.many]; omega)
 | block g1 i1 =>
   refine LG.ofS (by simp) ?_;rw [Z99];have:=i1.1 true
   first
    | (simp only [Zx,Z0i,Z0h,Z0l,Z0k,Z02,Zv,Tree.many] at *; omega)
    | (simp only [Zx,Z0i,Z0h,Z0l,Z0k,Z02,Zv,Tree.many]; omega)
 | decl0 h0 h1 =>
   refine LG.ofS (by simp) ?_;rw [Zal (by omega)];have:=h1.2.1;have:=Z4t ‹Int›
   first
    | (simp only [Zx,Z0i,Z0h,Z0l,Z0k,Z02,Zv,Tree.many] at *; omega)
    | (simp only [Zx,Z0i,Z0h,Z0l,Z0k,Z02,Zv,Tree.many]; omega)
 | decl1 h0 h1 g1 i1 =>
   refine LG.ofS (by simp) ?_;rw [Z8u (by omega)];have:=h1.2.1;have:=Z4t ‹Int›;have:=i1 _ rfl 0
   first
    | (simp only [Zx,Z0i,Z0h,Z0l,Z0k,Z02,Zv,Tree.many] at *; omega)
    | (simp only [Zx,Z0i,Z0h,Z0l,Z0k,Z02,Zv,Tree.many]; omega)
 | func h1 g1 g2 i1 i2 =>
   refine LG.ofS (by simp) ?_;rename_i s l b;rw [Zgr];have:=Zhp h1.2.1 (lP true l) (sP b);have:=i1 true;have:=i2 _ rfl;simp only [Zv,Tree.many];omega
 | blk g1 i1=>exact i1
 | if2 g1 g2 i1 i2 =>
   refine LG.ofS (by simp) ?_;rw [Zb8 (by omega)];have:=i1 _ rfl 0;have:=i2 _ rfl;have:=Z4t 7
   first
    | (simp only [Zx,Z0i,Z0h,Z0l,Z0k,Z02,Zv,Tree.many] at *; omega)
    | (simp only [Zx,Z0i,Z0h,Z0l,Z0k,Z02,Zv,Tree.many]; omega)
 | if3 g1 g2 g3 hd i1 i2 i3 =>
   refine LG.ofS (by simp) ?_;rw [Zll];have:=i1 _ rfl 0;have:=i2 _ rfl;have:=i3 _ rfl;have:=Z4t 7;have:=show Z1y.size=4 by decide
   first
    | (simp only [Zx,Z0i,Z0h,Z0l,Z0k,Z02,Zv,Tree.many] at *; omega)
    | (simp only [Zx,Z0i,Z0h,Z0l,Z0k,Z02,Zv,Tree.many]; omega)
 | loop h0 g1 g2 i1 i2 =>
   refine LG.ofS (by simp) ?_;rw [Zb8 (by omega)];have:=i1 _ rfl 0;have:=i2 _ rfl;have:=Z4t ‹Int›
   first
    | (simp only [Zx,Z0i,Z0h,Z0l,Z0k,Z02,Zv,Tree.many] at *; omega)
    | (simp only [Zx,Z0i,Z0h,Z0l,Z0k,Z02,Zv,Tree.many]; omega)
 | ret0 =>
   refine LG.ofS (by simp) ?_;rw [Zgl (by omega)];have:=Z4t 10
   first
    | (simp only [Zx,Z0i,Z0h,Z0l,Z0k,Z02,Zv,Tree.many] at *; omega)
    | (simp only [Zx,Z0i,Z0h,Z0l,Z0k,Z02,Zv,Tree.many]; omega)
 | ret1 h0 g1 i1 =>
   refine LG.ofS (by simp) ?_;rw [Zc0 (by omega)];have:=i1 _ rfl 0;have:=Z4t ‹Int›
   first
    | (simp only [Zx,Z0i,Z0h,Z0l,Z0k,Z02,Zv,Tree.many] at *; omega)
    | (simp only [Zx,Z0i,Z0h,Z0l,Z0k,Z02,Zv,Tree.many]; omega)
 | tryc g1 h1 g2 i1 i2 =>
   refine LG.ofS (by simp) ?_;rw [Z9d,Z8t,Z9l];have:=h1.2.1;have:=i1 _ rfl;have:=i2 _ rfl;have:=show Z1j.size=3 by decide
   have:=show Z0r.size=5 by decide
   have:=show Zt.size=7 by decide
   first
    | (simp only [Zx,Z0i,Z0h,Z0l,Z0k,Z02,Zv,Tree.many] at *; omega)
    | (simp only [Zx,Z0i,Z0h,Z0l,Z0k,Z02,Zv,Tree.many]; omega)
 | tryf g1 g2 i1 i2 =>
   refine LG.ofS (by simp) ?_;rw [Z9d,Z5z,Z9l];have:=i1 _ rfl;have:=i2 _ rfl;have:=show Z1j.size=3 by decide
   have:=show Z0r.size=5 by decide
   have:=show Zt.size=7 by decide
   first
    | (simp only [Zx,Z0i,Z0h,Z0l,Z0k,Z02,Zv,Tree.many] at *; omega)
    | (simp only [Zx,Z0i,Z0h,Z0l,Z0k,Z02,Zv,Tree.many]; omega)
 | trycf g1 h1 g2 g3 i1 i2 i3 =>
   refine LG.ofS (by simp) ?_;rw [Z9d,Z8t,Z5z,Z9l];have:=h1.2.1;have:=i1 _ rfl;have:=i2 _ rfl;have:=i3 _ rfl;have:=show Z1j.size=3 by decide
   have:=show Z0r.size=5 by decide
   have:=show Zt.size=7 by decide
   first
    | (simp only [Zx,Z0i,Z0h,Z0l,Z0k,Z02,Zv,Tree.many] at *; omega)
    | (simp only [Zx,Z0i,Z0h,Z0l,Z0k,Z02,Zv,Tree.many]; omega)
 | empty =>
   refine LG.ofS (by simp) ?_;rw [Zcw]
   first
    | (simp only [Zx,Z0i,Z0h,Z0l,Z0k,Z02,Zv,Tree.many] at *; omega)
    | (simp only [Zx,Z0i,Z0h,Z0l,Z0k,Z02,Zv,Tree.many]; omega)
 | expr g1 i1 =>
   refine LG.ofS (by simp) ?_;rename_i x;rw [Zgh];have:=i1 _ rfl 0;have:=Zc4 (Z6y (Zd (vP x 0))) (vP x 0);unfold Zfm;simp only [Zx,Z0i,Z0h,Z0l,Z0k,Z02,Zv,Tree.many];omega
 | snil=>exact ⟨fun f=>by rw [Z94,Z02]; omega,by show lenP []≤_; rw [Z02]; omega⟩
 | scons g1 g2 i1 i2 =>
   have h1:=i1 _ rfl;have h3:=i2.2;refine ⟨fun f=>?_,?_⟩
   ·rw [Z6d,Zx,Zx];have:=Zg4 f;have:=i2.1 false;simp only [Zv];omega
   ·rw [pP,Zx,Z0i];simp only [Zv];omega
theorem Zh1 {l:List Tree} (h:Wf .sl l):(Zd (pP l)).length≤2000 * Zv l:=(Z4p h).2
theorem Zdf (L M:List Tree):pP (L ++ M)=pP L ++ pP M:=by
 induction L with
 | nil=>rfl
 | cons y L ih=>rw [List.cons_append,pP,pP,ih]; simp
theorem Zjp (w:World) (hB:Tabs w) (Bt:Nat) (a:ATree) (hT:TreeAt w Bt a) (hl:Wf .sl (Zr a.kids)) (hm:Zv (Zr a.kids)≤10000) :
 Calls Tryz.prog 8 #[a.ptr] w fun e w'=>e=.returned (.string (Zgg (Zr a.kids)))∧Below w.heap.size w w':=by
 have hft:=Zh1 hl;have hst:=Zir hB hl;have c3:=hT.c3;have hV:=Z4j hT;have hL:∀ x∈a.kids,Z2e w x:=fun x hx=>(hst (by omega) Bt a.kids rfl (fun y hy=>hT.kid hy) x hx).1 rfl;have hlt:=hT.lt;have hlen:a.kids.length≤100000:=by
  have:=Z2x (Zr a.kids);rw [Z2p] at this;omega
 obtain ⟨L,hLL⟩:=zX a.kids
 rw [← hLL] at hL hft hV hlen hm ⊢;clear hLL;obtain ⟨p,cp,hpv,hge,hmx,hk⟩:=hV;rw [hpv] at c3;have HK:=lh hk;have HL:=lh hL;have HF:Hid ((Zd (pP (Zr L))).length≤20000000):=lh (by have:=Z2x (Zr L); omega);obtain ⟨n,hn⟩:=zX L.length
 have HN:=lh hn;rw [← hn] at hge hlen c3;unfold maxLen at hmx;have hWn:BW w w.heap.size w.heap.size [] (w.alloc (.cells #[.pointer none,.slice none 0 0] 69)):=⟨(BAt.new w).is,(Y8 _ _).alloc (Y5 _) _,Y5 _,by rw [World.size_alloc]; omega⟩
 have HWN:=lh hWn;have y3:=hWn.cell c3;unfold ATree.ptr Zgg toB;clear hWn hft hst hk hL hn hpv hT hm hl hB;go_enter Tryz.func8,Tryz.ntmps8
 go_wp2_with fail
 go_loopw [13] (fun i wr=>∃ k:Nat,k≤n∧i=.int .i64 k∧Hid (BW w w.heap.size w.heap.size (Zd (pP (Zr (L.take k)))) wr)) (fun i _=>n - (intOf i).toNat)
 case atStart=>exact ⟨0,by omega,rfl,HWN⟩
 case round=>
  obtain ⟨k,hkn,rfl,HWk⟩:=hrel;clear HWN;by_cases hlt:k < n
  ·obtain ⟨x, hx⟩ : ∃ x, L[k]? = some x := ⟨_, Yd (by rw [← HN.out]; exact hlt)⟩
   obtain ⟨g,off,rfl,hc⟩:=HK.out k x hx;have cx:=HWk.out.cell hc;have hWx:=(HL.out x (Yl hx)).says;have htk:L.take (k + 1)=L.take k ++ [x]:=by rw [List.take_add_one,hx]; rfl
   have hsn:Zd (pP (Zr (L.take (k + 1))))=Zd (pP (Zr (L.take k))) ++ (Zd (sP x.tree) ++ [10]):=by
    rw [htk,Z2j,show Zr [x]=[x.tree] from rfl,Zdf,Z7,pP,Z7]; rfl
   have hpre:(Zd (pP (Zr (L.take (k + 1))))).length≤(Zd (pP (Zr L))).length:=by
    have h:Zr L=Zr (L.take (k + 1)) ++ Zr (L.drop (k + 1)):=by rw [← Z2j,List.take_append_drop]
    rw [h,Zdf,Z7,Yq]; omega
   obtain ⟨P,hP⟩:=zX (Zd (pP (Zr (L.take k))))
   obtain ⟨X,hX⟩:=zX (Zd (sP x.tree))
   have hft:=HF.out;rw [hsn,← hP,← hX] at hpre;simp only [zL,zM,zN] at hpre;have hbd:P.length + X.length + 1≤20000000:=by omega
   have HBD:=lh hbd;have HSN:=lh hsn;have HPX:=lh (And.intro hP hX);rw [← hP] at HWk;rw [← hX] at hWx;have HWX:=lh hWx;unfold ATree.ptr at cx;have hkI:((k:Nat):Int) < (n:Int):=by omega
   clear hc htk hsn hpre hft hbd hP hX hWx hx;go_wp2_with fail
   refine (HWX.out w.heap.size w.heap.size _ _ HWk.out (by have:=HBD.out; omega)).mono ?_;rintro e' w2 ⟨rfl,hw2,hb2⟩;have HW2:=lh hw2;clear hw2 hb2;go_wp2_with fail
   refine (HW2.out.byte 10 (by have:=HBD.out; rw [Yq]; omega)).mono ?_;rintro e' w3 ⟨rfl,hw3,hb3⟩;have HW3:=lh hw3;clear hw3 hb3;go_wp2;go_roundw
   case rel=>exact ⟨k + 1,by omega,rfl,lh (by have h:=HW3.out; rw [HSN.out,← HPX.out.1,← HPX.out.2]; simpa using h)⟩
   case measure=>simp [intOf]; omega
  ·have hkn2 : k = n := by omega
   subst hkn2;have HWn:Hid (BW w w.heap.size w.heap.size (Zd (pP (Zr L))) wr):=lh (by
    have h:=HWk.out;rwa [Ym (by rw [HN.out]; exact Y5 _)] at h)
   clear HWk HF;go_wp2_with fail
   refine (Tryz.Builder_String_any w.heap.size w.heap.size _ wr HWn.out.is HWn.out.sz).mono ?_;rintro e w3 ⟨rfl,hn3⟩;have HB3:Hid (Below w.heap.size w w3):=lh (HWn.out.bel.trans hn3);clear hn3;go_wp2;go_ret;exact ⟨rfl,HB3.out⟩
theorem bext {a b:ByteArray} (h:a.data.toList=b.data.toList):a=b:=by
 obtain ⟨⟨a⟩⟩:=a;obtain ⟨⟨b⟩⟩:=b;simpa using h
theorem Zm (l:List Pc):(toB l).data.toList=Zd l:=rfl
theorem Z2q (l:List Pc):(toB l).size=lenP l:=rfl
def vbT:Tree→List Pc
 | .mk k t n ks=>vbP k t n ks
section
variable {w0:World} {a:ATree} {X Y:ByteArray}
theorem RV.cast (h:RV w0 a X) (e:X.data.toList=Y.data.toList):RV w0 a Y:=by rw [← bext e]; exact h
theorem RS'.cast (h:RS' w0 a X) (e:X.data.toList=Y.data.toList):RS' w0 a Y:=by rw [← bext e]; exact h
theorem RA.cast {k:Int} (h:RA w0 a k X) (e:X.data.toList=Y.data.toList):RA w0 a k Y:=by rw [← bext e]; exact h
end
theorem Zmq (t:Tree) (need:Int):vP t need=Z9o (decide (Zo t.kind < need)) (vbT t):=by cases t; exact Zl1 need
theorem Zaz (k:Int):0≤Zo k:=by
 unfold Zo;repeat' split
 all_goals decide
theorem Z3e (t:Tree):vP t 0=vbT t:=by
 rw [Zmq,decide_eq_false (by have:=Zaz t.kind; omega)];rfl
theorem Zlg:∀ (l:List Tree),Zd (lP true l)=Lib.join (l.map fun t=>Zd (vbT t)) [44,32]:=by
 have h2:∀ (l:List Tree),Zd (lP false l)=(l.map fun t=>[44,32] ++ Zd (vbT t)).flatten:=by
  intro l;induction l with
  | nil=>rw [Z7f]; rfl
  | cons x l ih=>rw [Z5e,Z7,Z7,ih,Z3e]; simp [sepP,Zd,Pc.bytes]
 have h3:∀ (x:List UInt8) (l:List (List UInt8)),Lib.join (x :: l) [44,32]=x ++ (l.map fun t=>[44,32] ++ t).flatten:=by
  intro x l;induction l generalizing x with
  | nil=>simp [Lib.join,List.intercalate]
  | cons y l ih =>
    have:=ih y;simp only [Lib.join,List.intercalate,List.intersperse_cons_cons,List.flatten_cons,List.map_cons] at this ⊢;rw [this];simp
 intro l;cases l with
 | nil=>rw [Z7f]; rfl
 | cons x l =>
   rw [Z5e,Z7,Z7,h2,Z3e,List.map_cons,h3];simp [sepP,Zj,Function.comp_def]
theorem Zk8:∀ (l:List Tree),Zd (bP true l)=Lib.join (l.map fun t=>Zd (sP t)) [32]:=by
 have h2:∀ (l:List Tree),Zd (bP false l)=(l.map fun t=>[32] ++ Zd (sP t)).flatten:=by
  intro l;induction l with
  | nil=>rw [Z94]; rfl
  | cons x l ih=>rw [Z6d,Z7,Z7,ih]; simp [sepP,Zd,Pc.bytes]
 have h3:∀ (x:List UInt8) (l:List (List UInt8)),Lib.join (x :: l) [32]=x ++ (l.map fun t=>[32] ++ t).flatten:=by
  intro x l;induction l generalizing x with
  | nil=>simp [Lib.join,List.intercalate]
  | cons y l ih =>
    have:=ih y;simp only [Lib.join,List.intercalate,List.intersperse_cons_cons,List.flatten_cons,List.map_cons] at this ⊢;rw [this];simp
 intro l;cases l with
 | nil=>rw [Z94]; rfl
 | cons x l =>
   rw [Z6d,Z7,Z7,h2,List.map_cons,h3];simp [sepP,Zj,Function.comp_def]
theorem Zga (L:List ATree):Z6o (L.map fun x=>toB (vbT x.tree)) ⟨#[44,32]⟩=toB (lP true (Zr L)):=by
 apply bext;rw [Zm,Zlg,Z26,List.map_map];simp [Z6o,Function.comp_def,toB]
theorem Zao (L:List ATree):Z6o (L.map fun x=>toB (sP x.tree)) ⟨#[32]⟩=toB (bP true (Zr L)):=by
 apply bext;rw [Zm,Zk8,Z26,List.map_map];simp [Z6o,Function.comp_def,toB]
theorem Zap {P:ATree→ByteArray→Prop} {f:ATree→ByteArray} {L:List ATree} (h:∀ x∈L,P x (f x)):Each P L (L.map f):=
 ⟨by simp,fun i x hx=>⟨f x,by rw [Yo,hx]; rfl,h x (Yl hx)⟩⟩
end Go.Proofs.YtmeiggjboakmpaaGreatDoor
