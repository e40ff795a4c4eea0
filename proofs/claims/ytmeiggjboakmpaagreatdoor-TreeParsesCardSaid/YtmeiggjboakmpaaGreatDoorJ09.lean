/- Package tree: write: leaves. -/
import Derived.Test.YtmeiggjboakmpaaGreatDoorJ08
import Derived.Lib.AppendIntMem
import Derived.Shelf.Strings.OnBuilder
import Derived.Maps.StringElems
namespace Go.Proofs.YtmeiggjboakmpaaGreatDoor
open Go Go.RowKit
set_option maxRecDepth 100000
set_option maxHeartbeats 20000000
set_option linter.unusedVariables false
set_option linter.unusedSimpArgs false
section
variable {w0 w wc:World} {B b:Nat} {l m:List UInt8}
theorem strA (h:Hid (BW w0 B b l wc)) (hb:Hid (Below B w wc)) (s:ByteArray) (hl:l.length + s.data.toList.length≤140737488355328:=by first | omega | (simp only [zL,zM,zN]; omega)) :
 Calls Tryz.prog 55 #[.pointer (some ⟨b,0,none⟩),.string s] wc fun e w'=>e=.returned (.tuple #[.int .i64 s.size,.nilIface])∧Hid (BW w0 B b (l ++ s.data.toList) w')∧Hid (Below B w w'):=
 (h.out.str s hl).mono fun e w' g=>⟨g.1,lh g.2.1,lh (hb.out.trans g.2.2)⟩
theorem Z5h (h:Hid (BW w0 B b l wc)) (hb:Hid (Below B w wc)) (c:UInt8) (hl:l.length + 1≤140737488355328:=by first | omega | (simp only [zL,zM,zN]; omega)) :
 Calls Tryz.prog 24 #[.pointer (some ⟨b,0,none⟩),.int .u8 c.toNat] wc fun e w'=>e=.returned .nilIface∧Hid (BW w0 B b (l ++ [c]) w')∧Hid (Below B w w'):=
 (h.out.byte c hl).mono fun e w' g=>⟨g.1,lh g.2.1,lh (hb.out.trans g.2.2)⟩
theorem Z5o (h:Hid (BW w0 B b l wc)) (hb:Hid (Below B w wc)) (c:UInt8) (u:FrameMode) (hl:l.length + 1≤140737488355328:=by first | omega | (simp only [zL,zM,zN]; omega)) :
 CallsD Tryz.prog 24 #[.pointer (some ⟨b,0,none⟩),.int .u8 c.toNat] u wc fun e u' w'=>u'=u∧(e=.returned .nilIface∧BW w0 B b (l ++ [c]) w'∧Below B w w'):=
 (h.out.byteD c hl u).mono fun e u' w' g=>⟨g.1,g.2.1,g.2.2.1,hb.out.trans g.2.2.2⟩
theorem Z36 {F:FuncId} {A:Nat→Array Value} (H:Hid (∀ (B b:Nat) (l:List UInt8) (w:World),BW w0 B b l w→l.length + m.length≤140737488355328→Calls Tryz.prog F (A b) w (Wrote w0 B b l w m))) (h:Hid (BW w0 B b l wc)) (hb:Hid (Below B w wc))
 (hl:l.length + m.length≤140737488355328:=by first | omega | (simp only [zL,zM,zN]; omega)) :
 Calls Tryz.prog F (A b) wc fun e w'=>e=.returned (.tuple #[])∧Hid (BW w0 B b (l ++ m) w')∧Hid (Below B w w'):=
 (H.out B b l wc h.out hl).mono fun e w' g=>⟨g.1,lh g.2.1,lh (hb.out.trans g.2.2)⟩
end
theorem Z3w (k:Int) (t:ByteArray) (n:Int) (ks:List Tree) (need:Int) (X:List UInt8) (h:Zd (vbP k t n ks)=X) (s:Int) (hs:Zo k=s):Zd (vP (.mk k t n ks) need)=if decide (s < need)=true then 40 :: (X ++ [41]) else X:=by
 rw [Zl1,hs];unfold Z9o;split;·rw [Z4,Z7,h]; rfl
 ·exact h
def Pow (w : World) : Prop := Lib.TabIs Tryz.prog w "internal/strconv.uint64pow10" .u64 Lib.pow10Tab
theorem Pow.below {w w':World} (h:Pow w) (hB:Below w.heap.size w w'):Pow w':=Lib.tabBelow_of_tabIs h w' hB
theorem below_grow (w:World) (k:Nat) (os:Array Obj):Below w.heap.size w (Sort.grow (w.drewN k) os):=by
 refine ⟨rfl,rfl,rfl,?_,fun i hi=>?_⟩;·simp [Sort.grow,World.drewN]
 ·simp only [Sort.grow,World.drewN];exact Array.getElem?_append_left hi
theorem Zdt (w:World) (n:Int) (h0:-9223372036854775808≤n) (h1:n≤9223372036854775807) (ht:Pow w) :
 Calls Tryz.prog 84 #[.int .i64 n] w fun e w'=>e=.returned (.string ⟨(Lib.itoa n).toArray⟩)∧Below w.heap.size w w':=by
 refine (Tryz.strconv_Itoa n h0 h1 w ht).mono ?_;rintro e w' ⟨rfl,k,os,rfl⟩;exact ⟨rfl,below_grow _ _ _⟩
def Ziu:List ByteArray:=[⟨#[32,124,124,32]⟩,⟨#[32,38,38,32]⟩,⟨#[32,61,61,61,32]⟩,⟨#[32,60,32]⟩,⟨#[32,43,32]⟩,⟨#[32,45,32]⟩,⟨#[32,42,32]⟩,⟨#[33]⟩,⟨#[116,121,112,101,111,102,32]⟩,⟨#[100,101,108,101,116,101,32]⟩]
def Zd4 (w:World):Prop:=∀ j s,Ziu[j]?=some s→w.cell? ⟨4,j,none⟩=some (.string s)
theorem Z5q {w:World} {Bt:Nat} {a:ATree} (hT:TreeAt w Bt a) (hne:a.kids≠[]):∃ g cp,w.cell? ⟨a.b,3,none⟩=some (.slice (some ⟨g,0,none⟩) a.kids.length cp)∧a.kids.length≤cp∧cp≤maxLen∧g < w.heap.size∧∀ (i:Nat) (x:ATree),a.kids[i]?=some x→w.cell? ⟨g,i,none⟩=some x.ptr:=by
 obtain ⟨p,cp,hv,hge,hmx⟩:=hT.vOf;have hrow:=hT.rowOf;obtain ⟨g,hp⟩:∃ g,p=some ⟨g,0,none⟩:=by
  rcases Zp hrow with ⟨_,h2⟩ | ⟨g,cap,h1,_⟩;·exact absurd (List.eq_nil_of_length_eq_zero h2) hne
  ·rw [hv] at h1; simp only [Value.slice.injEq] at h1; exact ⟨g,h1.1⟩
 subst hp;refine ⟨g,cp,by rw [← hv]; exact hT.c3,hge,hmx,(Yh hrow g (by rw [hv]; rfl)).2,fun i x hx=>?_⟩;exact Z9j hrow (g:=g) (by rw [hv]; rfl) (by rw [Yo,hx]; rfl)
def Z4c (w:World) (v:Value) (L:List ATree):Prop:=∃ p cp,v=.slice p L.length cp∧L.length≤cp∧cp≤maxLen∧∀ (i:Nat) (x:ATree),L[i]?=some x→∃ g o,p=some ⟨g,o,none⟩∧w.cell? ⟨g,o + i,none⟩=some x.ptr
def Z5w (w0:World) (L:List ATree):Prop:=∀ (o e:ByteArray) (v:Value) (B b:Nat) (l:List UInt8) (w:World),Z4c w0 v L→BW w0 B b l w→l.length + (o.data.toList.length + (Zd (lP true (Zr L))).length + e.data.toList.length)≤140737488355328 →
 Calls Tryz.prog 86 #[.pointer (some ⟨b,0,none⟩),.string o,v,.string e] w (Wrote w0 B b l w (o.data.toList ++ (Zd (lP true (Zr L)) ++ e.data.toList)))
theorem Z0e.says {w0:World} {x:ATree} (h:Z0e w0 x) (need:Int):∀ (B b:Nat) (l:List UInt8) (w:World),BW w0 B b l w→l.length + (Zd (vP x.tree need)).length≤140737488355328 →
 Calls Tryz.prog 56 #[.pointer (some ⟨b,0,none⟩),.pointer (some ⟨x.b,0,none⟩),.int .i64 need] w (Wrote w0 B b l w (Zd (vP x.tree need))):=fun B b l w h1 h2=>h need B b l w h1 h2
theorem Z3a {w:World} {Bt:Nat} {a:ATree} (hT:TreeAt w Bt a) {L:List ATree} (hks:a.kids=L) (n:Nat) (hn:L.length=n) (h0:n≠0):∃ g cp,w.cell? ⟨a.b,3,none⟩=some (.slice (some ⟨g,0,none⟩) n cp)∧n≤cp∧cp≤2 ^ 63 - 1∧g < w.heap.size ∧
 ∀ (i:Nat) (x:ATree),L[i]?=some x→w.cell? ⟨g,i,none⟩=some (.pointer (some ⟨x.b,0,none⟩)):=by
 subst hks;obtain ⟨g,cp,h1,h2,h3,h4,h5⟩:=Z5q hT (by intro e; rw [e] at hn; exact h0 hn.symm);exact ⟨g,cp,by rw [← hn]; exact h1,by omega,h3,h4,h5⟩
theorem Z2e.says {w0:World} {x:ATree} (h:Z2e w0 x):∀ (B b:Nat) (l:List UInt8) (w:World),BW w0 B b l w→l.length + (Zd (sP x.tree)).length≤140737488355328 →
 Calls Tryz.prog 23 #[.pointer (some ⟨b,0,none⟩),.pointer (some ⟨x.b,0,none⟩)] w (Wrote w0 B b l w (Zd (sP x.tree))):=fun B b l w h1 h2=>h B b l w h1 h2
theorem Z74 {w0:World} {Bt:Nat} (a:ATree) (hT:TreeAt w0 Bt a) (k:Int) (by':List UInt8) (hK:(k=19∧by'=[116,114,117,101])∨(k=20∧by'=[102,97,108,115,101])∨(k=21∧by'=[110,117,108,108])∨(k=22∧by'=[117,110,100,101,102,105,110,101,100])) (h1:a.kind=k):Z0e w0 a:=by
 have c0:=hT.c0;rw [h1] at c0;have hs:Zo k=9∧Zd [wd (Z9z k)]=by':=by rcases hK with ⟨rfl,rfl⟩ | ⟨rfl,rfl⟩ | ⟨rfl,rfl⟩ | ⟨rfl,rfl⟩ <;> exact ⟨by decide,rfl⟩
 have h2:19≤k∧k≤22:=by omega
 have hv:∀ need,Zd (vP a.tree need)=if decide ((9:Int) < need)=true then 40 :: (by' ++ [41]) else by':=fun need=>by
  obtain ⟨ab,av,ak,tx,an,aks⟩:=a;simp only [ATree.kind] at h1;subst h1;exact Z3w _ _ _ _ _ _ (by rw [Z95 h2.1 h2.2]; exact hs.2) 9 hs.1
 have hs9:=hs.1;clear h1 hs hT h2;intro need B b l w hW hF;unfold Fits at hF;rw [hv] at hF ⊢;have HW:=lh hW;unfold ATree.ptr;by_cases hp:9 < need
 ·rw [decide_eq_true hp, Yb rfl] at hF ⊢;try simp only [zL, zM, zN] at hF
  have HW0:=HW;have HB0:Hid (Below B w w):=lh (Y8 _ _);have x0_0:=HW0.out.cell c0;have HS:Hid (∀ w,Calls Tryz.prog 83 #[.int .i64 (k)] w fun e w'=>e=.returned (.int .i64 (9))∧w'=w):=lh fun w=>by have h:=Z0b (k) w; rwa [show Zo (k)=9 by first | assumption | decide] at h
  have hcmp:(9 < need)=True:=by simp; omega
  clear hW HW hp hv;rcases hK with ⟨rfl,rfl⟩ | ⟨rfl,rfl⟩ | ⟨rfl,rfl⟩ | ⟨rfl,rfl⟩;all_goals try simp only [zL,zM,zN] at hF
  all_goals
   go_enter_defers Tryz.func56,Tryz.ntmps56
   go_wp2_with fail
   refine (HS.out _).mono ?_;rintro e w' ⟨rfl,hw'⟩;rw [hw'];clear hw' w' HS;go_wp2_with fail
   refine (Z5h HW0 HB0 40).mono ?_;rintro e w1 ⟨rfl,HW1,HB1⟩;have x0_1:=HW1.out.cell c0;go_wp2_with fail
   refine (strA HW1 HB1 _).mono ?_;rintro e w2 ⟨rfl,HW2,HB2⟩;go_wp2_with fail
   refine leaves_cons (f:=24) (args:=#[.pointer (some ⟨b,0,none⟩),.int .u8 41]) (by simp) (by simp [go_sem]) ?_;refine (Z5o HW2 HB2 41 .returning).mono ?_;rintro e u' w'' ⟨rfl,rfl,hwf,hbf⟩;refine ⟨.tuple #[],by simp [results,Tryz.results56,go_sem],rfl,?_,hbf⟩;simpa using hwf
 ·rw [decide_eq_false hp, Y9 (by simp)] at hF ⊢;try simp only [zL, zM, zN] at hF
  have HW0:=HW;have HB0:Hid (Below B w w):=lh (Y8 _ _);have x0_0:=HW0.out.cell c0;have HS:Hid (∀ w,Calls Tryz.prog 83 #[.int .i64 (k)] w fun e w'=>e=.returned (.int .i64 (9))∧w'=w):=lh fun w=>by have h:=Z0b (k) w; rwa [show Zo (k)=9 by first | assumption | decide] at h
  have hcmp:(9 < need)=False:=by simp; omega
  clear hW HW hp hv;rcases hK with ⟨rfl,rfl⟩ | ⟨rfl,rfl⟩ | ⟨rfl,rfl⟩ | ⟨rfl,rfl⟩;all_goals try simp only [zL,zM,zN] at hF
  all_goals
   go_enter_defers Tryz.func56,Tryz.ntmps56
   go_wp2_with fail
   refine (HS.out _).mono ?_;rintro e w' ⟨rfl,hw'⟩;rw [hw'];clear hw' w' HS;go_wp2_with fail
   refine (strA HW0 HB0 _).mono ?_;rintro e w1 ⟨rfl,HW1,HB1⟩;go_wp2_with fail
   refine ⟨.tuple #[],by simp [results,Tryz.results56,go_sem],rfl,?_,HB1.out⟩;have hwf:=HW1.out;simpa using hwf
theorem Za3 {w0:World} {Bt:Nat} (a:ATree) (hT:TreeAt w0 Bt a) (h1:a.kind=23):Z0e w0 a:=by
 have c0:=hT.c0;rw [h1] at c0;have c1:=hT.c1;have hv:∀ need,Zd (vP a.tree need)=if decide ((9:Int) < need)=true then 40 :: (a.text.data.toList ++ [41]) else a.text.data.toList:=fun need=>by
  obtain ⟨ab,av,ak,tx,an,aks⟩:=a;simp only [ATree.kind] at h1;subst h1;exact Z3w _ _ _ _ _ _ (by rw [Z7v,Z4,Zj,List.append_nil]; rfl) 9 (by decide)
 obtain ⟨tx,htx⟩:=zX a.text
 rw [← htx] at c1;simp only [← htx] at hv;clear htx;intro need B b l w hW hF;unfold Fits at hF;rw [hv] at hF ⊢;have HW:=lh hW;unfold ATree.ptr;by_cases hp:9 < need
 ·rw [decide_eq_true hp, Yb rfl] at hF ⊢;try simp only [zL, zM, zN] at hF
  have HW0:=HW;have HB0:Hid (Below B w w):=lh (Y8 _ _);have x0_0:=HW0.out.cell c0;have x1_0:=HW0.out.cell c1;have HS:Hid (∀ w,Calls Tryz.prog 83 #[.int .i64 (23)] w fun e w'=>e=.returned (.int .i64 (9))∧w'=w):=lh fun w=>by have h:=Z0b (23) w; rwa [show Zo (23)=9 by first | assumption | decide] at h
  have hcmp:(9 < need)=True:=by simp; omega
  clear hW HW hp hv;go_enter_defers Tryz.func56,Tryz.ntmps56
  go_wp2_with fail
  refine (HS.out _).mono ?_;rintro e w' ⟨rfl,hw'⟩;rw [hw'];clear hw' w' HS;go_wp2_with fail
  refine (Z5h HW0 HB0 40).mono ?_;rintro e w1 ⟨rfl,HW1,HB1⟩;have x0_1:=HW1.out.cell c0;have x1_1:=HW1.out.cell c1;go_wp2_with fail
  refine (strA HW1 HB1 tx).mono ?_;rintro e w2 ⟨rfl,HW2,HB2⟩;go_wp2_with fail
  refine leaves_cons (f:=24) (args:=#[.pointer (some ⟨b,0,none⟩),.int .u8 41]) (by simp) (by simp [go_sem]) ?_;refine (Z5o HW2 HB2 41 .returning).mono ?_;rintro e u' w'' ⟨rfl,rfl,hwf,hbf⟩;refine ⟨.tuple #[],by simp [results,Tryz.results56,go_sem],rfl,?_,hbf⟩;simpa using hwf
 ·rw [decide_eq_false hp, Y9 (by simp)] at hF ⊢;try simp only [zL, zM, zN] at hF
  have HW0:=HW;have HB0:Hid (Below B w w):=lh (Y8 _ _);have x0_0:=HW0.out.cell c0;have x1_0:=HW0.out.cell c1;have HS:Hid (∀ w,Calls Tryz.prog 83 #[.int .i64 (23)] w fun e w'=>e=.returned (.int .i64 (9))∧w'=w):=lh fun w=>by have h:=Z0b (23) w; rwa [show Zo (23)=9 by first | assumption | decide] at h
  have hcmp:(9 < need)=False:=by simp; omega
  clear hW HW hp hv;go_enter_defers Tryz.func56,Tryz.ntmps56
  go_wp2_with fail
  refine (HS.out _).mono ?_;rintro e w' ⟨rfl,hw'⟩;rw [hw'];clear hw' w' HS;go_wp2_with fail
  refine (strA HW0 HB0 tx).mono ?_;rintro e w1 ⟨rfl,HW1,HB1⟩;go_wp2_with fail
  refine ⟨.tuple #[],by simp [results,Tryz.results56,go_sem],rfl,?_,HB1.out⟩;have hwf:=HW1.out;simpa using hwf
theorem Zgv {w0:World} {Bt:Nat} (a:ATree) (hT:TreeAt w0 Bt a) (h1:a.kind=18) (hs:a.text.size≤1000000):Z0e w0 a:=by
 have c0:=hT.c0;rw [h1] at c0;have c1:=hT.c1;have hv:∀ need,Zd (vP a.tree need)=if decide ((9:Int) < need)=true then 40 :: (Z57 a.text ++ [41]) else Z57 a.text:=fun need=>by
  obtain ⟨ab,av,ak,tx,an,aks⟩:=a;simp only [ATree.kind] at h1;subst h1;exact Z3w _ _ _ _ _ _ (by rw [Zdi,Z4,Zj,List.append_nil]; rfl) 9 (by decide)
 obtain ⟨tx,htx⟩:=zX a.text
 rw [← htx] at c1 hs;simp only [← htx] at hv;have hq:=fun w=>Zhc tx w hs;obtain ⟨ql,hql⟩:=zX (Z57 tx)
 rw [← hql] at hq;simp only [← hql] at hv;have HQ:=lh hq;clear htx hs hql hq;intro need B b l w hW hF;unfold Fits at hF;rw [hv] at hF ⊢;have HW:=lh hW;unfold ATree.ptr;by_cases hp:9 < need
 ·rw [decide_eq_true hp, Yb rfl] at hF ⊢;try simp only [zL, zM, zN] at hF
  have HW0:=HW;have HB0:Hid (Below B w w):=lh (Y8 _ _);have x0_0:=HW0.out.cell c0;have x1_0:=HW0.out.cell c1;have HS:Hid (∀ w,Calls Tryz.prog 83 #[.int .i64 (18)] w fun e w'=>e=.returned (.int .i64 (9))∧w'=w):=lh fun w=>by have h:=Z0b (18) w; rwa [show Zo (18)=9 by first | assumption | decide] at h
  have hcmp:(9 < need)=True:=by simp; omega
  clear hW HW hp hv;go_enter_defers Tryz.func56,Tryz.ntmps56
  go_wp2_with fail
  refine (HS.out _).mono ?_;rintro e w' ⟨rfl,hw'⟩;rw [hw'];clear hw' w' HS;go_wp2_with fail
  refine (Z5h HW0 HB0 40).mono ?_;rintro e w1 ⟨rfl,HW1,HB1⟩;have x0_1:=HW1.out.cell c0;have x1_1:=HW1.out.cell c1;go_wp2_with fail
  refine (HQ.out _).mono ?_;rintro e w2 ⟨rfl,hb2⟩;have HW2:=lh (HW1.out.keep hb2);have HB2:=lh (HB1.out.trans (hb2.mono HW1.out.sz));have x0_2:=HW2.out.cell c0;have x1_2:=HW2.out.cell c1;clear hb2;go_wp2_with fail
  refine (strA HW2 HB2 ⟨ql.toArray⟩ (by show _ + ql.length≤_; first | omega | (simp only [zL,zM,zN]; omega))).mono ?_;rintro e w3 ⟨rfl,HW3,HB3⟩;go_wp2_with fail
  refine leaves_cons (f:=24) (args:=#[.pointer (some ⟨b,0,none⟩),.int .u8 41]) (by simp) (by simp [go_sem]) ?_;refine (Z5o HW3 HB3 41 .returning).mono ?_;rintro e u' w'' ⟨rfl,rfl,hwf,hbf⟩;refine ⟨.tuple #[],by simp [results,Tryz.results56,go_sem],rfl,?_,hbf⟩;simpa using hwf
 ·rw [decide_eq_false hp, Y9 (by simp)] at hF ⊢;try simp only [zL, zM, zN] at hF
  have HW0:=HW;have HB0:Hid (Below B w w):=lh (Y8 _ _);have x0_0:=HW0.out.cell c0;have x1_0:=HW0.out.cell c1;have HS:Hid (∀ w,Calls Tryz.prog 83 #[.int .i64 (18)] w fun e w'=>e=.returned (.int .i64 (9))∧w'=w):=lh fun w=>by have h:=Z0b (18) w; rwa [show Zo (18)=9 by first | assumption | decide] at h
  have hcmp:(9 < need)=False:=by simp; omega
  clear hW HW hp hv;go_enter_defers Tryz.func56,Tryz.ntmps56
  go_wp2_with fail
  refine (HS.out _).mono ?_;rintro e w' ⟨rfl,hw'⟩;rw [hw'];clear hw' w' HS;go_wp2_with fail
  refine (HQ.out _).mono ?_;rintro e w1 ⟨rfl,hb1⟩;have HW1:=lh (HW0.out.keep hb1);have HB1:=lh (HB0.out.trans (hb1.mono HW0.out.sz));have x0_1:=HW1.out.cell c0;have x1_1:=HW1.out.cell c1;clear hb1;go_wp2_with fail
  refine (strA HW1 HB1 ⟨ql.toArray⟩ (by show _ + ql.length≤_; first | omega | (simp only [zL,zM,zN]; omega))).mono ?_;rintro e w2 ⟨rfl,HW2,HB2⟩;go_wp2_with fail
  refine ⟨.tuple #[],by simp [results,Tryz.results56,go_sem],rfl,?_,HB2.out⟩;have hwf:=HW2.out;simpa using hwf
theorem Zgw {w0:World} {Bt:Nat} (a:ATree) (hT:TreeAt w0 Bt a) (h1:a.kind=17) (hn0:0≤a.n) (hn1:a.n≤1000000000) (hP:Pow w0):Z0e w0 a:=by
 have c0:=hT.c0;rw [h1] at c0;have c2:w0.cell? ⟨a.b,2,none⟩=some (.int .i64 a.n):=by simp [World.cell?,hT.blkOf]
 have hv:∀ need,Zd (vP a.tree need)=if decide ((9:Int) < need)=true then 40 :: (Lib.itoa a.n ++ [41]) else Lib.itoa a.n:=fun need=>by
  obtain ⟨ab,av,ak,tx,an,aks⟩:=a;simp only [ATree.kind] at h1;subst h1;exact Z3w _ _ _ _ _ _ (by rw [Zdy,Z4,Zj,List.append_nil]; rfl) 9 (by decide)
 obtain ⟨n,hn⟩:=zX a.n
 rw [← hn] at c2 hn0 hn1;simp only [← hn] at hv;have hq:=fun w (h:Below w0.heap.size w0 w)=>Zdt w n (by omega) (by omega) (hP.below h);obtain ⟨ql,hql⟩:=zX (Lib.itoa n)
 rw [← hql] at hq;simp only [← hql] at hv;have HQ:=lh hq;clear hn hn0 hn1 hql hq hP;intro need B b l w hW hF;unfold Fits at hF;rw [hv] at hF ⊢;have HW:=lh hW;unfold ATree.ptr;by_cases hp:9 < need
 ·rw [decide_eq_true hp, Yb rfl] at hF ⊢;try simp only [zL, zM, zN] at hF
  have HW0:=HW;have HB0:Hid (Below B w w):=lh (Y8 _ _);have x0_0:=HW0.out.cell c0;have x1_0:=HW0.out.cell c2;have HS:Hid (∀ w,Calls Tryz.prog 83 #[.int .i64 (17)] w fun e w'=>e=.returned (.int .i64 (9))∧w'=w):=lh fun w=>by have h:=Z0b (17) w; rwa [show Zo (17)=9 by first | assumption | decide] at h
  have hcmp:(9 < need)=True:=by simp; omega
  clear hW HW hp hv;go_enter_defers Tryz.func56,Tryz.ntmps56
  go_wp2_with fail
  refine (HS.out _).mono ?_;rintro e w' ⟨rfl,hw'⟩;rw [hw'];clear hw' w' HS;go_wp2_with fail
  refine (Z5h HW0 HB0 40).mono ?_;rintro e w1 ⟨rfl,HW1,HB1⟩;have x0_1:=HW1.out.cell c0;have x1_1:=HW1.out.cell c2;go_wp2_with fail
  refine (HQ.out _ HW1.out.bel).mono ?_;rintro e w2 ⟨rfl,hb2⟩;have HW2:=lh (HW1.out.keep hb2);have HB2:=lh (HB1.out.trans (hb2.mono HW1.out.sz));have x0_2:=HW2.out.cell c0;have x1_2:=HW2.out.cell c2;clear hb2;go_wp2_with fail
  refine (strA HW2 HB2 ⟨ql.toArray⟩ (by show _ + ql.length≤_; first | omega | (simp only [zL,zM,zN]; omega))).mono ?_;rintro e w3 ⟨rfl,HW3,HB3⟩;go_wp2_with fail
  refine leaves_cons (f:=24) (args:=#[.pointer (some ⟨b,0,none⟩),.int .u8 41]) (by simp) (by simp [go_sem]) ?_;refine (Z5o HW3 HB3 41 .returning).mono ?_;rintro e u' w'' ⟨rfl,rfl,hwf,hbf⟩;refine ⟨.tuple #[],by simp [results,Tryz.results56,go_sem],rfl,?_,hbf⟩;simpa using hwf
 ·rw [decide_eq_false hp, Y9 (by simp)] at hF ⊢;try simp only [zL, zM, zN] at hF
  have HW0:=HW;have HB0:Hid (Below B w w):=lh (Y8 _ _);have x0_0:=HW0.out.cell c0;have x1_0:=HW0.out.cell c2;have HS:Hid (∀ w,Calls Tryz.prog 83 #[.int .i64 (17)] w fun e w'=>e=.returned (.int .i64 (9))∧w'=w):=lh fun w=>by have h:=Z0b (17) w; rwa [show Zo (17)=9 by first | assumption | decide] at h
  have hcmp:(9 < need)=False:=by simp; omega
  clear hW HW hp hv;go_enter_defers Tryz.func56,Tryz.ntmps56
  go_wp2_with fail
  refine (HS.out _).mono ?_;rintro e w' ⟨rfl,hw'⟩;rw [hw'];clear hw' w' HS;go_wp2_with fail
  refine (HQ.out _ HW0.out.bel).mono ?_;rintro e w1 ⟨rfl,hb1⟩;have HW1:=lh (HW0.out.keep hb1);have HB1:=lh (HB0.out.trans (hb1.mono HW0.out.sz));have x0_1:=HW1.out.cell c0;have x1_1:=HW1.out.cell c2;clear hb1;go_wp2_with fail
  refine (strA HW1 HB1 ⟨ql.toArray⟩ (by show _ + ql.length≤_; first | omega | (simp only [zL,zM,zN]; omega))).mono ?_;rintro e w2 ⟨rfl,HW2,HB2⟩;go_wp2_with fail
  refine ⟨.tuple #[],by simp [results,Tryz.results56,go_sem],rfl,?_,HB2.out⟩;have hwf:=HW2.out;simpa using hwf
theorem Zk5 (f:Bool) (L:List Tree) (x:Tree):lP f (L ++ [x])=lP f L ++ (sepP (f && L.isEmpty) [sg 44,sp] ++ vP x 0):=by
 induction L generalizing f with
 | nil=>rw [List.nil_append,Z5e,Z7f,Z7f]; simp
 | cons y L ih=>rw [List.cons_append,Z5e,Z5e,ih]; simp
theorem Z4j {w:World} {Bt:Nat} {a:ATree} (hT:TreeAt w Bt a):Z4c w a.v a.kids:=by
 obtain ⟨p,cp,hv,hge,hmx⟩:=hT.vOf;refine ⟨p,cp,hv,hge,hmx,fun i x hx=>?_⟩;have hne:a.kids≠[]:=by intro e; rw [e] at hx; cases hx
 obtain ⟨g,cp',h1,h2,h3,h4,h5⟩:=Z5q hT hne;have h6:some a.v=some (.slice (some ⟨g,0,none⟩) a.kids.length cp'):=hT.c3.symm.trans h1;rw [hv] at h6;simp only [Option.some.injEq,Value.slice.injEq] at h6;exact ⟨g,0,h6.1,by rw [Nat.zero_add]; exact h5 i x hx⟩
theorem Zj3 {w0:World} (L:List ATree) (hL:∀ x∈L,Z0e w0 x) (hlen:L.length≤1000000):Z5w w0 L:=by
 intro o e v B b l w hV hW hF;obtain ⟨p,cp,rfl,hge,hmx,hk⟩:=hV;have HF:=lh hF;have HW:=lh hW;have HK:=lh hk;have HL:=lh hL;obtain ⟨n,hn⟩:=zX L.length
 have HN:=lh hn;rw [← hn] at hge hlen ⊢;unfold maxLen at hmx;have HO:=lh (hW.str o (by omega));clear hW hF hk hL hn;go_enter Tryz.func86,Tryz.ntmps86
 go_wp2_with fail
 refine HO.out.mono ?_;rintro e' w1 ⟨rfl,hw1,hb1⟩;have HW1:=lh hw1;have HB1:=lh hb1;clear hw1 hb1 HO;go_wp2_with fail
 go_loopw [15] (fun i wr=>∃ k:Nat,k≤n∧i=.int .i64 k∧Hid (BW w0 B b (l ++ o.data.toList ++ Zd (lP true (Zr (L.take k)))) wr)∧Hid (Below B w wr)) (fun i _=>n - (intOf i).toNat)
 case atStart=>exact ⟨0,by omega,rfl,by simpa [Zr,Z7f,Zj] using HW1,HB1⟩
 case round=>
  obtain ⟨k,hkn,rfl,HWk,HBk⟩:=hrel;clear HW1 HB1;by_cases hlt:k < n
  ·obtain ⟨x, hx⟩ : ∃ x, L[k]? = some x := ⟨_, Yd (by rw [← HN.out]; exact hlt)⟩
   obtain ⟨g,off,rfl,hc⟩:=HK.out k x hx;have cx:=HWk.out.cell hc;have hWx:=(HL.out x (Yl hx)).says 0;have htk:L.take (k + 1)=L.take k ++ [x]:=by rw [List.take_add_one,hx]; rfl
   have hsn:Zd (lP true (Zr (L.take (k + 1))))=Zd (lP true (Zr (L.take k))) ++ ((if k=0 then [] else [44,32]) ++ Zd (vP x.tree 0)):=by
    rw [htk,Z2j,show Zr [x]=[x.tree] from rfl,Zk5,Z7,Z7];congr 2
    have hem:(Zr (L.take k)).isEmpty=decide (k=0):=by
     cases k with
     | zero=>rfl
     | succ k =>
       cases L with
       | nil=>cases hx
       | cons y L=>rfl
    rw [hem];by_cases h0:k=0;·rw [decide_eq_true h0,Yb h0]; rfl
    ·rw [decide_eq_false h0,Y9 h0]; rfl
   have hpre:(Zd (lP true (Zr (L.take (k + 1))))).length≤(Zd (lP true (Zr L))).length:=by
    have:∀ (M N:List ATree) (f:Bool),(Zd (lP f (Zr M))).length≤(Zd (lP f (Zr (M ++ N)))).length:=by
     intro M;induction M with
     | nil=>intro N f; rw [show Zr ([]:List ATree)=[] from rfl,Z7f]; simp [Zj]
     | cons y M ih =>
       intro N f;rw [List.cons_append,Zr,Zr,Z5e,Z5e,Z7,Z7,Z7,Z7];simp only [List.length_append];have:=ih N false;omega
    have h:=this (L.take (k + 1)) (L.drop (k + 1)) true;rwa [List.take_append_drop] at h
   obtain ⟨P,hP⟩:=zX (Zd (lP true (Zr (L.take k))))
   obtain ⟨X,hX⟩:=zX (Zd (vP x.tree 0))
   have hft:=HF.out;rw [hsn,← hP,← hX] at hpre;simp only [List.length_append] at hpre;have hbd:l.length + (o.data.toList.length + (P.length + ((if k=0 then ([]:List UInt8) else [44,32]).length + X.length)))≤140737488355328:=by omega
   have HBD:=lh hbd;have HSN:=lh hsn;have HPX:=lh (And.intro hP hX);rw [← hP] at HWk;rw [← hX] at hWx;have HWX:=lh hWx;unfold ATree.ptr at cx;have hkI:((k:Nat):Int) < (n:Int):=by omega
   clear hc htk hsn hpre hft hbd hP hX hWx hx;by_cases h0:k=0
   ·subst h0;rw [Nat.add_zero] at cx;go_wp2_with fail
    refine (HWX.out B b _ _ HWk.out (by have:=HBD.out; simp only [if_pos,List.length_nil,List.length_append] at this ⊢; omega)).mono ?_;rintro e' w2 ⟨rfl,hw2,hb2⟩;have HW2:=lh hw2;have HB2:=lh (HBk.out.trans hb2);clear hw2 hb2;go_wp2;go_roundw
    case rel=>exact ⟨1,by omega,rfl,lh (by have h:=HW2.out; rw [HSN.out,← HPX.out.1,← HPX.out.2]; simpa using h),HB2⟩
    case measure=>simp [intOf]; omega
   ·have hkp : (0 : Int) < ((k : Nat) : Int) := by omega
    go_wp2_with fail
    refine (HWk.out.str ⟨#[44,32]⟩ (by have:=HBD.out; rw [Y9 h0] at this; simp only [zL,zM,zN] at this ⊢; omega)).mono ?_;rintro e' w2 ⟨rfl,hw2,hb2⟩;have cx2:=HWk.out;have HW2:=lh hw2;have HB2:=lh (HBk.out.trans hb2);clear hw2 hb2 cx2;go_wp2_with fail
    refine (HWX.out B b _ _ HW2.out (by have:=HBD.out; rw [Y9 h0] at this; simp only [zL,zM,zN] at this ⊢; omega)).mono ?_;rintro e' w3 ⟨rfl,hw3,hb3⟩;have HW3:=lh hw3;have HB3:=lh (HB2.out.trans hb3);clear hw3 hb3;go_wp2;go_roundw
    case rel=>exact ⟨k + 1,by omega,rfl,lh (by have h:=HW3.out; rw [HSN.out,← HPX.out.1,← HPX.out.2,Y9 h0]; simpa using h),HB3⟩
    case measure=>simp [intOf]; omega
  ·have hkn2 : k = n := by omega
   subst hkn2;have HWn:Hid (BW w0 B b (l ++ o.data.toList ++ Zd (lP true (Zr L))) wr):=lh (by
    have h:=HWk.out;rwa [Ym (by rw [HN.out]; exact Y5 _)] at h)
   have HE:=lh (HWn.out.str e (by have:=HF.out; simp only [List.length_append] at this ⊢; omega));clear HWk;go_wp2_with fail
   refine HE.out.mono ?_;rintro e' w2 ⟨rfl,hw2,hb2⟩;have HW2:=lh hw2;have HB2:=lh (HBk.out.trans hb2);clear hw2 hb2 HE;go_wp2;first | go_end0 | refine bodyPost_ret (results_none rfl _ _ _) rfl ?_
   exact ⟨rfl,by simpa using HW2.out,HB2.out⟩
end Go.Proofs.YtmeiggjboakmpaaGreatDoor
namespace Go.Proofs
set_option maxRecDepth 100000
set_option maxHeartbeats 20000000
set_option linter.unusedVariables false
set_option linter.unusedSimpArgs false
def Tryz.lays156_ren:Go.Shelf.Ren:=⟨fun | 156=>61 | 165=>91 | 166=>55 | 169=>25 | 240=>58 | 241=>109 | 276=>87 | 277=>122 | n=>n,fun | 31=>76 | 9=>9 | 3=>3 | 4=>4 | 0=>0 | 20=>20 | 72=>69 | 76=>74 | 70=>66 | 37=>67 | 75=>29 | 127=>103 | 164=>120 | 5=>5 | 80=>72 | n=>n,fun | n=>n⟩
theorem Tryz.lays156:Go.Proofs.Lays.n156 Tryz.prog Tryz.lays156_ren:={
 mixed:=by kernel_rfl
 f156:=Tryz.func61.trans (congrArg some (by kernel_rfl))
 f165:=Tryz.func91.trans (congrArg some (by kernel_rfl))
 f166:=Tryz.func55.trans (congrArg some (by kernel_rfl))
 f169:=Tryz.func25.trans (congrArg some (by kernel_rfl))
 f240:=Tryz.func58.trans (congrArg some (by kernel_rfl))
 f241:=Tryz.func109.trans (congrArg some (by kernel_rfl))
 f276:=Tryz.func87.trans (congrArg some (by kernel_rfl))
 f277:=Tryz.func122.trans (congrArg some (by kernel_rfl))
 t0:=Tryz.underlying0
 a0:=Tryz.isAgg0
 z0:=Tryz.sizeOf0
 v0:=Tryz.zeroValue0
 t3:=Tryz.underlying3
 a3:=Tryz.isAgg3
 z3:=Tryz.sizeOf3
 v3:=Tryz.zeroValue3
 t4:=Tryz.underlying4
 a4:=Tryz.isAgg4
 z4:=Tryz.sizeOf4
 v4:=Tryz.zeroValue4
 t9:=Tryz.underlying9
 a9:=Tryz.isAgg9
 z9:=Tryz.sizeOf9
 v9:=Tryz.zeroValue9
 t20:=Tryz.underlying20
 a20:=Tryz.isAgg20
 z20:=Tryz.sizeOf20
 v20:=Tryz.zeroValue20
 t31:=Tryz.underlying76
 a31:=Tryz.isAgg76
 z31:=Tryz.sizeOf76
 v31:=Tryz.zeroValue76
 t37:=Tryz.underlying67
 a37:=Tryz.isAgg67
 z37:=Tryz.sizeOf67
 v37:=Tryz.zeroValue67
 t70:=Tryz.underlying66
 a70:=Tryz.isAgg66
 z70:=Tryz.sizeOf66
 v70:=Tryz.zeroValue66
 t72:=Tryz.underlying69
 a72:=Tryz.isAgg69
 z72:=Tryz.sizeOf69
 v72:=Tryz.zeroValue69
 t75:=Tryz.underlying29
 a75:=Tryz.isAgg29
 z75:=Tryz.sizeOf29
 v75:=Tryz.zeroValue29
 t76:=Tryz.underlying74
 a76:=Tryz.isAgg74
 z76:=Tryz.sizeOf74
 v76:=Tryz.zeroValue74
 t127:=Tryz.underlying103
 a127:=Tryz.isAgg103
 z127:=Tryz.sizeOf103
 v127:=Tryz.zeroValue103
 t164:=Tryz.underlying120
 a164:=Tryz.isAgg120
 z164:=Tryz.sizeOf120
 v164:=Tryz.zeroValue120 }
theorem Tryz.Builder_Extra_156:Builder.Extra Tryz.prog Tryz.lays156_ren:={
 sizeBuilder:=by kernel_rfl
 liesBuilder:=by kernel_rfl
 t5:=Tryz.underlying5
 a5:=Tryz.isAgg5
 z5:=Tryz.sizeOf5
 v5:=Tryz.zeroValue5
 infoByte:=by kernel_rfl
 cellsByte:=by kernel_rfl
 sizeByte:=by kernel_rfl
 neB5:=by decide }
open Go.RowKit in
theorem Tryz.strings_Join_none (a:Option Addr) (c:Nat) (sep:ByteArray) (w:World) :
 Calls Tryz.prog 61 #[.slice a 0 c,.string sep] w fun e w'=>e=.returned (.string ⟨#[]⟩)∧w'=w:=Any.strings_Join_none Tryz.lays156 Tryz.Builder_Extra_156 a c sep w
open Go.RowKit in
theorem Tryz.strings_Join (bk o c:Nat) (xs:List ByteArray) (sep:ByteArray) (w:World) (hcells:∀ (j:Nat) x,xs[j]?=some x→w.cell? ⟨bk,o + j,none⟩=some (.string x)) (hbk:bk < w.heap.size) (hN:xs.length≤140737488355328) (hcap:xs.length≤c) (hlen:(Lib.join (xs.map (·.data.toList)) sep.data.toList).length≤140737488355328) :
 Calls Tryz.prog 61 #[.slice (some ⟨bk,o,none⟩) xs.length c,.string sep] w fun e w'=>e=.returned (.string ⟨(Lib.join (xs.map (·.data.toList)) sep.data.toList).toArray⟩)∧Below w.heap.size w w':=Any.strings_Join Tryz.lays156 Tryz.Builder_Extra_156 bk o c xs sep w hcells hbk hN hcap hlen
end Go.Proofs
namespace Go.Proofs.YtmeiggjboakmpaaGreatDoor
open Go Go.RowKit
set_option maxRecDepth 100000
set_option maxHeartbeats 20000000
set_option linter.unusedVariables false
set_option linter.unusedSimpArgs false
theorem ob {w w':World} (hB:Below w.heap.size w w') {p:Addr} {v:Value} (hv:w.cell? p=some v):w'.cell? p=some v:=by
 have hl:p.block < w.heap.size:=by
  unfold World.cell? at hv;split at hv
  ·rename_i hb;exact (Y6.1 hb).1
  ·cases hv
 exact (Yj (hB.block p.block hl)).trans hv
def RV (w0:World) (a:ATree) (X:ByteArray):Prop:=∀ W,Below w0.heap.size w0 W→Calls Tryz.prog 60 #[a.ptr] W fun e w'=>e=.returned (.string X)∧Below W.heap.size W w'
def RS' (w0:World) (a:ATree) (X:ByteArray):Prop:=∀ W,Below w0.heap.size w0 W→Calls Tryz.prog 26 #[a.ptr] W fun e w'=>e=.returned (.string X)∧Below W.heap.size W w'
def RA (w0:World) (a:ATree) (k:Int) (X:ByteArray):Prop:=∀ W,Below w0.heap.size w0 W→Calls Tryz.prog 88 #[a.ptr,.int .i64 k] W fun e w'=>e=.returned (.string X)∧Below W.heap.size W w'
def RL (w0:World) (v:Value) (X:ByteArray):Prop:=∀ W,Below w0.heap.size w0 W→Calls Tryz.prog 89 #[v] W fun e w'=>e=.returned (.string X)∧Below W.heap.size W w'
section
variable {w0:World} {Bt:Nat}
theorem Zjg (a:ATree) (hT:TreeAt w0 Bt a) (k:Int) (X:ByteArray) (hx:RV w0 a X) (hk:Zo a.kind < k) (sX:X.size≤100000000):RA w0 a k (⟨#[40]⟩ ++ X ++ ⟨#[41]⟩):=by
 have c0:=hT.c0;intro W hB;have x0:=ob hB c0;have HX:=lh hx;have HB:=lh hB;have HS:=lh sX;obtain ⟨kd,hkd⟩:=zX a.kind
 rw [← hkd] at x0 hk;obtain ⟨sk,hsk⟩:=zX (Zo kd)
 have HW:=lh (Zaf W kd);rw [← hsk] at HW hk;have hd:decide (sk < k)=true:=by simpa using hk
 have q1:¬ 9223372036854775807 < 1 + X.size:=by omega
 have q2:¬ 9223372036854775807 < 1 + X.size + 1:=by omega
 clear hT hx hB c0 hkd hsk sX;unfold ATree.ptr at HX ⊢;go_enter Tryz.func88,Tryz.ntmps88
 go_wp2_with fail
 refine HW.out.mono ?_;rintro e w1 ⟨rfl,hb1⟩;have HB1:=zT HB hb1;have HC1:=lh hb1;clear hb1 HW;go_wp2_with fail
 refine (HX.out _ HB1.out).mono ?_;rintro e w2 ⟨rfl,hb2⟩;have HC2:=zT HC1 hb2;clear hb2 HX;go_wp2;go_ret;exact ⟨rfl,HC2.out⟩
theorem Ze6 (a:ATree) (hT:TreeAt w0 Bt a) (k:Int) (X:ByteArray) (hx:RV w0 a X) (hk:¬ Zo a.kind < k):RA w0 a k X:=by
 have c0:=hT.c0;intro W hB;have x0:=ob hB c0;have HX:=lh hx;have HB:=lh hB;obtain ⟨kd,hkd⟩:=zX a.kind
 rw [← hkd] at x0 hk;obtain ⟨sk,hsk⟩:=zX (Zo kd)
 have HW:=lh (Zaf W kd);rw [← hsk] at HW hk;have hd:decide (sk < k)=false:=by simpa using hk
 clear hT hx hB c0 hkd hsk;unfold ATree.ptr at HX ⊢;go_enter Tryz.func88,Tryz.ntmps88
 go_wp2_with fail
 refine HW.out.mono ?_;rintro e w1 ⟨rfl,hb1⟩;have HB1:=zT HB hb1;have HC1:=lh hb1;clear hb1 HW;go_wp2_with fail
 refine (HX.out _ HB1.out).mono ?_;rintro e w2 ⟨rfl,hb2⟩;have HC2:=zT HC1 hb2;clear hb2 HX;go_wp2;go_ret;exact ⟨rfl,HC2.out⟩
theorem Zj4 (a:ATree) (hT:TreeAt w0 Bt a) (h1:a.kind=19):RV w0 a ⟨#[116,114,117,101]⟩:=by
 have c0:=hT.c0;rw [h1] at c0;have c1:=hT.c1;intro W hB;have x0:=ob hB c0;have x1:=ob hB c1;clear hT hB c0 c1 h1;unfold ATree.ptr;go_enter Tryz.func60,Tryz.ntmps60
 go_wp2;go_ret;exact ⟨rfl,Y8 _ _⟩
theorem Ziq (a:ATree) (hT:TreeAt w0 Bt a) (h1:a.kind=20):RV w0 a ⟨#[102,97,108,115,101]⟩:=by
 have c0:=hT.c0;rw [h1] at c0;have c1:=hT.c1;intro W hB;have x0:=ob hB c0;have x1:=ob hB c1;clear hT hB c0 c1 h1;unfold ATree.ptr;go_enter Tryz.func60,Tryz.ntmps60
 go_wp2;go_ret;exact ⟨rfl,Y8 _ _⟩
theorem Zj7 (a:ATree) (hT:TreeAt w0 Bt a) (h1:a.kind=21):RV w0 a ⟨#[110,117,108,108]⟩:=by
 have c0:=hT.c0;rw [h1] at c0;have c1:=hT.c1;intro W hB;have x0:=ob hB c0;have x1:=ob hB c1;clear hT hB c0 c1 h1;unfold ATree.ptr;go_enter Tryz.func60,Tryz.ntmps60
 go_wp2;go_ret;exact ⟨rfl,Y8 _ _⟩
theorem Zie (a:ATree) (hT:TreeAt w0 Bt a) (h1:a.kind=22):RV w0 a ⟨#[117,110,100,101,102,105,110,101,100]⟩:=by
 have c0:=hT.c0;rw [h1] at c0;have c1:=hT.c1;intro W hB;have x0:=ob hB c0;have x1:=ob hB c1;clear hT hB c0 c1 h1;unfold ATree.ptr;go_enter Tryz.func60,Tryz.ntmps60
 go_wp2;go_ret;exact ⟨rfl,Y8 _ _⟩
theorem Zha (a:ATree) (hT:TreeAt w0 Bt a) (h1:a.kind=23):RV w0 a a.text:=by
 have c0:=hT.c0;rw [h1] at c0;have c1:=hT.c1;intro W hB;have x0:=ob hB c0;have x1:=ob hB c1;clear hT hB c0 c1 h1;unfold ATree.ptr;go_enter Tryz.func60,Tryz.ntmps60
 go_wp2;go_ret;exact ⟨rfl,Y8 _ _⟩
theorem Zm7 (a:ATree) (hT:TreeAt w0 Bt a) (h1:a.kind=32) (x:ATree) (hks:a.kids=[x]) (X:ByteArray) (hx:RA w0 x 7 X) (sX:X.size≤100000000):RV w0 a (⟨#[33]⟩ ++ X):=by
 have c0:=hT.c0;rw [h1] at c0;obtain ⟨g,cp,c3,hge2,hmx,hgl,hk⟩:=Z3a hT hks 1 rfl (by decide);have k0:=hk 0 x rfl;intro W hB;have x0:=ob hB c0;have x3:=ob hB c3;have y0:=ob hB k0;have HX:=lh hx;have HB0:=lh hB;have HC0:Hid (Below W.heap.size W W):=lh (Y8 _ _);have q1:¬ 9223372036854775807 < 1 + X.size:=by omega
 clear hT hx hB c0 c3 k0 h1 hks hk sX;unfold ATree.ptr at HX ⊢;go_enter Tryz.func60,Tryz.ntmps60
 go_wp2_with fail
 refine (HX.out _ HB0.out).mono ?_;rintro e w1 ⟨rfl,hb1⟩;have HB1:=zT HB0 hb1;have HC1:=zT HC0 hb1;clear hb1;go_wp2;go_ret;exact ⟨rfl,HC1.out⟩
theorem Zfj (a:ATree) (hT:TreeAt w0 Bt a) (h1:a.kind=33) (x:ATree) (hks:a.kids=[x]) (X:ByteArray) (hx:RA w0 x 7 X) (sX:X.size≤100000000):RV w0 a (⟨#[116,121,112,101,111,102,32]⟩ ++ X):=by
 have c0:=hT.c0;rw [h1] at c0;obtain ⟨g,cp,c3,hge2,hmx,hgl,hk⟩:=Z3a hT hks 1 rfl (by decide);have k0:=hk 0 x rfl;intro W hB;have x0:=ob hB c0;have x3:=ob hB c3;have y0:=ob hB k0;have HX:=lh hx;have HB0:=lh hB;have HC0:Hid (Below W.heap.size W W):=lh (Y8 _ _);have q1:¬ 9223372036854775807 < 7 + X.size:=by omega
 clear hT hx hB c0 c3 k0 h1 hks hk sX;unfold ATree.ptr at HX ⊢;go_enter Tryz.func60,Tryz.ntmps60
 go_wp2_with fail
 refine (HX.out _ HB0.out).mono ?_;rintro e w1 ⟨rfl,hb1⟩;have HB1:=zT HB0 hb1;have HC1:=zT HC0 hb1;clear hb1;go_wp2;go_ret;exact ⟨rfl,HC1.out⟩
theorem Zgn (a:ATree) (hT:TreeAt w0 Bt a) (h1:a.kind=34) (x:ATree) (hks:a.kids=[x]) (X:ByteArray) (hx:RA w0 x 7 X) (sX:X.size≤100000000):RV w0 a (⟨#[100,101,108,101,116,101,32]⟩ ++ X):=by
 have c0:=hT.c0;rw [h1] at c0;obtain ⟨g,cp,c3,hge2,hmx,hgl,hk⟩:=Z3a hT hks 1 rfl (by decide);have k0:=hk 0 x rfl;intro W hB;have x0:=ob hB c0;have x3:=ob hB c3;have y0:=ob hB k0;have HX:=lh hx;have HB0:=lh hB;have HC0:Hid (Below W.heap.size W W):=lh (Y8 _ _);have q1:¬ 9223372036854775807 < 7 + X.size:=by omega
 clear hT hx hB c0 c3 k0 h1 hks hk sX;unfold ATree.ptr at HX ⊢;go_enter Tryz.func60,Tryz.ntmps60
 go_wp2_with fail
 refine (HX.out _ HB0.out).mono ?_;rintro e w1 ⟨rfl,hb1⟩;have HB1:=zT HB0 hb1;have HC1:=zT HC0 hb1;clear hb1;go_wp2;go_ret;exact ⟨rfl,HC1.out⟩
theorem Zm3 (a:ATree) (hT:TreeAt w0 Bt a) (h1:a.kind=24) (x y:ATree) (hks:a.kids=[x,y]) (X Y:ByteArray) (hx:RA w0 x 8 X) (hy:RV w0 y Y) (sX:X.size≤100000000) (sY:Y.size≤100000000):RV w0 a (X ++ ⟨#[32,61,32]⟩ ++ Y):=by
 have c0:=hT.c0;rw [h1] at c0;have c1:=hT.c1;obtain ⟨g,cp,c3,hge2,hmx,hgl,hk⟩:=Z3a hT hks 2 rfl (by decide);have k0:=hk 0 x rfl;have k1:=hk 1 y rfl;intro W hB;have x0:=ob hB c0;have x1:=ob hB c1;have x3:=ob hB c3;have y0:=ob hB k0;have y1:=ob hB k1;have HB0:=lh hB;have HC0:Hid (Below W.heap.size W W):=lh (Y8 _ _);have q1:¬ 9223372036854775807 < X.size + 3:=by omega
 have q2:¬ 9223372036854775807 < X.size + 3 + Y.size:=by omega
 have HX:=lh hx;have HY:=lh hy;clear hT hB h1 hks hk hx hy sX sY;unfold ATree.ptr at HX HY ⊢;go_enter Tryz.func60,Tryz.ntmps60
 go_wp2_with fail
 refine Zf [0,2,4,6,8,10,16,18,20,22,24,26,13,14,29] [15,16] (fun W=>W.cell? ⟨a.b,3,none⟩=some (.slice (some ⟨g,0,none⟩) 2 cp)∧W.cell? ⟨g,0,none⟩=some (.pointer (some ⟨x.b,0,none⟩))∧W.cell? ⟨g,1,none⟩=some (.pointer (some ⟨y.b,0,none⟩))) ⟨x3,y0,y1⟩ fun _=>?_;simp only [Zh,pD,zD,zE,zF,zG,zH,zI,zJ,zK]
 iterate 12
  first | refine Za _ ?_ | refine Zb ?_
  simp only [Act.put,zA,zB,zC]
 have HB00:=lh HB0.out.drew;have HC00:=lh HC0.out.drew;refine Z5 (fun K hK=>?_);go_simp
 refine (HX.out _ HB00.out).mono ?_;rintro e w1 ⟨rfl,hb1⟩;have HB1:=zT HB00 hb1;have HC1:=zT HC00 hb1;clear hb1;refine hK _ _ ⟨ob HB1.out c3,ob HB1.out k0,ob HB1.out k1⟩ ?_;clear hK K
 iterate 1
  first | refine Za _ ?_ | refine Zb ?_
  simp only [Act.put,zA,zB,zC]
 refine Z5 (fun K hK=>?_);go_simp
 refine (HY.out _ HB1.out).mono ?_;rintro e w2 ⟨rfl,hb2⟩;have HB2:=zT HB1 hb2;have HC2:=zT HC1 hb2;clear hb2;refine hK _ _ ⟨ob HB2.out c3,ob HB2.out k0,ob HB2.out k1⟩ ?_;clear hK K;refine Z6 ?_;go_wp2;go_ret;exact ⟨rfl,HC2.out⟩
theorem Zm1 (a:ATree) (hT:TreeAt w0 Bt a) (h1:a.kind=36) (x:ATree) (hks:a.kids=[x]) (X:ByteArray) (hx:RA w0 x 8 X) (sX:X.size≤100000000) (sT:a.text.size≤100000000):RV w0 a (X ++ ⟨#[46]⟩ ++ a.text):=by
 have c0:=hT.c0;rw [h1] at c0;have c1:=hT.c1;obtain ⟨g,cp,c3,hge2,hmx,hgl,hk⟩:=Z3a hT hks 1 rfl (by decide);have k0:=hk 0 x rfl;intro W hB;have x0:=ob hB c0;have x1:=ob hB c1;have x3:=ob hB c3;have y0:=ob hB k0;have HB0:=lh hB;have HC0:Hid (Below W.heap.size W W):=lh (Y8 _ _);have q1:¬ 9223372036854775807 < X.size + 1:=by omega
 have q2:¬ 9223372036854775807 < X.size + 1 + a.text.size:=by omega
 have HX:=lh hx;clear hT hB h1 hks hk hx sX sT;unfold ATree.ptr at HX ⊢;go_enter Tryz.func60,Tryz.ntmps60
 go_wp2_with fail
 refine Zf [0,2,4,6,8,10,16,18,20,22,13,14] [12,13] (fun W=>W.cell? ⟨a.b,3,none⟩=some (.slice (some ⟨g,0,none⟩) 1 cp)∧W.cell? ⟨g,0,none⟩=some (.pointer (some ⟨x.b,0,none⟩))∧W.cell? ⟨a.b,1,none⟩=some (.string a.text)) ⟨x3,y0,x1⟩ fun _=>?_;simp only [Zh,pD,zD,zE,zF,zG,zH,zI,zJ,zK]
 iterate 10
  first | refine Za _ ?_ | refine Zb ?_
  simp only [Act.put,zA,zB,zC]
 have HB00:=lh HB0.out.drew;have HC00:=lh HC0.out.drew;refine Z5 (fun K hK=>?_);go_simp
 refine (HX.out _ HB00.out).mono ?_;rintro e w1 ⟨rfl,hb1⟩;have HB1:=zT HB00 hb1;have HC1:=zT HC00 hb1;clear hb1;refine hK _ _ ⟨ob HB1.out c3,ob HB1.out k0,ob HB1.out c1⟩ ?_;clear hK K
 iterate 1
  first | refine Za _ ?_ | refine Zb ?_
  simp only [Act.put,zA,zB,zC]
 refine Z6 ?_;go_wp2;go_ret;exact ⟨rfl,HC1.out⟩
theorem Zle (a:ATree) (hT:TreeAt w0 Bt a) (h1:a.kind=39) (x:ATree) (hks:a.kids=[x]) (X:ByteArray) (hx:RV w0 x X) (sX:X.size≤100000000) (sT:a.text.size≤100000000):RV w0 a (a.text ++ ⟨#[58,32]⟩ ++ X):=by
 have c0:=hT.c0;rw [h1] at c0;have c1:=hT.c1;obtain ⟨g,cp,c3,hge2,hmx,hgl,hk⟩:=Z3a hT hks 1 rfl (by decide);have k0:=hk 0 x rfl;intro W hB;have x0:=ob hB c0;have x1:=ob hB c1;have x3:=ob hB c3;have y0:=ob hB k0;have HB0:=lh hB;have HC0:Hid (Below W.heap.size W W):=lh (Y8 _ _);have q1:¬ 9223372036854775807 < a.text.size + 2:=by omega
 have q2:¬ 9223372036854775807 < a.text.size + 2 + X.size:=by omega
 have HX:=lh hx;clear hT hB h1 hks hk hx sX sT;unfold ATree.ptr at HX ⊢;go_enter Tryz.func60,Tryz.ntmps60
 go_wp2_with fail
 refine Zf [0,2,4,6,8,10,12,14,16,18,20,23] [12,13] (fun W=>W.cell? ⟨a.b,3,none⟩=some (.slice (some ⟨g,0,none⟩) 1 cp)∧W.cell? ⟨g,0,none⟩=some (.pointer (some ⟨x.b,0,none⟩))∧W.cell? ⟨a.b,1,none⟩=some (.string a.text)) ⟨x3,y0,x1⟩ fun _=>?_;simp only [Zh,pD,zD,zE,zF,zG,zH,zI,zJ,zK]
 iterate 11
  first | refine Za _ ?_ | refine Zb ?_
  simp only [Act.put,zA,zB,zC]
 have HB00:=lh HB0.out.drew;have HC00:=lh HC0.out.drew;refine Z5 (fun K hK=>?_);go_simp
 refine (HX.out _ HB00.out).mono ?_;rintro e w1 ⟨rfl,hb1⟩;have HB1:=zT HB00 hb1;have HC1:=zT HC00 hb1;clear hb1;refine hK _ _ ⟨ob HB1.out c3,ob HB1.out k0,ob HB1.out c1⟩ ?_;clear hK K;refine Z6 ?_;go_wp2;go_ret;exact ⟨rfl,HC1.out⟩
def Z6o (l:List ByteArray) (sep:ByteArray):ByteArray:=⟨(Lib.join (l.map (·.data.toList)) sep.data.toList).toArray⟩
theorem Tryz.infoStrD:(Tryz.prog.info? 9).map (fun i=>(i.zero,i.size,i.bytes))=some (some (.string ByteArray.empty),1,16):=by kernel_rfl
theorem Zbg {w:World} {base:Nat} {v:Value} {l:List ByteArray} (h:w.ownsRow base 9 1 v l.length (l.map Value.string)) (sep:ByteArray) (hn:l.length≤1500) (hlen:(Z6o l sep).size≤100000000) :
 Calls Tryz.prog 61 #[v,.string sep] w fun e w'=>e=.returned (.string (Z6o l sep))∧Below w.heap.size w w':=by
 rcases Zp h with ⟨hv,hz⟩ | ⟨g,c,hv,h1,h2,hg⟩
 ·have e:=List.eq_nil_of_length_eq_zero hz;subst e;rw [hv,show Z6o [] sep=⟨#[]⟩ by simp [Z6o,Lib.join]];refine (Tryz.strings_Join_none none 0 sep w).mono ?_;rintro e w' ⟨rfl,rfl⟩;exact ⟨rfl,Y8 _ _⟩
 ·have h9 : (Z6o l sep).size ≤ 140737488355328 := by omega
  rw [hv];refine (Tryz.strings_Join g 0 c l sep w (fun j x hx=>?_) hg (by omega) h1 (by simpa [Z6o,ByteArray.size] using h9)).mono ?_
  ·have:=h.cells (g:=g) (by rw [hv]; rfl) j (.string x) (by rw [Yo,hx]; rfl);rwa [show ((⟨g,0,none⟩:Addr).add j)=⟨g,0 + j,none⟩ by unfold Addr.add; split <;> simp_all] at this
  ·rintro e w' ⟨rfl,hB⟩;exact ⟨rfl,hB⟩
def Each (P:ATree→ByteArray→Prop) (L:List ATree) (Xs:List ByteArray):Prop:=Xs.length=L.length∧∀ (i:Nat) (x:ATree),L[i]?=some x→∃ t,Xs[i]?=some t∧P x t
theorem Zml (L:List ATree) (Xs:List ByteArray) (hE:Each (RV w0) L Xs) (hlen:L.length≤1500) (hsz:(Z6o Xs ⟨#[44,32]⟩).size≤100000000) (v:Value) (hV:Z4c w0 v L):RL w0 v (Z6o Xs ⟨#[44,32]⟩):=by
 intro W hB;have HB0:=lh hB;have HC0:Hid (Below W.heap.size W W):=lh (Y8 _ _);obtain ⟨p,cp,rfl,hge,hmx,hk⟩:=hV;obtain ⟨i0,hi,hz0,hz1,hz2⟩:=info_parts Tryz.infoStrD;have HK:=lh hk;have HE:=lh hE;obtain ⟨n,hn⟩:=zX L.length
 have HN:=lh hn;rw [← hn] at hge hlen ⊢;unfold maxLen at hmx;clear hB hk hE hn;go_enter Tryz.func89,Tryz.ntmps89
 go_wp2_with fail
 go_loopw [3,5,8] (fun v _ i wr=>∃ k:Nat,k≤n∧i=.int .i64 k∧Hid (wr.ownsRow W.heap.size 9 1 v k ((Xs.take k).map Value.string))∧Hid (Below W.heap.size W wr)) (fun _ _ i _=>n - (intOf i).toNat)
 case atStart=>exact ⟨0,by omega,rfl,lh (World.ownsRow_nil _ _ _ _),HC0⟩
 case round=>
  obtain ⟨k,hkn,rfl,HO,HC⟩:=hrel;by_cases hlt:k < n
  ·obtain ⟨x, hx⟩ : ∃ x, L[k]? = some x := ⟨_, Yd (by rw [← HN.out]; exact hlt)⟩
   obtain ⟨tx,htx,hrx⟩:=HE.out.2 k x hx;obtain ⟨g,off,rfl,hc⟩:=HK.out k x hx;have cx:=ob (HB0.out.trans (HC.out.mono HB0.out.size)) hc;have HRX:=lh hrx;have HTX:=lh htx;unfold ATree.ptr at cx;have hkI:((k:Nat):Int) < (n:Int):=by omega
   have HBk:=lh (HB0.out.trans (HC.out.mono HB0.out.size));clear hc hx htx hrx;go_wp2_with fail
   refine (HRX.out _ HBk.out).mono ?_;rintro e w2 ⟨rfl,hb2⟩;have HO1:Hid (w2.ownsRow W.heap.size 9 1 u3 k ((Xs.take k).map Value.string)):=lh (Zq HO.out fun j hj=>hb2.block j (Yh HO.out j hj).2);have HC2:=zT HC hb2;have hz2s:=HC2.out.size;clear hb2 HO
   go_wp2_with (at_builtin; go_must (refine wpList_append_lies _ rfl (.tmp 12) (.tmp 15) 76 rfl W.heap.size 9 i0 (.string ByteArray.empty) 1 16 Tryz.underlying76 hi hz0 hz1 hz2 rfl (by decide) _ k ((Xs.take k).map Value.string) rfl (HO1.out.alloc _) ⟨w2.heap.size,0,none⟩ 1 1 [.string tx] rfl rfl (cell_one_new _ _ _) (by intro u hu; simp at hu; subst hu; rfl) (by omega) (by unfold maxLen; omega) (by omega) (by simp; omega) (w2.heap.size + 1) (by simp) ?_); intro g' cap w3 hown3 hgrow3 hat3 hgl3; have HG3:=lh hgrow3; have HW3:=lh hown3; clear hgrow3 hown3 hat3 hgl3)
   go_roundw
   case rel=>
    refine ⟨k + 1,by omega,by go_num,lh ?_,lh ?_⟩
    ·rw [List.take_add_one,HTX.out,Yu];exact HW3.out
    ·exact (HC2.out.alloc HC2.out.size _).grown HG3.out (by have:=HC2.out.size; simp; omega) fun j hj=>(Yh HO1.out j hj).1
   case measure=>simp [intOf]; omega
  ·have hkn2 : k = n := by omega
   subst hkn2;have ho:=HO.out;have ek:k=Xs.length:=by rw [HE.out.1,← HN.out]
   rw [Ym (by omega),ek] at ho;have HF:=lh (Zbg ho ⟨#[44,32]⟩ (by omega) hsz);clear ho ek;clear HO;go_wp2_with fail
   refine HF.out.mono ?_;rintro e w3 ⟨rfl,hb3⟩;have HC3:=zT HC hb3;clear hb3;go_wp2;go_ret;exact ⟨rfl,HC3.out⟩
end
end Go.Proofs.YtmeiggjboakmpaaGreatDoor
namespace Go.Proofs.YtmeiggjboakmpaaGreatDoor
open Go Go.RowKit Go.Maps
set_option maxRecDepth 100000
set_option maxHeartbeats 20000000
set_option linter.unusedVariables false
set_option linter.unusedSimpArgs false
section
variable {w0:World} {Bt:Nat}
theorem Zlu (a:ATree) (hT:TreeAt w0 Bt a) (h1:a.kind=17) (hn0:0≤a.n) (hn1:a.n≤1000000000) (hP:Pow w0):RV w0 a ⟨(Lib.itoa a.n).toArray⟩:=by
 have c0:=hT.c0;rw [h1] at c0;have c2:w0.cell? ⟨a.b,2,none⟩=some (.int .i64 a.n):=by simp [World.cell?,hT.blkOf]
 obtain ⟨n,hn⟩:=zX a.n
 rw [← hn] at c2 hn0 hn1 ⊢;intro W hB;have x0:=ob hB c0;have x2:=ob hB c2;have HQ:=lh (Zdt W n (by omega) (by omega) (hP.below hB));clear hT hB h1 c0 c2 hn hn0 hn1 hP;unfold ATree.ptr;go_enter Tryz.func60,Tryz.ntmps60
 go_wp2_with fail
 refine HQ.out.mono ?_;rintro e w1 ⟨rfl,hb1⟩;have HB1:=lh hb1;clear hb1 HQ;go_wp2;go_ret;exact ⟨rfl,HB1.out⟩
theorem Z66 {H:Type} {P:Program} (w:World) {ops:Array Oper} {rest:List Oper} {o:Oper} {a:Act} {Q:Exit→Act→World→Prop}
 (hg:o.guard=none) (m x:Operand) (t:TypeId) (hop:o.op=Op.lookup t m x false)
 (k e:TypeId) (K:Keyed P k) (ht:P.underlying t=some (.map k e)) (he:P.underlying e=some .string) (hz:(zeroValue e).run P w=.ok (.string ⟨#[]⟩) w) (b n:Nat) (D:DataW H)
 (hm:a.eval m=.map (some b)) (hown:w.ownsMap P k (plainElem P e) b n D) (key:Value) (kl:Lit) (hx:a.eval x=key) (hkey:keyOf P k key=some kl)
 (hK:∀ c:ByteArray,D.atKey kl (.lit (.string []))=.lit (.string c.data.toList)→wpList P ops Q rest (a.put o.dst (.string c)) w) :
 wpList P ops Q (o :: rest) a w:=by
 refine wpList_plain hg fun K' hK'=>?_;obtain ⟨v,ps,hrun,hv⟩:=hown.lookup K ht hz (plainElem_string he (by decide)) hkey;obtain ⟨c,rfl,hc,_⟩:=plainElem_string_inv he hv;unfold Oper.wp;simp [execOp,hop,hm,hx,hrun,Result.andThen];exact hK' _ _ (hK c (by simpa using congrArg Prod.fst hc))
theorem Tryz.keyedI:Keyed Tryz.prog 3:=int_keyed Ys
theorem Tryz.zeroS (w:World):(zeroValue 9).run Tryz.prog w=.ok (.string ⟨#[]⟩) w:=by kernel_rfl
theorem Zm6 (a:ATree) (hT:TreeAt w0 Bt a) (k L:Int) (sg:ByteArray) (hK:(k=25∧L=1∧sg=⟨#[124,124]⟩)∨(k=26∧L=2∧sg=⟨#[38,38]⟩)∨(k=27∧L=3∧sg=⟨#[61,61,61]⟩)∨(k=28∧L=4∧sg=⟨#[60]⟩)∨(k=29∧L=5∧sg=⟨#[43]⟩)∨(k=30∧L=5∧sg=⟨#[45]⟩)∨(k=31∧L=6∧sg=⟨#[42]⟩)) (h1:a.kind=k) (x y:ATree) (hks:a.kids=[x,y]) (X Y:ByteArray) (hx:RA w0 x L X) (hy:RA w0 y (L + 1) Y) (sX:X.size≤100000000) (sY:Y.size≤100000000):RV w0 a (X ++ ⟨#[32]⟩ ++ sg ++ ⟨#[32]⟩ ++ Y):=by
 have c0:=hT.c0;rw [h1] at c0;obtain ⟨g,cp,c3,hge2,hmx,hgl,hk⟩:=Z3a hT hks 2 rfl (by decide);have k0:=hk 0 x rfl;have k1:=hk 1 y rfl;have hL:Zo k=L∧sg.size≤3:=by rcases hK with ⟨rfl,rfl,rfl⟩ | ⟨rfl,rfl,rfl⟩ | ⟨rfl,rfl,rfl⟩ | ⟨rfl,rfl,rfl⟩ | ⟨rfl,rfl,rfl⟩ | ⟨rfl,rfl,rfl⟩ | ⟨rfl,rfl,rfl⟩ <;> exact ⟨by decide,by decide⟩
 intro W hB;have x0:=ob hB c0;have HX:=lh hx;have HY:=lh hy;have HB0:=lh hB;have HC0:Hid (Below W.heap.size W W):=lh (Y8 _ _);have hsl:=hL.2;have q1:¬ 9223372036854775807 < X.size + 1:=by omega
 have q2:¬ 9223372036854775807 < X.size + 1 + sg.size:=by omega
 have q3:¬ 9223372036854775807 < X.size + 1 + sg.size + 1:=by omega
 have q4:¬ 9223372036854775807 < X.size + 1 + sg.size + 1 + Y.size:=by omega
 have HW:=lh (Zaf W k);rw [hL.1] at HW;clear hT hB h1 hks hk hx hy sX sY hL hsl;unfold ATree.ptr at HX HY ⊢;rcases hK with ⟨rfl,rfl,hsg⟩ | ⟨rfl,rfl,hsg⟩ | ⟨rfl,rfl,hsg⟩ | ⟨rfl,rfl,hsg⟩ | ⟨rfl,rfl,hsg⟩ | ⟨rfl,rfl,hsg⟩ | ⟨rfl,rfl,hsg⟩
 all_goals
  have HSG:=lh hsg;clear hsg;go_enter Tryz.func60,Tryz.ntmps60
  go_wp2_with fail
  refine HW.out.mono ?_;rintro e v0 ⟨rfl,hb1⟩;have HB1:=zT HB0 hb1;have HC1:=zT HC0 hb1;clear hb1;have x0:=ob HB1.out c0;have hmm:=@run_makeMap Tryz.prog;have h0:=World.ownsMap_made (H:=Unit) v0 Tryz.prog 3 (plainElem Tryz.prog 9);have hm0:Below v0.heap.size v0 (v0.alloc (.map #[] 0)):=(Y8 _ _).alloc (Y5 _) _;have hl0:=HB1.out.size;have y0:=ob hm0 x0;have HM0:=lh hm0;clear hm0
  have B7f:∀ w1 w2 w3 w4 w5 w6 w7:World,(v0.alloc (.map #[] 0)).grownBy w1 (some v0.heap.size)→w1.grownBy w2 (some v0.heap.size)→w2.grownBy w3 (some v0.heap.size)→w3.grownBy w4 (some v0.heap.size)→w4.grownBy w5 (some v0.heap.size)→w5.grownBy w6 (some v0.heap.size)→w6.grownBy w7 (some v0.heap.size)→Below v0.heap.size v0 w7:=fun w1 w2 w3 w4 w5 w6 w7 g1 g2 g3 g4 g5 g6 g7=>by
   have B0:=HM0.out;have B1:=Z00 B0 g1 (Y5 _) B0.size;have B2:=Z00 B1 g2 (Y5 _) B1.size;have B3:=Z00 B2 g3 (Y5 _) B2.size;have B4:=Z00 B3 g4 (Y5 _) B3.size;have B5:=Z00 B4 g5 (Y5 _) B4.size;have B6:=Z00 B5 g6 (Y5 _) B5.size;have B7:=Z00 B6 g7 (Y5 _) B6.size;exact B7
  have HB7:=lh B7f;clear B7f
  go_wp2_with (first | (refine Z9 _ rfl _ _ _ 123 rfl 3 9 Tryz.keyedI Tryz.underlying123 _ _ 0 _ rfl h0 (by unfold maxLen; omega) _ _ _ rfl rfl (keyOf_int_mk Ys (by decide)) _ [] (plainElem_string Yr (by decide)) ?_; intro w1 h1 g1) | (refine Z9 _ rfl _ _ _ 123 rfl 3 9 Tryz.keyedI Tryz.underlying123 _ _ 1 _ rfl h1 (by unfold maxLen; omega) _ _ _ rfl rfl (keyOf_int_mk Ys (by decide)) _ [] (plainElem_string Yr (by decide)) ?_; intro w2 h2 g2) | (refine Z9 _ rfl _ _ _ 123 rfl 3 9 Tryz.keyedI Tryz.underlying123 _ _ 2 _ rfl h2 (by unfold maxLen; omega) _ _ _ rfl rfl (keyOf_int_mk Ys (by decide)) _ [] (plainElem_string Yr (by decide)) ?_; intro w3 h3 g3) | (refine Z9 _ rfl _ _ _ 123 rfl 3 9 Tryz.keyedI Tryz.underlying123 _ _ 3 _ rfl h3 (by unfold maxLen; omega) _ _ _ rfl rfl (keyOf_int_mk Ys (by decide)) _ [] (plainElem_string Yr (by decide)) ?_; intro w4 h4 g4) | (refine Z9 _ rfl _ _ _ 123 rfl 3 9 Tryz.keyedI Tryz.underlying123 _ _ 4 _ rfl h4 (by unfold maxLen; omega) _ _ _ rfl rfl (keyOf_int_mk Ys (by decide)) _ [] (plainElem_string Yr (by decide)) ?_; intro w5 h5 g5) | (refine Z9 _ rfl _ _ _ 123 rfl 3 9 Tryz.keyedI Tryz.underlying123 _ _ 5 _ rfl h5 (by unfold maxLen; omega) _ _ _ rfl rfl (keyOf_int_mk Ys (by decide)) _ [] (plainElem_string Yr (by decide)) ?_; intro w6 h6 g6) | (refine Z9 _ rfl _ _ _ 123 rfl 3 9 Tryz.keyedI Tryz.underlying123 _ _ 6 _ rfl h6 (by unfold maxLen; omega) _ _ _ rfl rfl (keyOf_int_mk Ys (by decide)) _ [] (plainElem_string Yr (by decide)) ?_; intro w7 h7 g7; have x7:=ob (HB7.out w1 w2 w3 w4 w5 w6 w7 g1 g2 g3 g4 g5 g6 g7) x0) | (at_lookup; refine Z66 _ rfl _ _ 123 rfl 3 9 Tryz.keyedI Tryz.underlying123 Yr (Tryz.zeroS _) _ 7 _ rfl h7 _ _ rfl (keyOf_int_mk Ys (by decide)) ?_; intro c hat))
  obtain rfl:sg=c:=by
   have e2:(DataW.lit (.string sg.data.toList):DataW Unit)=.lit (.string c.data.toList):=by rw [HSG.out]; exact hat
   simp only [DataW.lit.injEq,Lit.string.injEq] at e2;exact Z25 (by rw [ByteArray.toList_eq,ByteArray.toList_eq,← e2])
  have hz:=HB7.out w1 w2 w3 w4 w5 w6 w7 g1 g2 g3 g4 g5 g6 g7;have HB2:=zT HB1 hz;have HC2:=zT HC1 hz;clear hat h0 h1 h2 h3 h4 h5 h6 h7 g1 g2 g3 g4 g5 g6 g7 HB7 hmm x7 y0 hz;have x3:=ob HB2.out c3;have y0:=ob HB2.out k0;have y1:=ob HB2.out k1;refine Zf [0,2,4,6,8,10,12,18,24,26,28,30,32,34,36,38,15,16,20,22,41] [21,22] (fun W=>W.cell? ⟨a.b,3,none⟩=some (.slice (some ⟨g,0,none⟩) 2 cp)∧W.cell? ⟨g,0,none⟩=some (.pointer (some ⟨x.b,0,none⟩))∧W.cell? ⟨g,1,none⟩=some (.pointer (some ⟨y.b,0,none⟩))) ⟨x3,y0,y1⟩ fun _=>?_
  simp only [Zh,pD,zD,zE,zF,zG,zH,zI,zJ,zK]
  iterate 16
   first | refine Za _ ?_ | refine Zb ?_
   simp only [Act.put,zA,zB,zC]
  have HB20:=lh HB2.out.drew;have HC20:=lh HC2.out.drew;refine Z5 (fun K hK=>?_);go_simp
  refine (HX.out _ HB20.out).mono ?_;rintro e w21 ⟨rfl,hb21⟩;have HB21:=zT HB20 hb21;have HC21:=zT HC20 hb21;clear hb21;refine hK _ _ ⟨ob HB21.out c3,ob HB21.out k0,ob HB21.out k1⟩ ?_;clear hK K
  iterate 3
   first | refine Za _ ?_ | refine Zb ?_
   simp only [Act.put,zA,zB,zC]
  refine Z5 (fun K hK=>?_);go_simp
  refine (HY.out _ HB21.out).mono ?_;rintro e w22 ⟨rfl,hb22⟩;have HB22:=zT HB21 hb22;have HC22:=zT HC21 hb22;clear hb22;refine hK _ _ ⟨ob HB22.out c3,ob HB22.out k0,ob HB22.out k1⟩ ?_;clear hK K;refine Z6 ?_;go_wp2;go_ret;exact ⟨rfl,HC22.out⟩
end
end Go.Proofs.YtmeiggjboakmpaaGreatDoor
namespace Go.Proofs.YtmeiggjboakmpaaGreatDoor
open Go Go.RowKit
set_option maxRecDepth 100000
set_option maxHeartbeats 20000000
set_option linter.unusedVariables false
set_option linter.unusedSimpArgs false
section
variable {w0:World} {Bt:Nat}
theorem Zmy:Utf8.encode 39=⟨#[39]⟩:=by kernel_rfl
theorem Zn1:Utf8.encode 92=⟨#[92]⟩:=by kernel_rfl
theorem Zmo:(Utf8.encode 39).size=1:=by kernel_rfl
theorem Zmi:(Utf8.encode 92).size=1:=by kernel_rfl
theorem Zdh (l:List UInt8):(l.flatMap escB).length≤2 * l.length:=by
 induction l with
 | nil=>simp
 | cons u l ih =>
   rw [List.flatMap_cons,Yq,List.length_cons]
   have : (escB u).length ≤ 2 := by unfold escB; repeat' split
                                    all_goals simp
   omega
theorem Zj5 {tx:ByteArray} {m:Nat} {c:Int} (hm:m < tx.size) (hc:c=Zc tx m) :
 (tx.data.toList.take (m + 1)).flatMap escB=(tx.data.toList.take m).flatMap escB ++ (if c=92 then [92,92] else if c=39 then [92,39] else if c=10 then [92,110] else (tx.extract m (m + 1)).data.toList):=by
 have hms:m < tx.data.size:=hm;have hgd:tx.data.getD m 0=tx.data[m]:=by unfold Array.getD; exact dif_pos hms
 have h1:tx.data.toList[m]?=some (tx.data.getD m 0):=by rw [Array.getElem?_toList,hgd]; exact Array.getElem?_eq_getElem hms
 have h2:(tx.extract m (m + 1)).data.toList=[tx.data.getD m 0]:=by
  rw [ByteArray.data_extract,Array.toList_extract];rw [List.extract_eq_take_drop,List.drop_eq_getElem_cons (by simpa using hms),hgd];simp
 rw [List.take_add_one,h1,Option.toList_some,List.flatMap_append,List.flatMap_singleton,h2];congr 1
 obtain ⟨u,hu⟩:=zX (tx.data.getD m 0)
 have hcu:c=(u.toNat:Int):=by rw [hc,hu]; rfl
 rw [← hu];unfold escB;have key:∀ k:UInt8,u=k↔c=(k.toNat:Int):=fun k=>by
  rw [hcu];constructor;·rintro rfl; rfl
  ·intro h; exact UInt8.toNat_inj.1 (by omega)
 have k92:u=92↔c=92:=by simpa using key 92
 have k39:u=39↔c=39:=by simpa using key 39
 have k10:u=10↔c=10:=by simpa using key 10
 by_cases a1:u=92;·rw [Yb a1,Yb (k92.1 a1)]
 ·rw [Y9 a1, Y9 (fun h => a1 (k92.2 h))];by_cases a2 : u = 39;·rw [Yb a2, Yb (k39.1 a2)]
  ·rw [Y9 a2, Y9 (fun h => a2 (k39.2 h))];by_cases a3 : u = 10;·rw [Yb a3, Yb (k10.1 a3)]
   ·rw [Y9 a3,Y9 (fun h=>a3 (k10.2 h))]
theorem Z81 (l m:List UInt8):(⟨(l ++ m).toArray⟩:ByteArray)=⟨l.toArray⟩ ++ ⟨m.toArray⟩:=ByteArray.ext (by simp [ByteArray.data_append])
theorem Zm4 (a:ATree) (hT:TreeAt w0 Bt a) (h1:a.kind=18) (hs:a.text.size≤500):RV w0 a ⟨(Z57 a.text).toArray⟩:=by
 have c0:=hT.c0;rw [h1] at c0;have c1:=hT.c1;obtain ⟨tx,htx⟩:=zX a.text
 rw [← htx] at c1 hs ⊢;have hq:(⟨(Z57 tx).toArray⟩:ByteArray)=⟨#[39]⟩ ++ ⟨(tx.data.toList.flatMap escB).toArray⟩ ++ ⟨#[39]⟩:=by
  unfold Z57;rw [show (39 :: (tx.data.toList.flatMap escB ++ [39]))=[39] ++ tx.data.toList.flatMap escB ++ [39] by simp,Z81,Z81]
 rw [hq];intro W hB;have x0:=ob hB c0;have x1:=ob hB c1;have HC0:Hid (Below W.heap.size W W):=lh (Y8 _ _);clear hT hB h1 c0 c1 htx hq;unfold ATree.ptr;go_enter Tryz.func60,Tryz.ntmps60
 go_wp2_with fail
 go_loop [3,4,5,27] (fun sv _ _ x=>∃ m:Nat,x=.int .i64 m∧m≤tx.size∧sv=.string ⟨((tx.data.toList.take m).flatMap escB).toArray⟩) (fun _ _ _ x=>tx.size - (intOf x).toNat)
 case atStart=>exact ⟨0,rfl,by omega,rfl⟩
 case round=>
  obtain ⟨m,rfl,hm,rfl⟩:=hrel;by_cases hms:m < tx.size
  ·have hby := Z2a (text := tx) hms;obtain ⟨c, hc⟩ := zX (Zc tx m)
   rw [← hc] at hby;have hb2:=hby.symm;have HN:=lh (Zj5 hms hc);obtain ⟨acc,hacc⟩:=zX ((tx.data.toList.take m).flatMap escB)
   have hlen:=Zdh (tx.data.toList.take m);have htl:(tx.data.toList.take m).length≤500:=by rw [List.length_take]; omega
   rw [← hacc] at HN hlen ⊢;have hsz:(⟨acc.toArray⟩:ByteArray).size=acc.length:=by simp [ByteArray.size]
   have hmI:(m:Int) < (tx.size:Int):=by omega
   have wr1:IntKind.i64.wrap ((m:Int) + 1)=(m:Int) + 1:=IntWalk.i64_in _ (by omega);have al:acc.length≤1000:=by omega
   clear hby hc hacc hlen htl;by_cases e10:c=10
   ·subst e10;have HN2 := HN.out;rw [Y9 (by decide), Y9 (by decide), Yb rfl] at HN2;have HN := lh HN2;clear HN2;have q1 : ¬ 9223372036854775807 < acc.length + 2 := by omega
    go_wp2;go_round
    case rel=>exact ⟨m + 1,by go_num,by omega,by rw [HN.out,Z81]⟩
    case measure=>simp [intOf]; omega
   have n10:(c == 10)=false:=by simpa using e10
   by_cases e39:c=39
   ·subst e39;have HN2 := HN.out;rw [Y9 (by decide), Yb rfl] at HN2;have HN := lh HN2;clear HN2;have z39 := Zmo;have q1 : ¬ 9223372036854775807 < 1 + (Utf8.encode 39).size := by omega
    have q2:¬ 9223372036854775807 < acc.length + (1 + (Utf8.encode 39).size):=by omega
    go_wp2;go_round
    case rel=>exact ⟨m + 1,by go_num,by omega,by rw [HN.out,Z81,Zmy]; rfl⟩
    case measure=>simp [intOf]; omega
   have n39:(c == 39)=false:=by simpa using e39
   by_cases e92:c=92
   ·subst e92;have HN2 := HN.out;rw [Yb rfl] at HN2;have HN := lh HN2;clear HN2;have z92 := Zmi;have q1 : ¬ 9223372036854775807 < 1 + (Utf8.encode 92).size := by omega
    have q2:¬ 9223372036854775807 < acc.length + (1 + (Utf8.encode 92).size):=by omega
    go_wp2;go_round
    case rel=>exact ⟨m + 1,by go_num,by omega,by rw [HN.out,Z81,Zn1]; rfl⟩
    case measure=>simp [intOf]; omega
   have n92:(c == 92)=false:=by simpa using e92
   have HN2:=HN.out;rw [Y9 e92,Y9 e39,Y9 e10] at HN2;have HN:=lh HN2;clear HN2 e10 e39 e92;have hxs:(tx.extract m (m + 1)).size=1:=by rw [ByteArray.size_extract]; omega
   have q2:¬ 9223372036854775807 < acc.length + (tx.extract m (m + 1)).size:=by omega
   go_wp2;go_round
   case rel=>exact ⟨m + 1,by go_num,by omega,by rw [HN.out,Z81]⟩
   case measure=>simp [intOf]; omega
  ·have hm2 : m = tx.size := by omega
   subst hm2;have hl:=Zdh tx.data.toList;have hL:tx.data.toList.length=tx.size:=by rw [Array.length_toList]; rfl
   have htk:tx.data.toList.take tx.size=tx.data.toList:=Ym (by omega);rw [htk];obtain ⟨acc,hacc⟩:=zX (tx.data.toList.flatMap escB)
   rw [← hacc] at hl ⊢;have hsz:(⟨acc.toArray⟩:ByteArray).size=acc.length:=by simp [ByteArray.size]
   have q1:¬ 9223372036854775807 < 1 + acc.length:=by omega
   have q2:¬ 9223372036854775807 < 1 + acc.length + 1:=by omega
   have HACC:=lh hacc;clear hacc hl hL htk;go_wp2;go_ret;exact ⟨by rw [← HACC.out]; rfl,HC0.out⟩
end
section
variable {w0:World} {Bt:Nat}
theorem Zkv (a:ATree) (hT:TreeAt w0 Bt a) (h1:a.kind=5) (p b:ATree) (hks:a.kids=[p,b]) (X Y:ByteArray) (hl:RL w0 p.v X) (hs:RS' w0 b Y) (hP:TreeAt w0 Bt p) (sX:X.size≤100000000) (sY:Y.size≤100000000) (hn:a.text.size≠0) (sT:a.text.size≤100000000):RV w0 a ((⟨#[102,117,110,99,116,105,111,110]⟩ ++ (⟨#[32]⟩ ++ a.text)) ++ ⟨#[40]⟩ ++ X ++ ⟨#[41,32]⟩ ++ Y):=by
 have c0:=hT.c0;rw [h1] at c0;have c1:=hT.c1;obtain ⟨g,cp,c3,hge2,hmx,hgl,hk⟩:=Z3a hT hks 2 rfl (by decide);have k0:=hk 0 p rfl;have k1:=hk 1 b rfl;have p3:=hP.c3;obtain ⟨vv,hvv⟩:=zX p.v
 rw [← hvv] at p3 hl;obtain ⟨tx,htx⟩:=zX a.text
 rw [← htx] at c1 hn sT ⊢;have hie:tx.toList.isEmpty=false:=by
  cases hc:tx.toList with
  | nil=>exact absurd (by rw [show tx=⟨#[]⟩ from Z25 (by rw [hc]; kernel_rfl)]; rfl) hn
  | cons u r=>rfl
 clear htx;intro W hB;have x0:=ob hB c0;have x1:=ob hB c1;have x3:=ob hB c3;have y0:=ob hB k0;have y1:=ob hB k1;have y3:=ob hB p3;have HL:=lh hl;have HS:=lh hs;have HB0:=lh hB;have HC0:Hid (Below W.heap.size W W):=lh (Y8 _ _);have q1:¬ 9223372036854775807 < 1 + tx.size:=by omega
 have q2:¬ 9223372036854775807 < 8 + (1 + tx.size):=by omega
 have q3:¬ 9223372036854775807 < 8 + (1 + tx.size) + 1:=by omega
 have q4:¬ 9223372036854775807 < 8 + (1 + tx.size) + 1 + X.size:=by omega
 have q5:¬ 9223372036854775807 < 8 + (1 + tx.size) + 1 + X.size + 2:=by omega
 have q6:¬ 9223372036854775807 < 8 + (1 + tx.size) + 1 + X.size + 2 + Y.size:=by omega
 clear hT hP hB h1 hks hk hl hs sX sY hvv hn sT;unfold ATree.ptr at HS ⊢;go_enter Tryz.func60,Tryz.ntmps60
 go_wp2_with fail
 refine Zf [0,2,4,6,8,10,12,14,16,18,20,28,30,32,34,36,38,23,24,26,41] [21,22] (fun W=>W.cell? ⟨a.b,3,none⟩=some (.slice (some ⟨g,0,none⟩) 2 cp)∧W.cell? ⟨g,0,none⟩=some (.pointer (some ⟨p.b,0,none⟩))∧W.cell? ⟨g,1,none⟩=some (.pointer (some ⟨b.b,0,none⟩))∧W.cell? ⟨p.b,3,none⟩=some (vv)) ⟨x3,y0,y1,y3⟩ fun _=>?_;simp only [Zh,pD,zD,zE,zF,zG,zH,zI,zJ,zK]
 iterate 17
  first | refine Za _ ?_ | refine Zb ?_
  simp only [Act.put,zA,zB,zC]
 have HB00:=lh HB0.out.drew;have HC00:=lh HC0.out.drew;refine Z5 (fun K hK=>?_);go_simp
 refine (HL.out _ HB00.out).mono ?_;rintro e w1 ⟨rfl,hb1⟩;have HB1:=zT HB00 hb1;have HC1:=zT HC00 hb1;clear hb1;refine hK _ _ ⟨ob HB1.out c3,ob HB1.out k0,ob HB1.out k1,ob HB1.out p3⟩ ?_;clear hK K
 iterate 2
  first | refine Za _ ?_ | refine Zb ?_
  simp only [Act.put,zA,zB,zC]
 refine Z5 (fun K hK=>?_);go_simp
 refine (HS.out _ HB1.out).mono ?_;rintro e w2 ⟨rfl,hb2⟩;have HB2:=zT HB1 hb2;have HC2:=zT HC1 hb2;clear hb2;refine hK _ _ ⟨ob HB2.out c3,ob HB2.out k0,ob HB2.out k1,ob HB2.out p3⟩ ?_;clear hK K;refine Z6 ?_;go_wp2;go_ret;exact ⟨rfl,HC2.out⟩
theorem Zhv (a:ATree) (hT:TreeAt w0 Bt a) (h1:a.kind=37) (p b:ATree) (hks:a.kids=[p,b]) (X Y:ByteArray) (hl:RL w0 p.v X) (hs:RS' w0 b Y) (hP:TreeAt w0 Bt p) (sX:X.size≤100000000) (sY:Y.size≤100000000) (hn:a.text.size≠0) (sT:a.text.size≤100000000):RV w0 a ((⟨#[102,117,110,99,116,105,111,110]⟩ ++ (⟨#[32]⟩ ++ a.text)) ++ ⟨#[40]⟩ ++ X ++ ⟨#[41,32]⟩ ++ Y):=by
 have c0:=hT.c0;rw [h1] at c0;have c1:=hT.c1;obtain ⟨g,cp,c3,hge2,hmx,hgl,hk⟩:=Z3a hT hks 2 rfl (by decide);have k0:=hk 0 p rfl;have k1:=hk 1 b rfl;have p3:=hP.c3;obtain ⟨vv,hvv⟩:=zX p.v
 rw [← hvv] at p3 hl;obtain ⟨tx,htx⟩:=zX a.text
 rw [← htx] at c1 hn sT ⊢;have hie:tx.toList.isEmpty=false:=by
  cases hc:tx.toList with
  | nil=>exact absurd (by rw [show tx=⟨#[]⟩ from Z25 (by rw [hc]; kernel_rfl)]; rfl) hn
  | cons u r=>rfl
 clear htx;intro W hB;have x0:=ob hB c0;have x1:=ob hB c1;have x3:=ob hB c3;have y0:=ob hB k0;have y1:=ob hB k1;have y3:=ob hB p3;have HL:=lh hl;have HS:=lh hs;have HB0:=lh hB;have HC0:Hid (Below W.heap.size W W):=lh (Y8 _ _);have q1:¬ 9223372036854775807 < 1 + tx.size:=by omega
 have q2:¬ 9223372036854775807 < 8 + (1 + tx.size):=by omega
 have q3:¬ 9223372036854775807 < 8 + (1 + tx.size) + 1:=by omega
 have q4:¬ 9223372036854775807 < 8 + (1 + tx.size) + 1 + X.size:=by omega
 have q5:¬ 9223372036854775807 < 8 + (1 + tx.size) + 1 + X.size + 2:=by omega
 have q6:¬ 9223372036854775807 < 8 + (1 + tx.size) + 1 + X.size + 2 + Y.size:=by omega
 clear hT hP hB h1 hks hk hl hs sX sY hvv hn sT;unfold ATree.ptr at HS ⊢;go_enter Tryz.func60,Tryz.ntmps60
 go_wp2_with fail
 refine Zf [0,2,4,6,8,10,12,14,16,18,20,28,30,32,34,36,38,23,24,26,41] [21,22] (fun W=>W.cell? ⟨a.b,3,none⟩=some (.slice (some ⟨g,0,none⟩) 2 cp)∧W.cell? ⟨g,0,none⟩=some (.pointer (some ⟨p.b,0,none⟩))∧W.cell? ⟨g,1,none⟩=some (.pointer (some ⟨b.b,0,none⟩))∧W.cell? ⟨p.b,3,none⟩=some (vv)) ⟨x3,y0,y1,y3⟩ fun _=>?_;simp only [Zh,pD,zD,zE,zF,zG,zH,zI,zJ,zK]
 iterate 17
  first | refine Za _ ?_ | refine Zb ?_
  simp only [Act.put,zA,zB,zC]
 have HB00:=lh HB0.out.drew;have HC00:=lh HC0.out.drew;refine Z5 (fun K hK=>?_);go_simp
 refine (HL.out _ HB00.out).mono ?_;rintro e w1 ⟨rfl,hb1⟩;have HB1:=zT HB00 hb1;have HC1:=zT HC00 hb1;clear hb1;refine hK _ _ ⟨ob HB1.out c3,ob HB1.out k0,ob HB1.out k1,ob HB1.out p3⟩ ?_;clear hK K
 iterate 2
  first | refine Za _ ?_ | refine Zb ?_
  simp only [Act.put,zA,zB,zC]
 refine Z5 (fun K hK=>?_);go_simp
 refine (HS.out _ HB1.out).mono ?_;rintro e w2 ⟨rfl,hb2⟩;have HB2:=zT HB1 hb2;have HC2:=zT HC1 hb2;clear hb2;refine hK _ _ ⟨ob HB2.out c3,ob HB2.out k0,ob HB2.out k1,ob HB2.out p3⟩ ?_;clear hK K;refine Z6 ?_;go_wp2;go_ret;exact ⟨rfl,HC2.out⟩
theorem Zlm (a:ATree) (hT:TreeAt w0 Bt a) (h1:a.kind=37) (p b:ATree) (hks:a.kids=[p,b]) (X Y:ByteArray) (hl:RL w0 p.v X) (hs:RS' w0 b Y) (hP:TreeAt w0 Bt p) (sX:X.size≤100000000) (sY:Y.size≤100000000) (hn:a.text=ByteArray.empty):RV w0 a (⟨#[102,117,110,99,116,105,111,110]⟩ ++ ⟨#[40]⟩ ++ X ++ ⟨#[41,32]⟩ ++ Y):=by
 have c0:=hT.c0;rw [h1] at c0;have c1:=hT.c1;rw [hn] at c1;obtain ⟨g,cp,c3,hge2,hmx,hgl,hk⟩:=Z3a hT hks 2 rfl (by decide);have k0:=hk 0 p rfl;have k1:=hk 1 b rfl;have p3:=hP.c3;obtain ⟨vv,hvv⟩:=zX p.v
 rw [← hvv] at p3 hl;intro W hB;have x0:=ob hB c0;have x1:=ob hB c1;have x3:=ob hB c3;have y0:=ob hB k0;have y1:=ob hB k1;have y3:=ob hB p3;have HL:=lh hl;have HS:=lh hs;have HB0:=lh hB;have HC0:Hid (Below W.heap.size W W):=lh (Y8 _ _);have q1:¬ 9223372036854775807 < 8 + 1:=by omega
 have q2:¬ 9223372036854775807 < 8 + 1 + X.size:=by omega
 have q3:¬ 9223372036854775807 < 8 + 1 + X.size + 2:=by omega
 have q4:¬ 9223372036854775807 < 8 + 1 + X.size + 2 + Y.size:=by omega
 clear hT hP hB h1 hks hk hl hs sX sY hvv hn;unfold ATree.ptr at HS ⊢;go_enter Tryz.func60,Tryz.ntmps60
 go_wp2_with fail
 refine Zf [0,2,4,6,8,10,12,14,16,18,20,28,30,32,34,36,38,23,24,26,41] [21,22] (fun W=>W.cell? ⟨a.b,3,none⟩=some (.slice (some ⟨g,0,none⟩) 2 cp)∧W.cell? ⟨g,0,none⟩=some (.pointer (some ⟨p.b,0,none⟩))∧W.cell? ⟨g,1,none⟩=some (.pointer (some ⟨b.b,0,none⟩))∧W.cell? ⟨p.b,3,none⟩=some (vv)) ⟨x3,y0,y1,y3⟩ fun _=>?_;simp only [Zh,pD,zD,zE,zF,zG,zH,zI,zJ,zK]
 iterate 17
  first | refine Za _ ?_ | refine Zb ?_
  simp only [Act.put,zA,zB,zC]
 have HB00:=lh HB0.out.drew;have HC00:=lh HC0.out.drew;refine Z5 (fun K hK=>?_);go_simp
 refine (HL.out _ HB00.out).mono ?_;rintro e w1 ⟨rfl,hb1⟩;have HB1:=zT HB00 hb1;have HC1:=zT HC00 hb1;clear hb1;refine hK _ _ ⟨ob HB1.out c3,ob HB1.out k0,ob HB1.out k1,ob HB1.out p3⟩ ?_;clear hK K
 iterate 2
  first | refine Za _ ?_ | refine Zb ?_
  simp only [Act.put,zA,zB,zC]
 refine Z5 (fun K hK=>?_);go_simp
 refine (HS.out _ HB1.out).mono ?_;rintro e w2 ⟨rfl,hb2⟩;have HB2:=zT HB1 hb2;have HC2:=zT HC1 hb2;clear hb2;refine hK _ _ ⟨ob HB2.out c3,ob HB2.out k0,ob HB2.out k1,ob HB2.out p3⟩ ?_;clear hK K;refine Z6 ?_;go_wp2;go_ret;exact ⟨rfl,HC2.out⟩
end
section
variable {w0:World} {Bt:Nat}
theorem Zjo (a:ATree) (hT:TreeAt w0 Bt a) (h1:a.kind=35) (x:ATree) (r:List ATree) (hks:a.kids=x :: r) (X Y:ByteArray) (hx:RA w0 x 8 X) (hl:∀ v,Z4c w0 v r→RL w0 v Y) (sX:X.size≤100000000) (sY:Y.size≤100000000) (hrl:r.length≤1500) (g cp:Nat) (c3':w0.cell? ⟨a.b,3,none⟩=some (.slice (some ⟨g,0,none⟩) a.kids.length cp)) (hge:a.kids.length≤cp) (hmx:cp≤maxLen) (hk:∀ (i:Nat) (x:ATree),a.kids[i]?=some x→w0.cell? ⟨g,i,none⟩=some x.ptr) (hcp:cp=1):RV w0 a (X ++ ⟨#[40]⟩ ++ Y ++ ⟨#[41]⟩):=by
 have c0:=hT.c0;rw [h1] at c0;obtain ⟨pn,hpn⟩:=zX r.length
 have c3:w0.cell? ⟨a.b,3,none⟩=some (.slice (some ⟨g,0,none⟩) (pn + 1) cp):=by rw [hks] at c3'; rw [hpn]; exact c3'
 have hge2:pn + 1≤cp:=by rw [hks] at hge; rw [hpn]; exact hge
 unfold maxLen at hmx;have k0:=hk 0 x (by rw [hks]; rfl);unfold ATree.ptr at k0;have hsl:Z4c w0 (.slice (some ⟨g,0,none⟩) pn 0) r:=by
  rw [hpn];refine ⟨(some ⟨g,0,none⟩),0,rfl,by omega,by unfold maxLen; omega,fun i y hy=>⟨g,1,?_,?_⟩⟩
  ·have:=(List.getElem?_eq_some_iff.1 hy).1;first | rfl | omega
  ·have:=hk (i + 1) y (by rw [hks]; exact hy);rwa [Nat.add_comm] at this
 have HL:=lh (hl _ hsl);have hpI:(1:Int)≤(pn:Int) + 1:=by omega
 have hpb:pn≤100000:=by omega
 clear hl hsl hpn hrl;subst hcp;have hp0:pn=0:=by omega
 subst hp0;simp only [Nat.zero_add] at c3;clear hge2 hpI hpb;intro W hB;have x0:=ob hB c0;have x3:=ob hB c3;have y0:=ob hB k0;have HX:=lh hx;have HB0:=lh hB;have HC0:Hid (Below W.heap.size W W):=lh (Y8 _ _);have q1:¬ 9223372036854775807 < X.size + 1:=by omega
 have q2:¬ 9223372036854775807 < X.size + 1 + Y.size:=by omega
 have q3:¬ 9223372036854775807 < X.size + 1 + Y.size + 1:=by omega
 clear hT hB h1 hks hge hk c3' hx sX sY;unfold ATree.ptr at HX ⊢;go_enter Tryz.func60,Tryz.ntmps60
 go_wp2_with fail
 refine Zf [0,2,4,6,8,10,16,18,20,22,24,13,14,27] [14,15,16] (fun W=>W.cell? ⟨a.b,3,none⟩=some (.slice (some ⟨g,0,none⟩) 1 1)∧W.cell? ⟨g,0,none⟩=some (.pointer (some ⟨x.b,0,none⟩))) ⟨x3,y0⟩ fun _=>?_;simp only [Zh,pD,zD,zE,zF,zG,zH,zI,zJ,zK]
 iterate 11
  first | refine Za _ ?_ | refine Zb ?_
  simp only [Act.put,zA,zB,zC]
 have HB00:=lh HB0.out.drew;have HC00:=lh HC0.out.drew;refine Z5 (fun K hK=>?_);go_simp
 refine (HX.out _ HB00.out).mono ?_;rintro e w1 ⟨rfl,hb1⟩;have HB1:=zT HB00 hb1;have HC1:=zT HC00 hb1;clear hb1;refine hK _ _ ⟨ob HB1.out c3,ob HB1.out k0⟩ ?_;clear hK K
 iterate 1
  first | refine Za _ ?_ | refine Zb ?_
  simp only [Act.put,zA,zB,zC]
 refine Z5 (fun K hK=>?_);go_simp
 refine (HL.out _ HB1.out).mono ?_;rintro e w2 ⟨rfl,hb2⟩;have HB2:=zT HB1 hb2;have HC2:=zT HC1 hb2;clear hb2;refine hK _ _ ⟨ob HB2.out c3,ob HB2.out k0⟩ ?_;clear hK K;refine Z6 ?_;go_wp2;go_ret;exact ⟨rfl,HC2.out⟩
theorem Zjt (a:ATree) (hT:TreeAt w0 Bt a) (h1:a.kind=35) (x:ATree) (r:List ATree) (hks:a.kids=x :: r) (X Y:ByteArray) (hx:RA w0 x 8 X) (hl:∀ v,Z4c w0 v r→RL w0 v Y) (sX:X.size≤100000000) (sY:Y.size≤100000000) (hrl:r.length≤1500) (g cp:Nat) (c3':w0.cell? ⟨a.b,3,none⟩=some (.slice (some ⟨g,0,none⟩) a.kids.length cp)) (hge:a.kids.length≤cp) (hmx:cp≤maxLen) (hk:∀ (i:Nat) (x:ATree),a.kids[i]?=some x→w0.cell? ⟨g,i,none⟩=some x.ptr) (hcp:¬ cp=1):RV w0 a (X ++ ⟨#[40]⟩ ++ Y ++ ⟨#[41]⟩):=by
 have c0:=hT.c0;rw [h1] at c0;obtain ⟨pn,hpn⟩:=zX r.length
 have c3:w0.cell? ⟨a.b,3,none⟩=some (.slice (some ⟨g,0,none⟩) (pn + 1) cp):=by rw [hks] at c3'; rw [hpn]; exact c3'
 have hge2:pn + 1≤cp:=by rw [hks] at hge; rw [hpn]; exact hge
 unfold maxLen at hmx;have k0:=hk 0 x (by rw [hks]; rfl);unfold ATree.ptr at k0;have hsl:Z4c w0 (.slice (some ⟨g,1,none⟩) pn (cp - 1)) r:=by
  rw [hpn];refine ⟨(some ⟨g,1,none⟩),(cp - 1),rfl,by omega,by unfold maxLen; omega,fun i y hy=>⟨g,1,?_,?_⟩⟩
  ·have:=(List.getElem?_eq_some_iff.1 hy).1;first | rfl | omega
  ·have:=hk (i + 1) y (by rw [hks]; exact hy);rwa [Nat.add_comm] at this
 have HL:=lh (hl _ hsl);have hpI:(1:Int)≤(pn:Int) + 1:=by omega
 have hpb:pn≤100000:=by omega
 clear hl hsl hpn hrl;intro W hB;have x0:=ob hB c0;have x3:=ob hB c3;have y0:=ob hB k0;have HX:=lh hx;have HB0:=lh hB;have HC0:Hid (Below W.heap.size W W):=lh (Y8 _ _);have q1:¬ 9223372036854775807 < X.size + 1:=by omega
 have q2:¬ 9223372036854775807 < X.size + 1 + Y.size:=by omega
 have q3:¬ 9223372036854775807 < X.size + 1 + Y.size + 1:=by omega
 clear hT hB h1 hks hge hk c3' hx sX sY;unfold ATree.ptr at HX ⊢;go_enter Tryz.func60,Tryz.ntmps60
 go_wp2_with fail
 refine Zf [0,2,4,6,8,10,16,18,20,22,24,13,14,27] [14,15,16] (fun W=>W.cell? ⟨a.b,3,none⟩=some (.slice (some ⟨g,0,none⟩) (pn + 1) cp)∧W.cell? ⟨g,0,none⟩=some (.pointer (some ⟨x.b,0,none⟩))) ⟨x3,y0⟩ fun _=>?_;simp only [Zh,pD,zD,zE,zF,zG,zH,zI,zJ,zK]
 iterate 11
  first | refine Za _ ?_ | refine Zb ?_
  simp only [Act.put,zA,zB,zC]
 have HB00:=lh HB0.out.drew;have HC00:=lh HC0.out.drew;refine Z5 (fun K hK=>?_);go_simp
 refine (HX.out _ HB00.out).mono ?_;rintro e w1 ⟨rfl,hb1⟩;have HB1:=zT HB00 hb1;have HC1:=zT HC00 hb1;clear hb1;refine hK _ _ ⟨ob HB1.out c3,ob HB1.out k0⟩ ?_;clear hK K
 iterate 1
  first | refine Za _ ?_ | refine Zb ?_
  simp only [Act.put,zA,zB,zC]
 refine Z5 (fun K hK=>?_);go_simp
 refine (HL.out _ HB1.out).mono ?_;rintro e w2 ⟨rfl,hb2⟩;have HB2:=zT HB1 hb2;have HC2:=zT HC1 hb2;clear hb2;refine hK _ _ ⟨ob HB2.out c3,ob HB2.out k0⟩ ?_;clear hK K;refine Z6 ?_;go_wp2;go_ret;exact ⟨rfl,HC2.out⟩
theorem Zkr (a:ATree) (hT:TreeAt w0 Bt a) (h1:a.kind=35) (x:ATree) (r:List ATree) (hks:a.kids=x :: r) (X Y:ByteArray) (hx:RA w0 x 8 X) (hl:∀ v,Z4c w0 v r→RL w0 v Y) (sX:X.size≤100000000) (sY:Y.size≤100000000) (hrl:r.length≤1500):RV w0 a (X ++ ⟨#[40]⟩ ++ Y ++ ⟨#[41]⟩):=by
 obtain ⟨g,cp,c3',hge,hmx,hgl,hk⟩:=Z5q hT (by rw [hks]; simp);by_cases hcp:cp=1;·exact Zjo a hT h1 x r hks X Y hx hl sX sY hrl g cp c3' hge hmx hk hcp
 ·exact Zjt a hT h1 x r hks X Y hx hl sX sY hrl g cp c3' hge hmx hk hcp
theorem Zmj (a:ATree) (hT:TreeAt w0 Bt a) (h1:a.kind=38) (Y:ByteArray) (hl:RL w0 a.v Y) (sY:Y.size≤100000000):RV w0 a (⟨#[123]⟩ ++ Y ++ ⟨#[125]⟩):=by
 have c0:=hT.c0;rw [h1] at c0;have c3:=hT.c3;obtain ⟨vv,hvv⟩:=zX a.v
 rw [← hvv] at c3 hl;intro W hB;have x0:=ob hB c0;have x3:=ob hB c3;have HL:=lh hl;have HB0:=lh hB;have HC0:Hid (Below W.heap.size W W):=lh (Y8 _ _);have q1:¬ 9223372036854775807 < 1 + Y.size:=by omega
 have q2:¬ 9223372036854775807 < 1 + Y.size + 1:=by omega
 clear hT hB h1 hl sY hvv;unfold ATree.ptr;go_enter Tryz.func60,Tryz.ntmps60
 go_wp2_with fail
 refine (HL.out _ HB0.out).mono ?_;rintro e w1 ⟨rfl,hb1⟩;have HB1:=zT HB0 hb1;have HC1:=zT HC0 hb1;clear hb1;go_wp2;go_ret;exact ⟨rfl,HC1.out⟩
end
section
variable {w0:World} {Bt:Nat}
theorem boxF {w0 W:World} (hB:Below w0.heap.size w0 W) (p:Value) (t:TypeId):Hid (Below w0.heap.size w0 (W.alloc (.cells #[p] t)))∧Hid (Below W.heap.size W (W.alloc (.cells #[p] t))) ∧
 Hid (Below (W.alloc (.cells #[p] t)).heap.size (W.alloc (.cells #[p] t)) (W.alloc (.cells #[p] t)))∧Hid ((W.alloc (.cells #[p] t)).cell? ⟨W.heap.size,0,none⟩=some p):=
 ⟨lh (hB.alloc hB.size _),lh ((Y8 _ _).alloc (Y5 _) _),lh (Y8 _ _),lh (World.cell?_alloc_new _ _ _ 0)⟩
def RC (w0:World) (a:ATree) (i:Int) (X:ByteArray):Prop:=∀ (bx:Nat) (W:World),Below w0.heap.size w0 W→W.cell? ⟨bx,0,none⟩=some (.pointer (some ⟨a.b,0,none⟩))→Calls Tryz.prog 59 #[.int .i64 i,.pointer (some ⟨bx,0,none⟩)] W fun e w'=>e=.returned (.string X)∧Below W.heap.size W w'
theorem rval (a:ATree) (hT:TreeAt w0 Bt a) (x:ATree) (i:Nat) (hi:a.kids[i]?=some x) (X:ByteArray) (hx:RV w0 x X) (hle:a.kids.length≤10000):RC w0 a i X:=by
 have hne:a.kids≠[]:=by intro e; rw [e] at hi; cases hi
 obtain ⟨g,cp,c3,hge,hmx,hgl,hk⟩:=Z5q hT hne;have k0:=hk i x hi;have hil:=(List.getElem?_eq_some_iff.1 hi).1;obtain ⟨n,hn⟩:=zX a.kids.length
 rw [← hn] at c3 hge hil hle;unfold maxLen at hmx;unfold ATree.ptr at k0;intro bx W hB xb;have x3:=ob hB c3;have y0:=ob hB k0;have HX:=lh hx;have HB0:=lh hB;have hiI:(i:Int) < (n:Int):=by omega
 clear hT hx hB hi hk hn hne c3 k0;unfold ATree.ptr at HX;go_enter Tryz.func59,Tryz.ntmps59
 go_wp2_with fail
 refine (HX.out _ HB0.out).mono ?_;rintro e w1 ⟨rfl,hb1⟩;have HC1:=lh hb1;clear hb1;go_wp2;go_ret;exact ⟨rfl,HC1.out⟩
theorem Zkj (a:ATree) (hT:TreeAt w0 Bt a) (h1:a.kind=5) (X:ByteArray) (hx:RV w0 a X):RS' w0 a (X):=by
 have c0:=hT.c0;rw [h1] at c0;have c1:=hT.c1;have HX:=lh hx;intro W hB;obtain ⟨HBA,HCA,HDA,HXB⟩:=boxF hB (.pointer (some ⟨a.b,0,none⟩)) 22;have xb:=HXB.out;have x0:=ob HBA.out c0;clear hB hT h1 c0 c1 hx;unfold RV ATree.ptr at HX;unfold ATree.ptr;go_enter Tryz.func26,Tryz.ntmps26
 go_wp2_with fail
 refine (HX.out _ HBA.out).mono ?_;rintro e w1 ⟨rfl,hb1⟩;have HB1:=zT HBA hb1;have HD1:=zT HDA hb1;clear hb1;go_wp2;go_ret;exact ⟨rfl,HCA.out.trans (HD1.out.mono HCA.out.size)⟩
theorem Zjk (a:ATree) (hT:TreeAt w0 Bt a) (h1:a.kind=16) :RS' w0 a (⟨#[59]⟩):=by
 have c0:=hT.c0;rw [h1] at c0;have c1:=hT.c1;intro W hB;obtain ⟨HBA,HCA,HDA,HXB⟩:=boxF hB (.pointer (some ⟨a.b,0,none⟩)) 22;have xb:=HXB.out;have x0:=ob HBA.out c0;clear hB hT h1 c0 c1;unfold ATree.ptr;go_enter Tryz.func26,Tryz.ntmps26
 go_wp2;go_ret;exact ⟨rfl,HCA.out⟩
theorem Zkb (a:ATree) (hT:TreeAt w0 Bt a) (h1:a.kind=10) (hks:a.kids=[]):RS' w0 a (⟨#[114,101,116,117,114,110,59]⟩):=by
 have c0:=hT.c0;rw [h1] at c0;have c1:=hT.c1;obtain ⟨pp,cp,hpv,hge,hmx⟩:=hT.vOf;have c3:=hT.c3;rw [hpv,hks] at c3;simp only [List.length_nil] at c3;intro W hB;obtain ⟨HBA,HCA,HDA,HXB⟩:=boxF hB (.pointer (some ⟨a.b,0,none⟩)) 22;have xb:=HXB.out;have x0:=ob HBA.out c0;have x3:=ob HBA.out c3;clear hB hT h1 c0 c1 hks c3 hpv hge hmx;unfold ATree.ptr;go_enter Tryz.func26,Tryz.ntmps26
 go_wp2;go_ret;exact ⟨rfl,HCA.out⟩
theorem Zky (a:ATree) (hT:TreeAt w0 Bt a) (h1:a.kind=10) (x:ATree) (hks:a.kids=[x]) (X:ByteArray) (hx:RC w0 a 0 X) (sX:X.size≤100000000):RS' w0 a (⟨#[114,101,116,117,114,110,32]⟩ ++ X ++ ⟨#[59]⟩):=by
 have c0:=hT.c0;rw [h1] at c0;have c1:=hT.c1;obtain ⟨g,cp,c3,hge2,hmx,hgl,hk⟩:=Z3a hT hks 1 rfl (by decide);have HX:=lh hx;intro W hB;obtain ⟨HBA,HCA,HDA,HXB⟩:=boxF hB (.pointer (some ⟨a.b,0,none⟩)) 22;have xb:=HXB.out;have x0:=ob HBA.out c0;have x3:=ob HBA.out c3;have q1:¬ 9223372036854775807 < 7 + X.size:=by omega
 have q2:¬ 9223372036854775807 < 7 + X.size + 1:=by omega
 clear hB hT h1 c0 c1 hks c3 hk hx sX;unfold ATree.ptr;go_enter Tryz.func26,Tryz.ntmps26
 go_wp2_with fail
 refine (HX.out W.heap.size _ HBA.out (ob HDA.out HXB.out)).mono ?_;rintro e w1 ⟨rfl,hb1⟩;have HB1:=zT HBA hb1;have HD1:=zT HDA hb1;clear hb1;go_wp2;go_ret;exact ⟨rfl,HCA.out.trans (HD1.out.mono HCA.out.size)⟩
theorem Zis (a:ATree) (hT:TreeAt w0 Bt a) (h1:a.kind=11) (x:ATree) (hks:a.kids=[x]) (X:ByteArray) (hx:RC w0 a 0 X) (sX:X.size≤100000000):RS' w0 a (⟨#[116,104,114,111,119,32]⟩ ++ X ++ ⟨#[59]⟩):=by
 have c0:=hT.c0;rw [h1] at c0;have c1:=hT.c1;obtain ⟨g,cp,c3,hge2,hmx,hgl,hk⟩:=Z3a hT hks 1 rfl (by decide);have HX:=lh hx;intro W hB;obtain ⟨HBA,HCA,HDA,HXB⟩:=boxF hB (.pointer (some ⟨a.b,0,none⟩)) 22;have xb:=HXB.out;have x0:=ob HBA.out c0;have x3:=ob HBA.out c3;have q1:¬ 9223372036854775807 < 6 + X.size:=by omega
 have q2:¬ 9223372036854775807 < 6 + X.size + 1:=by omega
 clear hB hT h1 c0 c1 hks c3 hk hx sX;unfold ATree.ptr;go_enter Tryz.func26,Tryz.ntmps26
 go_wp2_with fail
 refine (HX.out W.heap.size _ HBA.out (ob HDA.out HXB.out)).mono ?_;rintro e w1 ⟨rfl,hb1⟩;have HB1:=zT HBA hb1;have HD1:=zT HDA hb1;clear hb1;go_wp2;go_ret;exact ⟨rfl,HCA.out.trans (HD1.out.mono HCA.out.size)⟩
end
end Go.Proofs.YtmeiggjboakmpaaGreatDoor
