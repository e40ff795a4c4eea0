/- Package tree: Parse. -/
import Derived.Test.YtajomcjaljakhaaGreatDoorJ25
import Derived.Recover
import Derived.Stop.Asserts
import Derived.Outline
import Derived.RowKitTokens
namespace Go.Proofs.YtajomcjaljakhaaGreatDoor
open Go Go.RowKit
set_option maxRecDepth 100000
set_option maxHeartbeats 20000000
set_option linter.unusedVariables false
theorem Z5k {P:Program} {f:FuncId} {fn:Func} {c:Code} {args:Array Value} {u:FrameMode} {w:World} {R:Ending→FrameMode→World→Prop}
 (hf:P.funcs[f]?=some fn) (hb:fn.body=some c) (T:Array Value) (hT:args ++ Array.replicate (fn.ntmps - args.size) undef=T)
 (h:∀ (c₀:Frame) (cs:List Frame),c₀.mode=u→c.wpS P (bodyPostS P fn c₀ cs R) { tmps:=T,defers:=[] } (c₀ :: cs) w):CallsD P f args u w R:=
 callsD_of_wpS hf hb (by rw [hT]; exact h)
theorem Tryz.asFault (v:Value) (w:World):(Instr.typeAssert (.iface 72 v) 20 72 true).run Tryz.prog w=.ok (.tuple #[v,.bool true]) w:=by kernel_rfl
theorem Zab (p q:Addr) (w:World) :
 CallsD Tryz.prog 31 #[.pointer (some p),.pointer (some q)] .returning w fun e u' w'=>e=.returned (.tuple #[])∧u'=.returning∧w'=w:=by
 refine Z5k Tryz.func31 rfl #[.pointer (some p),.pointer (some q),undef,undef,undef,undef,undef,undef,undef,undef,undef,undef,undef,undef,undef,undef,undef,undef] (by rfl) fun c₀ cs hu=>?_;apply wpS_seq;apply wpS_region;simp [wpOpsS,go_sem,recoverD,hu,Exit.thenS];refine wpS_of_wp ?_;go_wp2;cases c₀;simp_all [bodyPostS,results,Tryz.results31]
def Z5z (w:World) (pb qb:Nat) (x:Value) (w':World):Prop:=
 w'.heap[pb]?=some (.cells #[.pointer none] 22 (0,0))∧w'.heap[qb]?=some (.cells #[x] 27 (0,0))∧w'.os=w.os∧w'.tape=w.tape∧w'.output=w.output∧w.heap.size≤w'.heap.size∧∀ k,k < w.heap.size→k≠pb→k≠qb→w'.heap[k]?=w.heap[k]?
theorem Zcg {w w1:World} {pb qb:Nat} {x x0 y0:Value} (hp:w.heap[pb]?=some (.cells #[x0] 22 (0,0))) (hq:w.heap[qb]?=some (.cells #[y0] 27 (0,0))) (hpq:pb≠qb) (hB:Below w.heap.size w w1) :
 Z5z w pb qb x ((w1.setCell ⟨pb,0,none⟩ (.pointer none)).setCell ⟨qb,0,none⟩ x):=by
 have hpl:pb < w.heap.size:=(Y6.1 hp).1;have hql:qb < w.heap.size:=(Y6.1 hq).1;refine ⟨?_,?_,hB.os,hB.tape,hB.output,by rw [Yn,Yn]; exact hB.size,fun k hk h1 h2=>?_⟩;·exact (Yg _ _ _ _ hpq).trans (Zm (o:=0) _ ((hB.block pb hpl).trans hp))
 ·exact Zm (o:=0) _ ((Yg _ _ _ _ (Ne.symm hpq)).trans ((hB.block qb hql).trans hq))
 ·exact (Yg _ _ _ _ h2).trans ((Yg _ _ _ _ h1).trans (hB.block k hk))
theorem Z5z.below {w w1 w2:World} {pb qb:Nat} {x:Value} (h:Z5z w pb qb x w1) (hB:Below w1.heap.size w1 w2):Z5z w pb qb x w2:=by
 obtain ⟨h1,h2,h3,h4,h5,h6,h7⟩:=h;refine ⟨(hB.block pb (Y6.1 h1).1).trans h1,(hB.block qb (Y6.1 h2).1).trans h2,hB.os.trans h3,hB.tape.trans h4,hB.output.trans h5,Ya h6 hB.size,fun k hk a b=>(hB.block k (Ye hk h6)).trans (h7 k hk a b)⟩
theorem Zd5 (pb qb:Nat) (b:Nat) (older:List PanicEntry) (w:World) (x0 y0:Value) (hp:w.heap[pb]?=some (.cells #[x0] 22 (0,0))) (hq:w.heap[qb]?=some (.cells #[y0] 27 (0,0))) (hpq:pb≠qb) :
 CallsD Tryz.prog 31 #[.pointer (some ⟨pb,0,none⟩),.pointer (some ⟨qb,0,none⟩)] (.panicking ({ v:=.iface 72 (.agg #[.iface 102 (.pointer (some ⟨b,0,none⟩))]),recovered:=false } :: older)) w fun e u' w'=>
  e=.returned (.tuple #[])∧u'=.panicking ({ v:=.iface 72 (.agg #[.iface 102 (.pointer (some ⟨b,0,none⟩))]),recovered:=true } :: older)∧Z5z w pb qb (.iface 102 (.pointer (some ⟨b,0,none⟩))) w':=by
 have hpl:pb < w.heap.size:=(Y6.1 hp).1;have hql:qb < w.heap.size:=(Y6.1 hq).1;have cp:w.cell? ⟨pb,0,none⟩=some x0:=by simp [World.cell?,hp]
 have cq:w.cell? ⟨qb,0,none⟩=some y0:=by simp [World.cell?,hq]
 have zp:w.frozen? ⟨pb,0,none⟩=false:=by simp [World.frozen?,hp]
 have zq:w.frozen? ⟨qb,0,none⟩=false:=by simp [World.frozen?,hq]
 have hta:=Tryz.asFault (.agg #[.iface 102 (.pointer (some ⟨b,0,none⟩))]);refine Z5k Tryz.func31 rfl #[.pointer (some ⟨pb,0,none⟩),.pointer (some ⟨qb,0,none⟩),undef,undef,undef,undef,undef,undef,undef,undef,undef,undef,undef,undef,undef,undef,undef,undef] (by rfl) fun c₀ cs hu=>?_;apply wpS_seq;apply wpS_region;simp [wpOpsS,go_sem,recoverD,hu,Exit.thenS];refine wpS_of_wp ?_;clear hu;go_wp2;go_region
 have CP:=((Zcg (x:=.iface 102 (.pointer (some ⟨b,0,none⟩))) hp hq hpq (Y8 _ w)).below ((Y8 _ _).alloc (Y5 _) (.cells #[.iface 102 (.pointer (some ⟨b,0,none⟩))] 72))).below (Y8 _ _).drew;have CP:=lh CP;clear hp hq hpq hpl hql cp cq zp zq hta;show bodyPostS _ _ _ _ _ Exit.normal _ _ _;cases c₀;simp [bodyPostS,results,Tryz.results31];exact CP.out
theorem Z7n {text:ByteArray} {j k:Nat} {t:Tok} (h:Z15 text j=.ok (t,k)):t.kind≠6∧(t.kind=2→Z3b t.text=true)∧(t.kind=5→t.text=text.extract j (j + Zs text j)∧Z0m (Z8 text j)=false):=by
 unfold Z15 at h;simp only at h;split at h
 ·rename_i hl;split at h
  ·rename_i hw;simp only [Except.ok.injEq,Prod.mk.injEq] at h;obtain ⟨rfl,_⟩:=h;exact ⟨by simp,fun _=>hw,(fun h=>by simp at h)⟩
  ·split at h;·cases h
   ·simp only [Except.ok.injEq,Prod.mk.injEq] at h;obtain ⟨rfl,_⟩:=h;exact ⟨by simp,(fun h=>by simp at h),(fun h=>by simp at h)⟩
 ·rename_i hl;split at h
  ·split at h;·cases h
   ·split at h;·cases h
    ·simp only [Except.ok.injEq,Prod.mk.injEq] at h;obtain ⟨rfl,_⟩:=h;exact ⟨by simp,(fun h=>by simp at h),(fun h=>by simp at h)⟩
  ·split at h
   ·split at h;·cases h
    ·split at h;·cases h
     ·simp only [Except.ok.injEq,Prod.mk.injEq] at h;obtain ⟨rfl,_⟩:=h;exact ⟨by simp,(fun h=>by simp at h),(fun h=>by simp at h)⟩
   ·split at h;·cases h
    ·simp only [Except.ok.injEq,Prod.mk.injEq] at h;obtain ⟨rfl,_⟩:=h;exact ⟨by simp,(fun h=>by simp at h),fun _=>⟨rfl,by simpa using hl⟩⟩
theorem Zgt {s:ByteArray} (h:Z3b s=true):Z30 s=0:=by
 refine Decidable.byContradiction fun hs=>?_;have key:s=s_or∨s=Z6d∨s=Z4a∨s=Z46∨s=Z4r∨s=Z56∨s=Z6e:=by
  unfold Z30 Zp at hs;simp only [decide_eq_true_eq] at hs;by_cases h1:s=s_or;·exact .inl h1
  by_cases h2:s=Z6d;·exact .inr (.inl h2)
  by_cases h3:s=Z4a;·exact .inr (.inr (.inl h3))
  by_cases h4:s=Z46;·exact .inr (.inr (.inr (.inl h4)))
  by_cases h5:s=Z4r;·exact .inr (.inr (.inr (.inr (.inl h5))))
  by_cases h6:s=Z56;·exact .inr (.inr (.inr (.inr (.inr (.inl h6)))))
  by_cases h7:s=Z6e;·exact .inr (.inr (.inr (.inr (.inr (.inr h7)))))
  simp [h1,h2,h3,h4,h5,h6,h7] at hs
 have no:∀ x,Z3b x=false→s=x→False:=fun x h1 h2=>by rw [h2,h1] at h; cases h
 rcases key with e | e | e | e | e | e | e;all_goals exact no _ (by kernel_rfl) e
theorem Zbm {s:ByteArray} (h:Z2q s≠0):Z0m (Z8 s 0)=true∧0 < s.size:=by
 unfold Z2q at h;by_cases h1:Zp s Z4n=true
 ·have : s = Z4n := by simpa [Zp] using h1
  subst this; exact ⟨by kernel_rfl,by decide⟩
 by_cases h2:Zp s Z3g=true
 ·have : s = Z3g := by simpa [Zp] using h2
  subst this; exact ⟨by kernel_rfl,by decide⟩
 by_cases h3:Zp s Z5f=true
 ·have : s = Z5f := by simpa [Zp] using h3
  subst this; exact ⟨by kernel_rfl,by decide⟩
 by_cases h4:Zp s Z1g=true
 ·have : s = Z1g := by simpa [Zp] using h4
  subst this; exact ⟨by kernel_rfl,by decide⟩
 simp [h1,h2,h3,h4] at h
theorem Zfu {text:ByteArray} {j k:Nat} {t:Tok} (hj:j < text.size) (h:Z15 text j=.ok (t,k)):Zl0 t:=by
 obtain ⟨_,h2,h5⟩:=Z7n h;refine ⟨fun hk=>Zgt (h2 hk),fun hk=>?_⟩;obtain ⟨ht,hl⟩:=h5 hk;refine Decidable.byContradiction fun hc=>?_;obtain ⟨hb,hs⟩:=Zbm hc;have hsz:0 < Zs text j:=by
  unfold Zs;split;·omega
  ·split;·omega
   ·split <;> omega
 have hp:Z8 t.text 0=Z8 text j:=by
  rw [ht];have hle:(text.extract j (j + Zs text j)).size≤Zs text j:=by rw [ByteArray.size_extract]; omega
  by_cases hk:j + Zs text j≤text.size;·rw [Zq text (by omega) hk]; rfl
  ·have e:text.extract j (j + Zs text j)=text.extract j text.size:=by
    apply ByteArray.ext;simp only [ByteArray.data_extract];apply Array.ext
    ·simp only [Array.size_extract];have:text.size=text.data.size:=rfl;omega
    ·intro i h1 h2; simp only [Array.getElem_extract]
   rw [e,Zq text (by omega) (Y5 _)]; rfl
 rw [hp,hl] at hb;cases hb
theorem Z6k {text:ByteArray}:∀ (r:List Tok) (i:Nat),i≤text.size→Zgh text i r→(∃ l e,r=l ++ [e]∧e.kind=6∧∀ t∈l,t.kind≠6)∧r.length + i≤text.size + 1∧Zt r:=by
 intro r;induction r with
 | nil=>intro i _ h; exact h.elim
 | cons t r ih =>
   intro i hi h;cases r with
   | nil =>
     obtain ⟨h1,h2⟩:=h;refine ⟨⟨[],t,rfl,by rw [h2],fun t ht=>by cases ht⟩,by simp; omega,fun x hx=>?_⟩;simp only [List.mem_singleton] at hx;subst hx;rw [h2];exact ⟨fun h=>by simp at h,fun h=>by simp at h⟩
   | cons u r =>
     obtain ⟨k,h1,h2,h3⟩:=h;obtain ⟨c1,c2,_⟩:=Z3j text h1 h2;obtain ⟨s1,_,_,_⟩:=Z2a Z1k text (text.size - i) i (Y5 _) hi;obtain ⟨⟨l,e,h4,h5,h6⟩,h7,h8⟩:=ih k c2 h3;refine ⟨⟨t :: l,e,by rw [h4]; rfl,h5,fun x hx=>?_⟩,?_,fun x hx=>?_⟩
     ·rcases List.mem_cons.1 hx with rfl | hx;·exact (Z7n h2).1
      ·exact h6 x hx
     ·simp only [List.length_cons] at h7 ⊢; omega
     ·rcases List.mem_cons.1 hx with rfl | hx;·exact Zfu h1 h2
      ·exact h8 x hx
theorem Zdf (w:World) (text:ByteArray) (hm:3000 < text.size) :
 Calls Tryz.prog 30 #[.string text] w fun e w'=>e=.returned (.tuple #[.slice none 0 0,.iface 29 (.int .i64 4)])∧w=w':=by
 have hm':(3000:Int) < text.size:=by omega
 go_enter Tryz.func30,Tryz.ntmps30
 go_wp2;go_ret2
 exact ⟨rfl,rfl⟩
def Zkj (w':World) (base:Nat) (x:Value) (c p:Int):Prop:=(p=-1∧x=.iface 29 (.int .i64 c))∨∃ q:Nat,p=q∧Zlc w' base x c q
def Z58 (w:World) (r:Except (Int×Int) Tree) (e:Ending) (w':World):Prop:=
 Below w.heap.size w w'∧match r with
 | .ok t=>∃ a,e=.returned (.tuple #[.pointer (some ⟨a.b,0,none⟩),.nilIface])∧Got w w.heap.size w' a t
 | .error (c,p)=>∃ x,e=.returned (.tuple #[.pointer none,x])∧Zkj w' w.heap.size x c p
def Z48 (w:World):World:=(w.alloc (.cells #[.pointer none] 22)).alloc (.cells #[.nilIface] 27)
theorem Z8t (w:World):(Z48 w).heap[w.heap.size]?=some (.cells #[.pointer none] 22 (0,0))∧(Z48 w).heap[w.heap.size + 1]?=some (.cells #[.nilIface] 27 (0,0))∧(Z48 w).heap.size=w.heap.size + 2∧Below w.heap.size w (Z48 w):=by
 have h1:Below w.heap.size w (w.alloc (.cells #[.pointer none] 22)):=(Y8 _ _).alloc (Y5 _) _;have h2:Below (w.alloc (.cells #[.pointer none] 22)).heap.size (w.alloc (.cells #[.pointer none] 22)) (Z48 w):=(Y8 _ _).alloc (Y5 _) _;have e1:(w.alloc (.cells #[.pointer none] 22)).heap.size=w.heap.size + 1:=by simp
 refine ⟨?_,?_,by simp [Z48],h1.alloc (by simp) _⟩;·rw [h2.block w.heap.size (by omega)]; exact heap_alloc_new w _
 ·have:=heap_alloc_new (w.alloc (.cells #[.pointer none] 22)) (.cells #[.nilIface] 27);rw [e1] at this;exact this
theorem Z69 {R:Ending→World→Prop} {tmps:Array Value} {W:World} {pb eb:Nat} {x y:Value} (h2:tmps.getD 2 undef=.pointer (some ⟨pb,0,none⟩)) (h3:tmps.getD 3 undef=.pointer (some ⟨eb,0,none⟩))
 (c1:W.cell? ⟨pb,0,none⟩=some x) (c2:W.cell? ⟨eb,0,none⟩=some y) (hR:R (.returned (.tuple #[x,y])) W):Go.Leaves Tryz.prog Tryz.f9 tmps R [] .returning W:=by
 refine ⟨.tuple #[x,y],?_,hR⟩;have h2':tmps[2]?.getD undef=.pointer (some ⟨pb,0,none⟩):=by simpa using h2
 have h3':tmps[3]?.getD undef=.pointer (some ⟨eb,0,none⟩):=by simpa using h3
 simp [results,Tryz.results9,go_sem,h2',h3',c1,c2]
theorem Z58.bad {w w1 W:World} {c p:Int} {x:Value} (hx:Zkj w1 (w.heap.size + 2) x c p) (hB:Below w.heap.size w w1) (hW:∀ k,k < w1.heap.size→k≠w.heap.size→k≠w.heap.size + 1→W.heap[k]?=w1.heap[k]?) (hs:w1.heap.size≤W.heap.size)
 (ho:W.os=w1.os) (ht:W.tape=w1.tape) (hu:W.output=w1.output):Z58 w (.error (c,p)) (.returned (.tuple #[.pointer none,x])) W:=by
 refine ⟨⟨ho.trans hB.os,ht.trans hB.tape,hu.trans hB.output,Ya hB.size hs,fun k hk=>(hW k (Ye hk hB.size) (by omega) (by omega)).trans (hB.block k hk)⟩,x,rfl,?_⟩;rcases hx with h | ⟨q,hq,b,h1,h2,h3⟩;·exact .inl h
 ·exact .inr ⟨q,hq,b,h1,by omega,(hW b (Y6.1 h3).1 (by omega) (by omega)).trans h3⟩
theorem Zcc (w:World) (text:ByteArray) (c p:Int) (HC:Calls Tryz.prog 30 #[.string text] (Z48 w) fun e w'=>(∃ x,e=.returned (.tuple #[.slice none 0 0,x])∧Zkj w' (Z48 w).heap.size x c p)∧Below (Z48 w).heap.size (Z48 w) w') :
 Calls Tryz.prog 9 #[.string text] w (Z58 w (.error (c,p))):=by
 obtain ⟨k1,k2,k3,k4⟩:=Z8t w;have K1:=lh k1;have K2:=lh k2;have K3:=lh k3;have K4:=lh k4;obtain ⟨w0,hw0⟩:=zX (Z48 w)
 rw [← hw0] at HC K1 K2 K3 K4;unfold Z48 at hw0;have HW0:=lh hw0;have HC:=lh HC;clear hw0 k1 k2 k3 k4;go_enter_defers Tryz.func9,Tryz.ntmps9
 go_wp2_with fail
 rw [← HW0.out];refine HC.out.mono ?_;rintro e w1 ⟨⟨x,rfl,hx⟩,hB⟩;have b1:=(hB.block w.heap.size (by rw [K3.out]; omega)).trans K1.out;have b2:=(hB.block (w.heap.size + 1) (by rw [K3.out]; omega)).trans K2.out;obtain ⟨pb,hpb⟩:=zX w.heap.size
 obtain ⟨eb,heb⟩:=zX (w.heap.size + 1)
 rw [← heb] at b2;rw [← hpb] at b1;rw [← heb,← hpb];have c1:w1.cell? ⟨pb,0,none⟩=some (.pointer none):=by simp [World.cell?,b1]
 have c2:w1.cell? ⟨eb,0,none⟩=some .nilIface:=by simp [World.cell?,b2]
 have z1:w1.frozen? ⟨pb,0,none⟩=false:=by simp [World.frozen?,b1]
 have z2:w1.frozen? ⟨eb,0,none⟩=false:=by simp [World.frozen?,b2]
 have hne:pb≠eb:=by omega
 have hl1:pb < w1.heap.size:=(Y6.1 b1).1;have hl2:eb < w1.heap.size:=(Y6.1 b2).1;have HX:=lh hx;have HB:=lh hB;have HPB:=lh hpb;have HEB:=lh heb;have B1:=lh b1;have B2:=lh b2;obtain ⟨tx,vx,hxx⟩:∃ tx vx,x=.iface tx vx:=by
  rcases hx with ⟨_,rfl⟩ | ⟨q,_,b,rfl,_⟩;·exact ⟨_,_,rfl⟩
  ·exact ⟨_,_,rfl⟩
 subst hxx;clear hx hB hpb heb b1 b2 HC;go_wp2_with fail
 go_region
 go_wp2;refine Z69 (pb:=pb) (eb:=eb) rfl rfl (x:=.pointer none) (y:=.iface tx vx) ?_ ?_ ?_;·go_simp
 ·go_simp
 ·refine Z58.bad (w1 := w1) (by have := HX.out; rwa [K3.out] at this) (K4.out.trans (HB.out.mono K4.out.size)) (fun k hk h1 h2 => ?_) ?_ rfl rfl rfl
  ·rw [← HPB.out] at h1;rw [← HEB.out] at h2;exact ((Yg _ _ _ _ h2).trans (Yg _ _ _ _ h1)).trans (Yg _ _ _ _ h2)
  ·show _≤(World.setCell _ _ _).heap.size;rw [Yn,Yn,Yn];exact Y5 _
theorem Z3m.mono {w:World} {rb rb':Nat} (h:Z3m w rb) (hr:rb≤rb'):Z3m w rb':=by
 intro lv hl;obtain ⟨b,off,cap,h1,h2,h3⟩:=h lv hl;exact ⟨b,off,cap,by omega,by omega,h3⟩
theorem Rd.new {w1 w2:World} {base rb:Nat} {ts:List Tok} {v:Value} (hv:w1.ownsRow base 101 4 v ts.length (ts.flatMap Tok.cells)) (hl:∃ l e,ts=l ++ [e]∧e.kind=6∧∀ t∈l,t.kind≠6)
 (hb:w2.heap[rb]?=some (.cells #[v,.int .i64 0] 76 (0,0))) (hr:rb=w1.heap.size) (hk:∀ k,k < w1.heap.size→v.ownBlock=some k→w2.heap[k]?=w1.heap[k]?) (hs:w1.heap.size≤w2.heap.size) (hL:Z3m w2 rb):Rd w2 rb ts 0:=by
 have hpos:0 < ts.length:=by obtain ⟨l,e,h,_⟩:=hl; rw [h]; simp
 rcases Zb hv with ⟨_,h2⟩ | ⟨g,cap,rfl,h1,h2,h3⟩;·omega
 have hg:g < w1.heap.size:=(hv.lt g rfl).2;refine ⟨g,0,cap,⟨hb,h1,h2,by omega,Ye hg hs,fun k t j x hi hj=>?_,hl,hL⟩⟩;have:=Zeg (f:=Tok.cells) (fun _=>rfl) hv (g:=g) rfl hi hj;rw [Nat.zero_add];exact (Yj (hk g hg rfl)).trans this
theorem Zie (c:Int):IntKind.i64.wrap (IntKind.i64.wrap c + 1)=IntKind.i64.wrap (c + 1):=by
 simp only [IntKind.wrap_i64];omega
def Zce (w4:World) (B mb:Nat) (a:ATree) (c:Nat) (W:World):Prop:=
 TreeAt W B a∧W.heap[mb]?=some (.cells #[.int .i64 (IntKind.i64.wrap c)] 3 (0,0))∧W.os=w4.os∧W.tape=w4.tape∧W.output=w4.output∧w4.heap.size≤W.heap.size∧∀ k,k < w4.heap.size→k≠mb→W.heap[k]?=w4.heap[k]?
def cntG (c:Nat) (x:ATree):Bool×Nat:=(true,c + 1)
mutual
theorem Ze3:∀ (a:ATree) (c:Nat),Z5d cntG a c=c + a.many
 | .mk b v k t n l,c=>by simp only [Z5d,cntG,if_true,ATree.many]; rw [Zcf l]; omega
theorem Zcf:∀ (l:List ATree) (c:Nat),Z1v cntG l c=c + Z1q l
 | [],c=>by simp [Z1v,Z1q]
 | a :: l,c=>by simp only [Z1v,Z1q]; rw [Ze3 a,Zcf l]; omega
end
theorem Zkp (w4:World) (B mb:Nat) (a x:ATree) (hmb:mb < B∨mb ∉ a.blocks) (hml:mb < w4.heap.size) (c:Nat) (w:World) (hI:Zce w4 B mb a c w) :
 Calls Tryz.prog 34 #[x.ptr,.pointer (some ⟨mb,0,none⟩)] w fun e w'=>e=.returned (.bool (cntG c x).1)∧Zce w4 B mb a (cntG c x).2 w':=by
 obtain ⟨h1,h2,h3,h4,h5,h6,h7⟩:=hI;have c1:w.cell? ⟨mb,0,none⟩=some (.int .i64 (IntKind.i64.wrap c)):=by simp [World.cell?,h2]
 have z1:w.frozen? ⟨mb,0,none⟩=false:=by simp [World.frozen?,h2]
 have hn:mb ∉ a.blocks:=by
  rcases hmb with h | h;·intro hx; have:=(h1.has mb hx).1; omega
  ·exact h
 obtain ⟨y,hy⟩:∃ y,y=IntKind.i64.wrap (c:Int):=⟨_,rfl⟩
 rw [← hy] at c1;have H:Hid (Zce w4 B mb a (c + 1) (w.setCell ⟨mb,0,none⟩ (.int .i64 (IntKind.i64.wrap (y + 1))))):=by
  refine lh ⟨h1.keepB fun k hk=>Yg _ _ _ _ (fun e=>hn (by have e':k=mb:=e; rw [← e']; exact hk)),?_,h3,h4,h5,by rw [Yn]; exact h6,fun k hk hne=>(Yg _ _ _ _ hne).trans (h7 k hk hne)⟩;rw [show IntKind.i64.wrap (((c + 1:Nat):Int))=IntKind.i64.wrap (y + 1) by rw [hy,Zie]; rfl];exact Zm (o:=0) _ h2
 unfold ATree.ptr;clear h1 h2 h3 h4 h5 h6 h7 hn hy hmb;go_enter Tryz.func34,Tryz.ntmps34
 go_wp2;go_ret;rw [show wrap64 (y + 1)=IntKind.i64.wrap (y + 1) by simp only [IntKind.wrap_i64,wrap64]];exact ⟨rfl,H.out⟩
def finP:Except (Int×Nat) (Tree×List Tok)→Except (Int×Int) Tree
 | .error (e,p)=>.error (e,p)
 | .ok (t,_)=>if 1500 < t.many then .error (4,-1) else .ok t
theorem Zep (w:World) (text:ByteArray) (hm:text.size≤3000) (hW:Words w) (hL:Z3m w w.heap.size) (ts:List Tok) (ht:Z5s text=.ok ts) :
 Calls Tryz.prog 9 #[.string text] w (Z58 w (Z0g text)):=by
 obtain ⟨k1,k2,k3,k4⟩:=Z8t w;obtain ⟨w0,hw0⟩:=zX (Z48 w)
 rw [← hw0] at k1 k2 k3 k4;have HC:=Zad w0 text hm (hW.below k4);rw [ht] at HC;have HC:=lh HC;have HL:=lh hL;obtain ⟨s1,s2,s3⟩:=Z6k ts 0 (Yp _) (Z76 ht);have S1:=lh s1;have S2:=lh s2;have HM:=lh hm;have HT:=lh ht;have hmf:∀ (fn:Fn) (first cap:Array Value) (w:World),(Instr.makeFunc fn first cap).run Tryz.prog w=.ok (.func fn first cap) w:=fun _ _ _ _=>rfl;obtain ⟨r,hr⟩:∃ r,Z3 (40 * ts.length + 31) (.stmts 1 []) 0 ts=some r:=by
  have:=Zag (40 * ts.length + 31) (.stmts 1 []) 0 ts (by simp only [Job.rank]; omega);cases h:Z3 (40 * ts.length + 31) (.stmts 1 []) 0 ts with
  | none=>exact absurd h this
  | some r=>exact ⟨r,rfl⟩
 have hall:Z0g text=finP r:=by
  unfold Z0g;rw [Y9 (by omega),ht];simp only [hr];rcases r with ⟨e,p⟩ | ⟨t,us⟩ <;> rfl
 have HR:=lh hr;have HALL:=lh hall;have K1:=lh k1;have K2:=lh k2;have K3:=lh k3;have K4:=lh k4;unfold Z48 at hw0;have HW0:=lh hw0;clear hw0 k1 k2 k3 k4 s1 s2 s3 ht hr hall hm hL hW;go_enter_defers Tryz.func9,Tryz.ntmps9
 go_wp2_with fail
 rw [← HW0.out];refine HC.out.mono ?_;rintro e w1 ⟨⟨v,rfl,hv⟩,hB⟩;obtain ⟨vp,vn,vc,hvv⟩:∃ p n c,v=.slice p n c:=by
  rcases Zb hv with ⟨h1,_⟩ | ⟨g,cap,h1,_⟩;·exact ⟨_,_,_,h1⟩
  ·exact ⟨_,_,_,h1⟩
 subst hvv;have b1:=(hB.block w.heap.size (by rw [K3.out]; omega)).trans K1.out;have b2:=(hB.block (w.heap.size + 1) (by rw [K3.out]; omega)).trans K2.out;obtain ⟨pb,hpb⟩:=zX w.heap.size
 obtain ⟨eb,heb⟩:=zX (w.heap.size + 1)
 rw [← heb] at b2;rw [← hpb] at b1;rw [← heb,← hpb];have hne:pb≠eb:=by omega
 have c1:w1.cell? ⟨pb,0,none⟩=some (.pointer none):=by simp [World.cell?,b1]
 have c2:w1.cell? ⟨eb,0,none⟩=some .nilIface:=by simp [World.cell?,b2]
 have z1:w1.frozen? ⟨pb,0,none⟩=false:=by simp [World.frozen?,b1]
 have z2:w1.frozen? ⟨eb,0,none⟩=false:=by simp [World.frozen?,b2]
 have hl1:pb < w1.heap.size:=(Y6.1 b1).1;have hl2:eb < w1.heap.size:=(Y6.1 b2).1;have B01:=lh (K4.out.trans (hB.mono K4.out.size));have HV:=lh hv;have HPB:=lh hpb;have HEB:=lh heb;have BB1:=lh b1;have BB2:=lh b2;obtain ⟨w2,hw2⟩:=zX ((w1.setCell ⟨eb,0,none⟩ .nilIface).alloc (.cells #[.slice vp vn vc,.int .i64 0] 76))
 obtain ⟨rb,hrb⟩:=zX w1.heap.size
 have hs1:(w1.setCell ⟨eb,0,none⟩ .nilIface).heap.size=rb:=by rw [hrb]; exact Yn ..
 have hs2:w2.heap.size=rb + 1:=by rw [hw2]; simp [hrb]
 have far2:∀ k,k < rb→k≠eb→w2.heap[k]?=w1.heap[k]?:=fun k hk hn=>by
  rw [hw2];exact (Below.heap_alloc _ _ _ (by rw [hs1]; exact hk)).trans (Yg _ _ _ _ hn)
 have e2:w2.heap[eb]?=some (.cells #[.nilIface] 27 (0,0)):=by
  rw [hw2];exact (Below.heap_alloc _ _ _ (by rw [hs1]; omega)).trans (Zm (o:=0) .nilIface b2)
 have r2:w2.heap[rb]?=some (.cells #[.slice vp vn vc,.int .i64 0] 76 (0,0)):=by
  rw [hw2,← hs1]; exact heap_alloc_new _ _
 have hlev:Z3m w2 rb:=by
  refine (HL.out.keep (w':=w2) fun k hk=>?_).mono (by have:=B01.out.size; omega);exact (far2 k (by have:=B01.out.size; omega) (by omega)).trans (B01.out.block k hk)
 have hvb:∀ k,(Value.slice vp vn vc).ownBlock=some k→k≠eb:=fun k hk=>by have:=(hv.lt k hk).1; rw [K3.out] at this; omega
 have hrd:Rd w2 rb ts 0:=Rd.new hv S1.out r2 hrb (fun k hk hk2=>far2 k (by omega) (hvb k hk2)) (by omega) hlev;have hP:Pre w2 rb w2.heap.size 0 ts:=⟨hrd,by omega,by omega,Y5 _,by have:=S2.out; have:=HM.out; omega⟩
 have HS:=Zj1 _ w2 rb w2.heap.size 0 ts r hP HR.out;simp only at HS;have HS:=lh HS;have FAR2:=lh far2;have E2:=lh e2;have HW2:=lh hw2;have HRB:=lh hrb;have HS2:=lh hs2;have p2:=(FAR2.out pb (by omega) hne).trans b1;have PP2:=lh p2;have RFR2:=lh (show w2.os=w1.os∧w2.tape=w1.tape∧w2.output=w1.output by rw [hw2]; exact ⟨rfl,rfl,rfl⟩);clear hB hv hpb heb b1 b2 HC hw2 hrb hs1 hs2 far2 e2 r2 hlev hvb hrd hP p2;go_wp2_with fail
 rw [← HW2.out,← HRB.out];refine HS.out.mono ?_;have BW2:Hid (∀ k,k < w.heap.size→w2.heap[k]?=w.heap[k]?):=lh fun k hk=>(FAR2.out k (by have:=B01.out.size; have:=HRB.out; omega) (by have:=HEB.out; omega)).trans (B01.out.block k hk);have SZ:Hid (w.heap.size + 2≤rb):=lh (by have:=HEB.out; have:=HRB.out; omega);rcases r with ⟨c,p⟩ | ⟨t,us⟩
 ·rintro e w3 ⟨⟨b, rfl, h1, h2⟩, hF⟩;have p3 := (hF.block pb (by have := HS2.out; have := HRB.out; omega) (by have := SZ.out; have := HPB.out; omega)).trans PP2.out;have e3 := (hF.block eb (by have := HS2.out; have := HRB.out; omega) (by have := SZ.out; have := HEB.out; omega)).trans E2.out;have H1 := lh h1;have H2 := lh h2;have FF := lh hF;rw [HALL.out];clear h1 h2 hF HS;refine leaves_cons (f := 31) (args := #[.pointer (some ⟨pb, 0, none⟩), .pointer (some ⟨eb, 0, none⟩)]) (by simp) (by simp [go_sem]) ?_;refine (Zd5 pb eb b [] w3 _ _ p3 e3 hne).mono ?_;rintro e u' w4 ⟨rfl, rfl, hCP⟩
  obtain ⟨q1,q2,q3,q4,q5,q6,q7⟩:=hCP;show Go.Leaves _ _ _ _ [] .returning _;refine Z69 (pb:=pb) (eb:=eb) rfl rfl (x:=.pointer none) (y:=.iface 102 (.pointer (some ⟨b,0,none⟩))) (by simp [World.cell?,q1]) (by simp [World.cell?,q2]) ?_;have hsz:=FF.out.size;have hb3:b < w3.heap.size:=(Y6.1 H2.out).1;have hbb:=H1.out;refine ⟨⟨?_,?_,?_,?_,fun k hk=>?_⟩,.iface 102 (.pointer (some ⟨b,0,none⟩)),rfl,.inr ⟨p,rfl,b,rfl,?_,?_⟩⟩;·exact q3.trans (FF.out.os.trans (RFR2.out.1.trans B01.out.os))
  ·exact q4.trans (FF.out.tape.trans (RFR2.out.2.1.trans B01.out.tape))
  ·exact q5.trans (FF.out.output.trans (RFR2.out.2.2.trans B01.out.output))
  ·have:=HS2.out; have:=SZ.out; omega
  ·have h2:=HS2.out; have h3:=SZ.out; have h4:=HPB.out; have h5:=HEB.out;exact (q7 k (by omega) (by omega) (by omega)).trans ((FF.out.block k (by omega) (by omega)).trans (BW2.out k hk))
  ·have:=HS2.out; have:=SZ.out; omega
  ·have h2:=HS2.out; have h3:=SZ.out; have h4:=HPB.out; have h5:=HEB.out;exact (q7 b hb3 (by omega) (by omega)).trans H2.out
 ·rintro e w3 ⟨a, rfl, hG, hR3, hF⟩;have h2 := HS2.out; have h3 := SZ.out; have h4 := HPB.out; have h5 := HEB.out; have h6 := HRB.out;have p3 := (hF.block pb (by omega) (by omega)).trans PP2.out;have e3 := (hF.block eb (by omega) (by omega)).trans E2.out;have hsz := hF.size;obtain ⟨mb, hmb⟩ := zX w3.heap.size
  obtain ⟨w4,hw4⟩:=zX ((w3.setCell ⟨pb,0,none⟩ (.pointer (some ⟨a.b,0,none⟩))).alloc (.cells #[.int .i64 0] 3))
  have hs3:(w3.setCell ⟨pb,0,none⟩ (.pointer (some ⟨a.b,0,none⟩))).heap.size=mb:=by rw [hmb]; exact Yn ..
  have hs4:w4.heap.size=mb + 1:=by rw [hw4]; simp [hmb]
  have far4:∀ k,k < mb→k≠pb→w4.heap[k]?=w3.heap[k]?:=fun k hk hn=>by
   rw [hw4];exact (Below.heap_alloc _ _ _ (by rw [hs3]; exact hk)).trans (Yg _ _ _ _ hn)
  have p4:w4.heap[pb]?=some (.cells #[.pointer (some ⟨a.b,0,none⟩)] 22 (0,0)):=by
   rw [hw4];exact (Below.heap_alloc _ _ _ (by rw [hs3]; omega)).trans (Zm (o:=0) _ p3)
  have m4:w4.heap[mb]?=some (.cells #[.int .i64 0] 3 (0,0)):=by
   rw [hw4,← hs3]; exact heap_alloc_new _ _
  have hT4:TreeAt w4 w2.heap.size a:=hG.at'.keepB fun k hk=>far4 k (by have:=(hG.new k hk).2; omega) (by have:=(hG.new k hk).1; omega);have hI:Zce w4 w2.heap.size mb a 0 w4:=⟨hT4,m4,rfl,rfl,rfl,Y5 _,fun _ _ _=>rfl⟩
  have hmn:mb ∉ a.blocks:=fun hx=>by have:=(hG.new mb hx).2; omega
  have HWK:=Zkr ⟨mb,0,none⟩ (Zce w4 w2.heap.size mb a) cntG w2.heap.size a.many a (Y5 _) (fun s W h=>h.1) (fun x hx s W h=>Zkp w4 w2.heap.size mb a x (.inr hmn) (by omega) s W h) 0 w4 hI;unfold ATree.ptr at HWK;rw [Ze3,Nat.zero_add,← Z5c,hG.tree] at HWK;have HWK:=lh HWK;have c3:w3.cell? ⟨pb,0,none⟩=some (.pointer none):=by simp [World.cell?,p3]
  have z3:w3.frozen? ⟨pb,0,none⟩=false:=by simp [World.frozen?,p3]
  have hpl3:pb < w3.heap.size:=by omega
  have HG:=lh hG;have FF:=lh hF;have HW4:=lh hw4;have HMB:=lh hmb;have HS4:=lh hs4;have FAR4:=lh far4;have P4:=lh p4;have E3:=lh e3;have hmany:t.many≤6100:=by
   have:=Zap _ _ _ _ _ _ HR.out;simp only [Job.base,Z42] at this;have:=S2.out; have:=HM.out;omega
  have RF4:=lh (show w4.os=w3.os∧w4.tape=w3.tape∧w4.output=w3.output by rw [hw4]; exact ⟨rfl,rfl,rfl⟩);clear hG hR3 hF hw4 hmb hs3 hs4 far4 p4 m4 hT4 hI hmn p3 e3 h2 h3 h4 h5 h6 hsz HS;go_wp2_with fail
  rw [← HW4.out,← HMB.out];refine HWK.out.mono ?_;rintro e w5 ⟨rfl,i1,i2,i3,i4,i5,i6,i7⟩;rw [show IntKind.i64.wrap ((t.many:Nat):Int)=(t.many:Int) by simp only [IntKind.wrap_i64]; omega] at i2;have h2:=HS2.out; have h3:=SZ.out; have h4:=HPB.out; have h5:=HEB.out; have h6:=HRB.out; have h7:=HS4.out; have h8:=HMB.out; have h9:=FF.out.size;have p5:=(i7 pb (by omega) (by omega)).trans P4.out;have e5:=(i7 eb (by omega) (by omega)).trans ((FAR4.out eb (by omega) (by omega)).trans E3.out)
  have cm:w5.cell? ⟨mb,0,none⟩=some (.int .i64 (t.many:Int)):=by simp [World.cell?,i2]
  have cp:w5.cell? ⟨pb,0,none⟩=some (.pointer (some ⟨a.b,0,none⟩)):=by simp [World.cell?,p5]
  have ce:w5.cell? ⟨eb,0,none⟩=some .nilIface:=by simp [World.cell?,e5]
  have zp:w5.frozen? ⟨pb,0,none⟩=false:=by simp [World.frozen?,p5]
  have ze:w5.frozen? ⟨eb,0,none⟩=false:=by simp [World.frozen?,e5]
  have hl5:pb < w5.heap.size:=by omega
  have hl6:eb < w5.heap.size:=by omega
  have fin:Hid (∀ (W:World) (x y:Value),W=(w5.setCell ⟨pb,0,none⟩ x).setCell ⟨eb,0,none⟩ y→Below w.heap.size w W∧Got w w.heap.size W a t):=by
   refine lh fun W x y hW=>?_;have hsW:W.heap.size=w5.heap.size:=by rw [hW,Yn,Yn]
   have farW:∀ k,k≠pb→k≠eb→W.heap[k]?=w5.heap[k]?:=fun k h1 h2=>by rw [hW]; exact (Yg _ _ _ _ h2).trans (Yg _ _ _ _ h1)
   have farA:∀ k,k < mb→k≠pb→k≠eb→W.heap[k]?=w3.heap[k]?:=fun k hk h1 h2=>(farW k h1 h2).trans ((i7 k (by omega) (by omega)).trans (FAR4.out k (by omega) h1));have o1:W.os=w5.os∧W.tape=w5.tape∧W.output=w5.output:=by rw [hW]; exact ⟨rfl,rfl,rfl⟩
   refine ⟨⟨?_,?_,?_,by omega,fun k hk=>?_⟩,⟨HG.out.tree,?_,HG.out.nodup,fun z hz=>?_⟩⟩;·exact o1.1.trans (i3.trans (RF4.out.1.trans (FF.out.os.trans (RFR2.out.1.trans B01.out.os))))
   ·exact o1.2.1.trans (i4.trans (RF4.out.2.1.trans (FF.out.tape.trans (RFR2.out.2.1.trans B01.out.tape))))
   ·exact o1.2.2.trans (i5.trans (RF4.out.2.2.trans (FF.out.output.trans (RFR2.out.2.2.trans B01.out.output))))
   ·exact (farA k (by omega) (by omega) (by omega)).trans ((FF.out.block k (by omega) (by omega)).trans (BW2.out k hk))
   ·refine (HG.out.at'.keepB fun k hk=>?_).base (by omega);have:=HG.out.new k hk;exact farA k (by omega) (by omega) (by omega)
   ·have:=HG.out.new z hz; omega
  have HALL2:Z0g text=if 1500 < t.many then .error (4,-1) else .ok t:=HALL.out;clear i1 i2 i3 i4 i5 i6 i7 p5 e5 h2 h3 h4 h5 h6 h7 h8 h9 HWK;by_cases hbig:1500 < t.many
  ·rw [Yb hbig] at HALL2;have hb : decide ((t.many : Int) > 1500) = true := by simp; omega
   have HA:=lh HALL2;clear HALL2 hbig;go_wp2_with fail
   refine leaves_cons (f:=31) (args:=#[.pointer (some ⟨pb,0,none⟩),.pointer (some ⟨eb,0,none⟩)]) (by simp) (by simp [go_sem]) ?_;refine (Zab ⟨pb,0,none⟩ ⟨eb,0,none⟩ _).mono ?_;rintro e u' w6 ⟨rfl,rfl,rfl⟩;show Go.Leaves _ _ _ _ [] .returning _;refine Z69 (pb:=pb) (eb:=eb) rfl rfl (x:=.pointer none) (y:=.iface 29 (.int .i64 4)) (by go_simp) (by go_simp) ?_;rw [HA.out];have hf:=fin.out _ (.pointer none) (.iface 29 (.int .i64 4)) rfl;exact ⟨hf.1,_,rfl,.inl ⟨rfl,rfl⟩⟩
  ·rw [Y9 hbig] at HALL2;have hb : decide ((t.many : Int) > 1500) = false := by simp; omega
   have HA:=lh HALL2;clear HALL2 hbig;go_wp2_with fail
   refine leaves_cons (f:=31) (args:=#[.pointer (some ⟨pb,0,none⟩),.pointer (some ⟨eb,0,none⟩)]) (by simp) (by simp [go_sem]) ?_;refine (Zab ⟨pb,0,none⟩ ⟨eb,0,none⟩ _).mono ?_;rintro e u' w6 ⟨rfl,rfl,rfl⟩;show Go.Leaves _ _ _ _ [] .returning _;refine Z69 (pb:=pb) (eb:=eb) rfl rfl (x:=.pointer (some ⟨a.b,0,none⟩)) (y:=.nilIface) (by go_simp) (by go_simp) ?_;rw [HA.out];have hf:=fin.out _ (.pointer (some ⟨a.b,0,none⟩)) (.nilIface) rfl;exact ⟨hf.1,a,rfl,hf.2⟩
theorem Zh1 (w:World) (text:ByteArray) (hW:Words w) (hL:Z3m w w.heap.size) :
 Calls Tryz.prog 9 #[.string text] w (Z58 w (Z0g text)):=by
 have k4:=(Z8t w).2.2.2;by_cases hm:3000 < text.size
 ·have e : Z0g text = .error (4, -1) := by unfold Z0g; rw [Yb hm]
  rw [e];exact Zcc w text 4 (-1) ((Zdf (Z48 w) text hm).mono fun e w' ⟨h1,h2⟩=>by subst h1; subst h2; exact ⟨⟨_,rfl,.inl ⟨rfl,rfl⟩⟩,Y8 _ _⟩)
 ·cases ht : Z5s text with
  | ok ts=>exact Zep w text (by omega) hW hL ts ht
  | error x =>
    obtain ⟨c,p⟩:=x;have e:Z0g text=.error (c,(p:Int)):=by unfold Z0g; rw [Y9 hm,ht]
    rw [e];have HC:=Zad (Z48 w) text (by omega) (hW.below k4);rw [ht] at HC;exact Zcc w text c p (HC.mono fun e w' ⟨⟨x,h1,h2⟩,h3⟩=>⟨⟨x,h1,.inr ⟨p,rfl,h2⟩⟩,h3⟩)
end Go.Proofs.YtajomcjaljakhaaGreatDoor
namespace Go.Proofs.YtajomcjaljakhaaGreatDoor
open Go.RowKit Go.Extern.Stop Go.Stop Go.Extern
set_option maxRecDepth 100000
set_option maxHeartbeats 20000000
theorem Tryz.valueOf27 (t:Addr) (w:World):(ReflectliteValue.unpack (.iface 133 (.pointer (some t)))).run Tryz.prog w
 = .ok (.agg #[.pointer (some ⟨11,133,none⟩),.pointer (some ⟨w.heap.size,0,none⟩),.int .u64 150]) (w.alloc (.cells #[.pointer (some t)] 133)):=by kernel_rfl
theorem Tryz.type27 (a : Addr) (w : World) : (ReflectliteValue.methodAny (ReflectliteValue.valueError "reflectlite.Value.Type" 0) (fun t _ _ _ => ReflectliteType.toType t) #[.agg #[.pointer (some ⟨11, 133, none⟩), .pointer (some a), .int .u64 150]]).run Tryz.prog w
 = .ok (.iface 164 (.agg #[.pointer (some ⟨11,133,none⟩)])) w:=by kernel_rfl
theorem Tryz.methodKind (h : Value) (w : World) : (Go.method 323 164 (.agg #[h]) "Kind").run Tryz.prog w = .ok (171, h) w := by kernel_rfl
theorem Tryz.kind27 (w:World):((ReflectliteType.abiMethod fun t=>(fun a:Nat=>Value.int IntKind.u8 (a:Int)) <$> Rtype.kind t) #[.pointer (some ⟨11,133,none⟩)]).run Tryz.prog w=.ok (.int .u8 22) w:=by kernel_rfl
theorem Tryz.kind25 (w:World):((ReflectliteType.abiMethod fun t=>(fun a:Nat=>Value.int IntKind.u8 (a:Int)) <$> Rtype.kind t) #[.pointer (some ⟨11,29,none⟩)]).run Tryz.prog w=.ok (.int .u8 2) w:=by kernel_rfl
theorem rlm (z:Sem Value) (f:TypeId→Addr→Nat→Nat→Sem Value) (v:Value) :
 ReflectliteValue.method z f #[v]=(do match ← ReflectliteValue.parts v with | none=>z | some (t,a,fl)=>f t a fl (fl % 32)):=rfl
theorem Tryz.parts27 (a:Addr) (w:World):(ReflectliteValue.parts (.agg #[.pointer (some ⟨11,133,none⟩),.pointer (some a),.int .u64 150])).run Tryz.prog w=.ok (some (133,a,150)) w:=by kernel_rfl
theorem Tryz.isNil27 (a p:Addr) (W:World) (ha:W.cell? a=some (.pointer (some p))) :
 (ReflectliteValue.method (ReflectliteValue.valueError "reflectlite.Value.IsNil" 0) ReflectliteValue.isNil #[.agg #[.pointer (some ⟨11, 133, none⟩), .pointer (some a), .int .u64 150]]).run Tryz.prog W = .ok (.bool false) W := by
 rw [rlm];simp only [Sem.run_bind,Tryz.parts27,Result.andThen];simp [ReflectliteValue.isNil,loadVar,isAgg,underlying,Tryz.underlying133,ha,Result.andThen]
theorem Tryz.methodElem (h : Value) (w : World) : (Go.method 323 164 (.agg #[h]) "Elem").run Tryz.prog w = .ok (187, .agg #[h]) w := by kernel_rfl
theorem Tryz.methodImplements (h : Value) (w : World) : (Go.method 323 164 (.agg #[h]) "Implements").run Tryz.prog w = .ok (188, .agg #[h]) w := by kernel_rfl
theorem Tryz.methodAssignableTo (h : Value) (w : World) : (Go.method 323 164 (.agg #[h]) "AssignableTo").run Tryz.prog w = .ok (185, .agg #[h]) w := by kernel_rfl
theorem Tryz.elem27 (w:World):(ReflectliteType.method ReflectliteType.elem #[.agg #[.pointer (some ⟨11,133,none⟩)]]).run Tryz.prog w=.ok (.iface 164 (.agg #[.pointer (some ⟨11,29,none⟩)])) w:=by kernel_rfl
theorem Tryz.implements25 (w : World) : (ReflectliteType.relation "Implements" ReflectliteType.implements_ #[.agg #[.pointer (some ⟨11, 29, none⟩)], .iface 164 (.agg #[.pointer (some ⟨11, 27, none⟩)])]).run Tryz.prog w = .ok (.bool true) w := by kernel_rfl
theorem Tryz.typeOf25 (v:Value) (w:World):(ReflectliteType.typeOf #[.iface 29 v]).run Tryz.prog w=.ok (.iface 164 (.agg #[.pointer (some ⟨11,29,none⟩)])) w:=by kernel_rfl
theorem Tryz.assignable25 (w : World) : (ReflectliteType.relation "AssignableTo" ReflectliteType.assignableTo #[.agg #[.pointer (some ⟨11, 29, none⟩)], .iface 164 (.agg #[.pointer (some ⟨11, 29, none⟩)])]).run Tryz.prog w = .ok (.bool true) w := by kernel_rfl
theorem Tryz.valueOf25 (e:Int) (w:World):(ReflectliteValue.unpack (.iface 29 (.int .i64 e))).run Tryz.prog w
 = .ok (.agg #[.pointer (some ⟨11,29,none⟩),.pointer (some ⟨w.heap.size,0,none⟩),.int .u64 130]) (w.alloc (.cells #[.int .i64 e] 29)):=by kernel_rfl
theorem Tryz.elemOf27 (w:World):(Rtype.elem? 133).run Tryz.prog w=.ok (some 29) w:=by kernel_rfl
theorem Tryz.mk25 (p:Addr) (w:World):(ReflectliteValue.mk 29 p ReflectliteValue.flagAddr).run Tryz.prog w=.ok (.agg #[.pointer (some ⟨11,29,none⟩),.pointer (some p),.int .u64 386]) w:=by kernel_rfl
theorem Tryz.elemV27 (a p:Addr) (W:World) (ha:W.cell? a=some (.pointer (some p))) :
 (ReflectliteValue.method (ReflectliteValue.valueError "reflectlite.Value.Elem" 0) ReflectliteValue.elem #[.agg #[.pointer (some ⟨11, 133, none⟩), .pointer (some a), .int .u64 150]]).run Tryz.prog W
  = .ok (.agg #[.pointer (some ⟨11,29,none⟩),.pointer (some p),.int .u64 386]) W:=by
 rw [rlm];simp only [Sem.run_bind,Tryz.parts27,Result.andThen];simp [ReflectliteValue.elem,loadVar,isAgg,underlying,Tryz.underlying133,ha,Result.andThen,Tryz.elemOf27,Tryz.mk25]
theorem rls (v x:Value):ReflectliteValue.set #[v,x]=(do
 let (some (dst,a,fl),some (src,b,_)):=(← ReflectliteValue.parts v,← ReflectliteValue.parts x)
  | unsupported (.noEntry "extern/(internal/reflectlite.Value).Set.zeroValue")
 if fl / ReflectliteValue.flagAddr % 2 == 0 then unsupported (.noEntry "extern/(internal/reflectlite.Value).Set.unaddressable")
 let val ← loadVar src b
 if ← Rtype.directlyAssignable dst src then storeVar dst a val
 else if ← Rtype.implements dst src then
  if (← Rtype.kind src) == 20 then
   match val with
   | .nilIface => unsupported (.noEntry "extern/reflectlite: a nil value of one interface type handed on as a value of another")
   | _=>storeVar dst a val
  else storeVar dst a (.iface src val)
 else panicString ("reflectlite.Set: value of type " ++ (← Rtype.spelt src) ++ " is not assignable to type " ++ (← Rtype.spelt dst))
 pure (.tuple #[])):=rfl
theorem Tryz.parts25a (a:Addr) (w:World):(ReflectliteValue.parts (.agg #[.pointer (some ⟨11,29,none⟩),.pointer (some a),.int .u64 386])).run Tryz.prog w=.ok (some (29,a,386)) w:=by kernel_rfl
theorem Tryz.parts25 (a:Addr) (w:World):(ReflectliteValue.parts (.agg #[.pointer (some ⟨11,29,none⟩),.pointer (some a),.int .u64 130])).run Tryz.prog w=.ok (some (29,a,130)) w:=by kernel_rfl
theorem Tryz.direct25 (w:World):(Rtype.directlyAssignable 29 29).run Tryz.prog w=.ok true w:=by kernel_rfl
theorem Tryz.set25 (ta b:Addr) (e:Int) (old:Value) (W:World) (hb:W.cell? b=some (.int .i64 e)) (ht:W.cell? ta=some old) (hf:W.frozen? ta=false) :
 (ReflectliteValue.set #[.agg #[.pointer (some ⟨11, 29, none⟩), .pointer (some ta), .int .u64 386], .agg #[.pointer (some ⟨11, 29, none⟩), .pointer (some b), .int .u64 130]]).run Tryz.prog W
  = .ok (.tuple #[]) (W.setCell ta (.int .i64 e)):=by
 rw [rls];simp only [Sem.run_bind,Tryz.parts25a,Tryz.parts25,Result.andThen];simp [ReflectliteValue.flagAddr,loadVar,isAgg,underlying,Tryz.underlying29,hb,Result.andThen,Tryz.direct25,storeVar,Value.cells,storeCells,Addr.add];rw [run_store Tryz.prog W ta _ _ (by rfl)];simp [ht,hf]
theorem Zm5 (e:Int) (t:Addr) (old:Value) (w:World) (hg:w.cell? ⟨3,0,none⟩=some (.iface 164 (.agg #[.pointer (some ⟨11,27,none⟩)]))) (ht0:w.cell? t=some old) (hf0:w.frozen? t=false) :
 Calls Tryz.prog 110 #[.iface 29 (.int .i64 e),.iface 133 (.pointer (some t))] w fun ev w'=>ev=.returned (.bool true)∧w'=((((w.alloc (.cells #[.pointer (some t)] 133)).alloc (.cells #[.pointer (some ⟨11,133,none⟩),.pointer (some ⟨w.heap.size,0,none⟩),.int .u64 150] 144)).alloc (.cells #[.pointer (some ⟨11,133,none⟩),.pointer (some ⟨w.heap.size,0,none⟩),.int .u64 150] 144)).alloc (.cells #[.int .i64 e] 29)).setCell t (.int .i64 e):=by
 have h6 := @run_callFunc_extern Tryz.prog 121 _ (fun args => ReflectliteValue.unpack (args.getD 0 (.tuple #[]))) Tryz.func121 (by kernel_rfl) (by kernel_rfl) (by kernel_rfl) (by kernel_rfl);have h7 := @run_callFunc_extern Tryz.prog 122 _ (ReflectliteValue.methodAny (ReflectliteValue.valueError "reflectlite.Value.Type" 0) (fun t _ _ _ => ReflectliteType.toType t)) Tryz.func122 (by kernel_rfl) (by kernel_rfl) (by kernel_rfl) (by kernel_rfl)
 have h8 := @run_callFunc_extern Tryz.prog 123 _ (ReflectliteValue.method (ReflectliteValue.valueError "reflectlite.Value.IsNil" 0) ReflectliteValue.isNil) Tryz.func123 (by kernel_rfl) (by kernel_rfl) (by kernel_rfl) (by kernel_rfl)
 have h27 := @run_callFunc_extern Tryz.prog 171 _ (ReflectliteType.abiMethod fun t => do pure (.int .u8 (← Rtype.kind t))) Tryz.func171 (by kernel_rfl) (by kernel_rfl) (by kernel_rfl) (by kernel_rfl);have h37 := @run_callFunc_extern Tryz.prog 187 _ (ReflectliteType.method ReflectliteType.elem) Tryz.func187 (by kernel_rfl) (by kernel_rfl) (by kernel_rfl) (by kernel_rfl);have h38 := @run_callFunc_extern Tryz.prog 188 _ (ReflectliteType.relation "Implements" ReflectliteType.implements_) Tryz.func188 (by kernel_rfl) (by kernel_rfl) (by kernel_rfl) (by kernel_rfl)
 have h10 := @run_callFunc_extern Tryz.prog 133 _ ReflectliteType.typeOf Tryz.func133 (by kernel_rfl) (by kernel_rfl) (by kernel_rfl) (by kernel_rfl);have h35 := @run_callFunc_extern Tryz.prog 185 _ (ReflectliteType.relation "AssignableTo" ReflectliteType.assignableTo) Tryz.func185 (by kernel_rfl) (by kernel_rfl) (by kernel_rfl) (by kernel_rfl)
 have h11 := @run_callFunc_extern Tryz.prog 134 _ (ReflectliteValue.method (ReflectliteValue.valueError "reflectlite.Value.Elem" 0) ReflectliteValue.elem) Tryz.func134 (by kernel_rfl) (by kernel_rfl) (by kernel_rfl) (by kernel_rfl)
 have h12:=@run_callFunc_extern Tryz.prog 135 _ ReflectliteValue.set Tryz.func135 (by kernel_rfl) (by kernel_rfl) (by kernel_rfl) (by kernel_rfl);have tO:=Tryz.typeOf25;have mA:=Tryz.methodAssignableTo;have a25:=Tryz.assignable25;have v25:=Tryz.valueOf25;have f6:=Tryz.valueOf27;have f7:=Tryz.type27;have mK:=Tryz.methodKind;have mE:=Tryz.methodElem;have mI:=Tryz.methodImplements;have k27:=Tryz.kind27;have k25:=Tryz.kind25;have e27:=Tryz.elem27;have i25:=Tryz.implements25
 have n8:=Tryz.isNil27 ⟨w.heap.size,0,none⟩ t ((w.alloc (.cells #[.pointer (some t)] 133)).alloc (.cells #[.pointer (some ⟨11,133,none⟩),.pointer (some ⟨w.heap.size,0,none⟩),.int .u64 150] 144)) (by simp);have hlt:3 < w.heap.size:=by
  rcases Nat.lt_or_ge 3 w.heap.size with h | h;·exact h
  ·simp [World.cell?,Array.getElem?_eq_none h] at hg
 have hg2:((w.alloc (.cells #[.pointer (some t)] 133)).alloc (.cells #[.pointer (some ⟨11,133,none⟩),.pointer (some ⟨w.heap.size,0,none⟩),.int .u64 150] 144)).cell? ⟨3,0,none⟩=some (.iface 164 (.agg #[.pointer (some ⟨11,27,none⟩)])):=by
  rw [World.cell?_alloc_lt _ _ ⟨3,0,none⟩ (by simp; omega),World.cell?_alloc_lt _ _ ⟨3,0,none⟩ hlt]; exact hg
 have htl:t.block < w.heap.size:=by
  rcases Nat.lt_or_ge t.block w.heap.size with h | h;·exact h
  ·simp [World.cell?,Array.getElem?_eq_none h] at ht0
 have el:=Tryz.elemV27 ⟨w.heap.size,0,none⟩ t (((w.alloc (.cells #[.pointer (some t)] 133)).alloc (.cells #[.pointer (some ⟨11,133,none⟩),.pointer (some ⟨w.heap.size,0,none⟩),.int .u64 150] 144)).alloc (.cells #[.pointer (some ⟨11,133,none⟩),.pointer (some ⟨w.heap.size,0,none⟩),.int .u64 150] 144)) (by rw [World.cell?_alloc_lt _ _ ⟨w.heap.size,0,none⟩ (by simp; omega)]; simp)
 have st:=Tryz.set25 t ⟨w.heap.size + 1 + 1 + 1,0,none⟩ e old ((((w.alloc (.cells #[.pointer (some t)] 133)).alloc (.cells #[.pointer (some ⟨11,133,none⟩),.pointer (some ⟨w.heap.size,0,none⟩),.int .u64 150] 144)).alloc (.cells #[.pointer (some ⟨11,133,none⟩),.pointer (some ⟨w.heap.size,0,none⟩),.int .u64 150] 144)).alloc (.cells #[.int .i64 e] 29))
  (by rw [World.cell?_alloc_at _ _ _ _ (by simp)]; rfl)
  (by rw [World.cell?_alloc_lt _ _ t (by simp; omega),World.cell?_alloc_lt _ _ t (by simp; omega),World.cell?_alloc_lt _ _ t (by simp; omega),World.cell?_alloc_lt _ _ t htl]; exact ht0)
  (by rw [World.frozen?_alloc_old _ _ t (by simp; omega),World.frozen?_alloc_old _ _ t (by simp; omega),World.frozen?_alloc_old _ _ t (by simp; omega),World.frozen?_alloc_old _ _ t (Nat.ne_of_lt htl)]; exact hf0)
 go_enter Tryz.func110,Tryz.ntmps110
 go_wp2;refine wp_loop_rounds 1 ?_;rw [rounds_succ];go_wp2;go_ret;exact ⟨rfl,rfl⟩
end Go.Proofs.YtajomcjaljakhaaGreatDoor
namespace Go.Proofs.YtajomcjaljakhaaGreatDoor
open Go Go.RowKit
set_option maxRecDepth 100000
set_option maxHeartbeats 20000000
def Z3p (w:World):Prop:=w.cell? ⟨3,0,none⟩=some (.iface 164 (.agg #[.pointer (some ⟨11,27,none⟩)]))
theorem Z3p.lt {w:World} (h:Z3p w):3 < w.heap.size:=by
 rcases Nat.lt_or_ge 3 w.heap.size with h' | h';·exact h'
 ·simp [Z3p,World.cell?,Array.getElem?_eq_none h'] at h
theorem Z3p.below {w w':World} (h:Z3p w) (hB:Below w.heap.size w w'):Z3p w':=(hB.cell (p:=⟨3,0,none⟩) h.lt).trans h
theorem Ze8 (w:World) (c:Int) (hg:Z3p w) :
 Calls Tryz.prog 76 #[errV c] w fun e w'=>e=.returned (.int .i64 c)∧Below w.heap.size w w':=by
 by_cases hc:c=0
 ·subst hc;simp only [errV, if_true];go_enter Tryz.func76, Tryz.ntmps76
  go_wp2;go_ret;exact ⟨rfl,Y8 _ _⟩
 ·simp only [errV, if_neg hc];have hlt := hg.lt;have hit := lh (Zm5 c ⟨w.heap.size, 0, none⟩ (.int .i64 0) (w.alloc (.cells #[.int .i64 0] 29)) ((Z5 (p := ⟨3, 0, none⟩) hlt).trans hg) (World.cell?_alloc_new _ _ _ 0) (World.frozen?_alloc_new _ _ _ _));clear hg;go_enter Tryz.func76, Tryz.ntmps76
  go_wp2_with fail
  refine hit.out.mono ?_;rintro e w1 ⟨rfl,hw1⟩;have hB:Below w.heap.size w w1:=by
   rw [hw1];refine Below.setCell ?_ (by simp) _;repeat (refine Below.alloc ?_ (by simp; try omega) _)
   exact Y8 _ _
  have hx:w1.cell? ⟨w.heap.size,0,none⟩=some (.int .i64 c):=by
   rw [hw1];rw [World.cell?_setCell_same'];rw [Z5 (by simp; omega),Z5 (by simp; omega),Z5 (by simp; omega),Z5 (by simp)];rw [World.cell?_alloc_new];rfl
  have HB:=lh hB;clear hB hw1 hit;go_wp2;go_ret;exact ⟨rfl,HB.out⟩
end Go.Proofs.YtajomcjaljakhaaGreatDoor
