/- Package tree: Parse. -/
import Derived.Test.YtjcgkdfeplbajaaGreatDoorJ22
import Derived.Recover
import Derived.Stop.Asserts
import Derived.Outline
namespace Go.Proofs.YtjcgkdfeplbajaaGreatDoor
open Go Go.RowKit
set_option maxRecDepth 100000
set_option maxHeartbeats 20000000
set_option linter.unusedVariables false
theorem Z3m {P:Program} {f:FuncId} {fn:Func} {c:Code} {args:Array Value} {u:FrameMode} {w:World} {R:Ending→FrameMode→World→Prop}
 (hf:P.funcs[f]?=some fn) (hb:fn.body=some c) (T:Array Value) (hT:args ++ Array.replicate (fn.ntmps - args.size) undef=T)
 (h:∀ (c₀:Frame) (cs:List Frame),c₀.mode=u→c.wpS P (bodyPostS P fn c₀ cs R) { tmps:=T,defers:=[] } (c₀ :: cs) w):CallsD P f args u w R:=
 callsD_of_wpS hf hb (by rw [hT]; exact h)
theorem Tryz.asFault (v:Value) (w:World):(Instr.typeAssert (.iface 42 v) 20 42 true).run Tryz.prog w=.ok (.tuple #[v,.bool true]) w:=by kernel_rfl
theorem Z6e (p q:Addr) (w:World) :
 CallsD Tryz.prog 11 #[.pointer (some p),.pointer (some q)] .returning w fun e u' w'=>e=.returned (.tuple #[])∧u'=.returning∧w'=w:=by
 refine Z3m Tryz.func11 rfl #[.pointer (some p),.pointer (some q),undef,undef,undef,undef,undef,undef,undef,undef,undef,undef,undef,undef,undef,undef,undef,undef] (by rfl) fun c₀ cs hu=>?_;apply wpS_seq;apply wpS_region;simp [wpOpsS,go_sem,recoverD,hu,Exit.thenS];refine wpS_of_wp ?_;go_wp2;cases c₀;simp_all [bodyPostS,results,Tryz.results11]
def Z3s (w:World) (pb qb:Nat) (x:Value) (w':World):Prop:=
 w'.heap[pb]?=some (.cells #[.pointer none] 22 (0,0))∧w'.heap[qb]?=some (.cells #[x] 27 (0,0))∧w'.os=w.os∧w'.tape=w.tape∧w'.output=w.output∧w.heap.size≤w'.heap.size∧∀ k,k < w.heap.size→k≠pb→k≠qb→w'.heap[k]?=w.heap[k]?
theorem Z7e {w w1:World} {pb qb:Nat} {x x0 y0:Value} (hp:w.heap[pb]?=some (.cells #[x0] 22 (0,0))) (hq:w.heap[qb]?=some (.cells #[y0] 27 (0,0))) (hpq:pb≠qb) (hB:Below w.heap.size w w1) :
 Z3s w pb qb x ((w1.setCell ⟨pb,0,none⟩ (.pointer none)).setCell ⟨qb,0,none⟩ x):=by
 have hpl:pb < w.heap.size:=(Y1.1 hp).1;have hql:qb < w.heap.size:=(Y1.1 hq).1;refine ⟨?_,?_,hB.os,hB.tape,hB.output,by rw [Yf,Yf]; exact hB.size,fun k hk h1 h2=>?_⟩;·exact (Y8 _ _ _ _ hpq).trans (Z09 (o:=0) _ ((hB.block pb hpl).trans hp))
 ·exact Z09 (o:=0) _ ((Y8 _ _ _ _ (Ne.symm hpq)).trans ((hB.block qb hql).trans hq))
 ·exact (Y8 _ _ _ _ h2).trans ((Y8 _ _ _ _ h1).trans (hB.block k hk))
theorem Z3s.below {w w1 w2:World} {pb qb:Nat} {x:Value} (h:Z3s w pb qb x w1) (hB:Below w1.heap.size w1 w2):Z3s w pb qb x w2:=by
 obtain ⟨h1,h2,h3,h4,h5,h6,h7⟩:=h;refine ⟨(hB.block pb (Y1.1 h1).1).trans h1,(hB.block qb (Y1.1 h2).1).trans h2,hB.os.trans h3,hB.tape.trans h4,hB.output.trans h5,Y4 h6 hB.size,fun k hk a b=>(hB.block k (Y7 hk h6)).trans (h7 k hk a b)⟩
theorem Z8r (pb qb:Nat) (b:Nat) (older:List PanicEntry) (w:World) (x0 y0:Value) (hp:w.heap[pb]?=some (.cells #[x0] 22 (0,0))) (hq:w.heap[qb]?=some (.cells #[y0] 27 (0,0))) (hpq:pb≠qb) :
 CallsD Tryz.prog 11 #[.pointer (some ⟨pb,0,none⟩),.pointer (some ⟨qb,0,none⟩)] (.panicking ({ v:=.iface 42 (.agg #[.iface 67 (.pointer (some ⟨b,0,none⟩))]),recovered:=false } :: older)) w fun e u' w'=>
  e=.returned (.tuple #[])∧u'=.panicking ({ v:=.iface 42 (.agg #[.iface 67 (.pointer (some ⟨b,0,none⟩))]),recovered:=true } :: older)∧Z3s w pb qb (.iface 67 (.pointer (some ⟨b,0,none⟩))) w':=by
 have hpl:pb < w.heap.size:=(Y1.1 hp).1;have hql:qb < w.heap.size:=(Y1.1 hq).1;have cp:w.cell? ⟨pb,0,none⟩=some x0:=by simp [World.cell?,hp]
 have cq:w.cell? ⟨qb,0,none⟩=some y0:=by simp [World.cell?,hq]
 have zp:w.frozen? ⟨pb,0,none⟩=false:=by simp [World.frozen?,hp]
 have zq:w.frozen? ⟨qb,0,none⟩=false:=by simp [World.frozen?,hq]
 have hta:=Tryz.asFault (.agg #[.iface 67 (.pointer (some ⟨b,0,none⟩))]);refine Z3m Tryz.func11 rfl #[.pointer (some ⟨pb,0,none⟩),.pointer (some ⟨qb,0,none⟩),undef,undef,undef,undef,undef,undef,undef,undef,undef,undef,undef,undef,undef,undef,undef,undef] (by rfl) fun c₀ cs hu=>?_;apply wpS_seq;apply wpS_region;simp [wpOpsS,go_sem,recoverD,hu,Exit.thenS];refine wpS_of_wp ?_;clear hu;go_wp2;go_region
 have CP:=((Z7e (x:=.iface 67 (.pointer (some ⟨b,0,none⟩))) hp hq hpq (Y2 _ w)).below ((Y2 _ _).alloc (Y0 _) (.cells #[.iface 67 (.pointer (some ⟨b,0,none⟩))] 42))).below (Y2 _ _).drew;have CP:=lh CP;clear hp hq hpq hpl hql cp cq zp zq hta;show bodyPostS _ _ _ _ _ Exit.normal _ _ _;cases c₀;simp [bodyPostS,results,Tryz.results11];exact CP.out
theorem Z9c (w:World) (text:ByteArray) (hm:3000 < text.size) :
 Calls Tryz.prog 10 #[.string text] w fun e w'=>e=.returned (.tuple #[.slice none 0 0,.iface 30 (.int .i64 4)])∧w=w':=by
 have hm':(3000:Int) < text.size:=by omega
 go_enter Tryz.func10,Tryz.ntmps10
 go_wp2;go_ret2
 exact ⟨rfl,rfl⟩
def Zet (w':World) (base:Nat) (x:Value) (c p:Int):Prop:=(p=-1∧x=.iface 30 (.int .i64 c))∨∃ q:Nat,p=q∧Zes w' base x c q
def Z3b (w:World) (r:Except (Int×Int) Tree) (e:Ending) (w':World):Prop:=
 Below w.heap.size w w'∧match r with
 | .ok t=>∃ a,e=.returned (.tuple #[.pointer (some ⟨a.b,0,none⟩),.nilIface])∧Got w w.heap.size w' a t
 | .error (c,p)=>∃ x,e=.returned (.tuple #[.pointer none,x])∧Zet w' w.heap.size x c p
def Z2i (w:World):World:=(w.alloc (.cells #[.pointer none] 22)).alloc (.cells #[.nilIface] 27)
theorem Z5p (w:World):(Z2i w).heap[w.heap.size]?=some (.cells #[.pointer none] 22 (0,0))∧(Z2i w).heap[w.heap.size + 1]?=some (.cells #[.nilIface] 27 (0,0))∧(Z2i w).heap.size=w.heap.size + 2∧Below w.heap.size w (Z2i w):=by
 have h1:Below w.heap.size w (w.alloc (.cells #[.pointer none] 22)):=(Y2 _ _).alloc (Y0 _) _;have h2:Below (w.alloc (.cells #[.pointer none] 22)).heap.size (w.alloc (.cells #[.pointer none] 22)) (Z2i w):=(Y2 _ _).alloc (Y0 _) _;have e1:(w.alloc (.cells #[.pointer none] 22)).heap.size=w.heap.size + 1:=by simp
 refine ⟨?_,?_,by simp [Z2i],h1.alloc (by simp) _⟩;·rw [h2.block w.heap.size (by omega)]; exact heap_alloc_new w _
 ·have:=heap_alloc_new (w.alloc (.cells #[.pointer none] 22)) (.cells #[.nilIface] 27);rw [e1] at this;exact this
theorem Z41 {R:Ending→World→Prop} {tmps:Array Value} {W:World} {pb eb:Nat} {x y:Value} (h2:tmps.getD 2 undef=.pointer (some ⟨pb,0,none⟩)) (h3:tmps.getD 3 undef=.pointer (some ⟨eb,0,none⟩))
 (c1:W.cell? ⟨pb,0,none⟩=some x) (c2:W.cell? ⟨eb,0,none⟩=some y) (hR:R (.returned (.tuple #[x,y])) W):Go.Leaves Tryz.prog Tryz.f6 tmps R [] .returning W:=by
 refine ⟨.tuple #[x,y],?_,hR⟩;have h2':tmps[2]?.getD undef=.pointer (some ⟨pb,0,none⟩):=by simpa using h2
 have h3':tmps[3]?.getD undef=.pointer (some ⟨eb,0,none⟩):=by simpa using h3
 simp [results,Tryz.results6,go_sem,h2',h3',c1,c2]
theorem Z3b.bad {w w1 W:World} {c p:Int} {x:Value} (hx:Zet w1 (w.heap.size + 2) x c p) (hB:Below w.heap.size w w1) (hW:∀ k,k < w1.heap.size→k≠w.heap.size→k≠w.heap.size + 1→W.heap[k]?=w1.heap[k]?) (hs:w1.heap.size≤W.heap.size)
 (ho:W.os=w1.os) (ht:W.tape=w1.tape) (hu:W.output=w1.output):Z3b w (.error (c,p)) (.returned (.tuple #[.pointer none,x])) W:=by
 refine ⟨⟨ho.trans hB.os,ht.trans hB.tape,hu.trans hB.output,Y4 hB.size hs,fun k hk=>(hW k (Y7 hk hB.size) (by omega) (by omega)).trans (hB.block k hk)⟩,x,rfl,?_⟩;rcases hx with h | ⟨q,hq,b,h1,h2,h3⟩;·exact .inl h
 ·exact .inr ⟨q,hq,b,h1,by omega,(hW b (Y1.1 h3).1 (by omega) (by omega)).trans h3⟩
theorem Z7s (w:World) (text:ByteArray) (c p:Int) (HC:Calls Tryz.prog 10 #[.string text] (Z2i w) fun e w'=>(∃ x,e=.returned (.tuple #[.slice none 0 0,x])∧Zet w' (Z2i w).heap.size x c p)∧Below (Z2i w).heap.size (Z2i w) w') :
 Calls Tryz.prog 6 #[.string text] w (Z3b w (.error (c,p))):=by
 obtain ⟨k1,k2,k3,k4⟩:=Z5p w;have K1:=lh k1;have K2:=lh k2;have K3:=lh k3;have K4:=lh k4;obtain ⟨w0,hw0⟩:=zX (Z2i w)
 rw [← hw0] at HC K1 K2 K3 K4;unfold Z2i at hw0;have HW0:=lh hw0;have HC:=lh HC;clear hw0 k1 k2 k3 k4;go_enter_defers Tryz.func6,Tryz.ntmps6
 go_wp2_with fail
 rw [← HW0.out];refine HC.out.mono ?_;rintro e w1 ⟨⟨x,rfl,hx⟩,hB⟩;have b1:=(hB.block w.heap.size (by rw [K3.out]; omega)).trans K1.out;have b2:=(hB.block (w.heap.size + 1) (by rw [K3.out]; omega)).trans K2.out;obtain ⟨pb,hpb⟩:=zX w.heap.size
 obtain ⟨eb,heb⟩:=zX (w.heap.size + 1)
 rw [← heb] at b2;rw [← hpb] at b1;rw [← heb,← hpb];have c1:w1.cell? ⟨pb,0,none⟩=some (.pointer none):=by simp [World.cell?,b1]
 have c2:w1.cell? ⟨eb,0,none⟩=some .nilIface:=by simp [World.cell?,b2]
 have z1:w1.frozen? ⟨pb,0,none⟩=false:=by simp [World.frozen?,b1]
 have z2:w1.frozen? ⟨eb,0,none⟩=false:=by simp [World.frozen?,b2]
 have hne:pb≠eb:=by omega
 have hl1:pb < w1.heap.size:=(Y1.1 b1).1;have hl2:eb < w1.heap.size:=(Y1.1 b2).1;have HX:=lh hx;have HB:=lh hB;have HPB:=lh hpb;have HEB:=lh heb;have B1:=lh b1;have B2:=lh b2;obtain ⟨tx,vx,hxx⟩:∃ tx vx,x=.iface tx vx:=by
  rcases hx with ⟨_,rfl⟩ | ⟨q,_,b,rfl,_⟩;·exact ⟨_,_,rfl⟩
  ·exact ⟨_,_,rfl⟩
 subst hxx;clear hx hB hpb heb b1 b2 HC;go_wp2_with fail
 go_region
 go_wp2;refine Z41 (pb:=pb) (eb:=eb) rfl rfl (x:=.pointer none) (y:=.iface tx vx) ?_ ?_ ?_;·go_simp
 ·go_simp
 ·refine Z3b.bad (w1 := w1) (by have := HX.out; rwa [K3.out] at this) (K4.out.trans (HB.out.mono K4.out.size)) (fun k hk h1 h2 => ?_) ?_ rfl rfl rfl
  ·rw [← HPB.out] at h1;rw [← HEB.out] at h2;exact ((Y8 _ _ _ _ h2).trans (Y8 _ _ _ _ h1)).trans (Y8 _ _ _ _ h2)
  ·show _≤(World.setCell _ _ _).heap.size;rw [Yf,Yf,Yf];exact Y0 _
theorem Z2l.mono {w:World} {rb rb':Nat} (h:Z2l w rb) (hr:rb≤rb'):Z2l w rb':=by
 intro lv hl;obtain ⟨b,off,cap,h1,h2,h3⟩:=h lv hl;exact ⟨b,off,cap,by omega,by omega,h3⟩
theorem Rd.new {w1 w2:World} {base rb:Nat} {ts:List Tok} {v:Value} (hv:w1.ownsRow base 65 4 v ts.length (ts.flatMap Tok.cells)) (hl:∃ l e,ts=l ++ [e]∧e.kind=6∧∀ t∈l,t.kind≠6)
 (hb:w2.heap[rb]?=some (.cells #[v,.int .i64 0] 46 (0,0))) (hr:rb=w1.heap.size) (hk:∀ k,k < w1.heap.size→v.ownBlock=some k→w2.heap[k]?=w1.heap[k]?) (hs:w1.heap.size≤w2.heap.size) (hL:Z2l w2 rb):Rd w2 rb ts 0:=by
 have hpos:0 < ts.length:=by obtain ⟨l,e,h,_⟩:=hl; rw [h]; simp
 rcases Zm hv with ⟨_,h2⟩ | ⟨g,cap,rfl,h1,h2,h3⟩;·omega
 have hg:g < w1.heap.size:=(hv.lt g rfl).2;refine ⟨g,0,cap,⟨hb,h1,h2,by omega,Y7 hg hs,fun k t j x hi hj=>?_,hl,hL⟩⟩;have:=Zdv (f:=Tok.cells) (fun _=>rfl) hv (g:=g) rfl hi hj;rw [Nat.zero_add];exact (Yb (hk g hg rfl)).trans this
theorem Zbq (c:Int):IntKind.i64.wrap (IntKind.i64.wrap c + 1)=IntKind.i64.wrap (c + 1):=by
 simp only [IntKind.wrap_i64];omega
def Z7o (w4:World) (B mb:Nat) (a:ATree) (c:Nat) (W:World):Prop:=
 TreeAt W B a∧W.heap[mb]?=some (.cells #[.int .i64 (IntKind.i64.wrap c)] 3 (0,0))∧W.os=w4.os∧W.tape=w4.tape∧W.output=w4.output∧w4.heap.size≤W.heap.size∧∀ k,k < w4.heap.size→k≠mb→W.heap[k]?=w4.heap[k]?
def cntG (c:Nat) (x:ATree):Bool×Nat:=(true,c + 1)
mutual
theorem Z9p:∀ (a:ATree) (c:Nat),Z8y cntG a c=c + a.many
 | .mk b v k t n l,c=>by simp only [Z8y,cntG,if_true,ATree.many]; rw [Z7r l]; omega
theorem Z7r:∀ (l:List ATree) (c:Nat),Z4u cntG l c=c + Z3l l
 | [],c=>by simp [Z4u,Z3l]
 | a :: l,c=>by simp only [Z4u,Z3l]; rw [Z9p a,Z7r l]; omega
end
theorem Zfa (w4:World) (B mb:Nat) (a x:ATree) (hmb:mb < B∨mb ∉ a.blocks) (hml:mb < w4.heap.size) (c:Nat) (w:World) (hI:Z7o w4 B mb a c w) :
 Calls Tryz.prog 14 #[x.ptr,.pointer (some ⟨mb,0,none⟩)] w fun e w'=>e=.returned (.bool (cntG c x).1)∧Z7o w4 B mb a (cntG c x).2 w':=by
 obtain ⟨h1,h2,h3,h4,h5,h6,h7⟩:=hI;have c1:w.cell? ⟨mb,0,none⟩=some (.int .i64 (IntKind.i64.wrap c)):=by simp [World.cell?,h2]
 have z1:w.frozen? ⟨mb,0,none⟩=false:=by simp [World.frozen?,h2]
 have hn:mb ∉ a.blocks:=by
  rcases hmb with h | h;·intro hx; have:=(h1.has mb hx).1; omega
  ·exact h
 obtain ⟨y,hy⟩:∃ y,y=IntKind.i64.wrap (c:Int):=⟨_,rfl⟩
 rw [← hy] at c1;have H:Hid (Z7o w4 B mb a (c + 1) (w.setCell ⟨mb,0,none⟩ (.int .i64 (IntKind.i64.wrap (y + 1))))):=by
  refine lh ⟨h1.keepB fun k hk=>Y8 _ _ _ _ (fun e=>hn (by have e':k=mb:=e; rw [← e']; exact hk)),?_,h3,h4,h5,by rw [Yf]; exact h6,fun k hk hne=>(Y8 _ _ _ _ hne).trans (h7 k hk hne)⟩;rw [show IntKind.i64.wrap (((c + 1:Nat):Int))=IntKind.i64.wrap (y + 1) by rw [hy,Zbq]; rfl];exact Z09 (o:=0) _ h2
 unfold ATree.ptr;clear h1 h2 h3 h4 h5 h6 h7 hn hy hmb;go_enter Tryz.func14,Tryz.ntmps14
 go_wp2;go_ret;rw [show wrap64 (y + 1)=IntKind.i64.wrap (y + 1) by simp only [IntKind.wrap_i64,wrap64]];exact ⟨rfl,H.out⟩
def finP:Except (Int×Nat) (Tree×List Tok)→Except (Int×Int) Tree
 | .error (e,p)=>.error (e,p)
 | .ok (t,_)=>if 1500 < t.many then .error (4,-1) else .ok t
theorem Zan (w:World) (text:ByteArray) (hm:text.size≤3000) (hW:Words w) (hL:Z2l w w.heap.size) (ts:List Tok) (ht:Z3q text=.ok ts) :
 Calls Tryz.prog 6 #[.string text] w (Z3b w (Z0h text)):=by
 obtain ⟨k1,k2,k3,k4⟩:=Z5p w;obtain ⟨w0,hw0⟩:=zX (Z2i w)
 rw [← hw0] at k1 k2 k3 k4;have HC:=Z6g w0 text hm (hW.below k4);rw [ht] at HC;have HC:=lh HC;have HL:=lh hL;obtain ⟨s1,s2,s3⟩:=Z5e ts 0 (Yh _) (Z3y ht);have S1:=lh s1;have S2:=lh s2;have HM:=lh hm;have HT:=lh ht;have hmf:∀ (fn:Fn) (first cap:Array Value) (w:World),(Instr.makeFunc fn first cap).run Tryz.prog w=.ok (.func fn first cap) w:=fun _ _ _ _=>rfl;obtain ⟨r,hr⟩:∃ r,Z0 (40 * ts.length + 31) (.stmts 1 []) 0 ts=some r:=by
  have:=Z9v (40 * ts.length + 31) (.stmts 1 []) 0 ts (by simp only [Job.rank]; omega);cases h:Z0 (40 * ts.length + 31) (.stmts 1 []) 0 ts with
  | none=>exact absurd h this
  | some r=>exact ⟨r,rfl⟩
 have hall:Z0h text=finP r:=by
  unfold Z0h;rw [Y3 (by omega),ht];simp only [hr];rcases r with ⟨e,p⟩ | ⟨t,us⟩ <;> rfl
 have HR:=lh hr;have HALL:=lh hall;have K1:=lh k1;have K2:=lh k2;have K3:=lh k3;have K4:=lh k4;unfold Z2i at hw0;have HW0:=lh hw0;clear hw0 k1 k2 k3 k4 s1 s2 s3 ht hr hall hm hL hW;go_enter_defers Tryz.func6,Tryz.ntmps6
 go_wp2_with fail
 rw [← HW0.out];refine HC.out.mono ?_;rintro e w1 ⟨⟨v,rfl,hv⟩,hB⟩;obtain ⟨vp,vn,vc,hvv⟩:∃ p n c,v=.slice p n c:=by
  rcases Zm hv with ⟨h1,_⟩ | ⟨g,cap,h1,_⟩;·exact ⟨_,_,_,h1⟩
  ·exact ⟨_,_,_,h1⟩
 subst hvv;have b1:=(hB.block w.heap.size (by rw [K3.out]; omega)).trans K1.out;have b2:=(hB.block (w.heap.size + 1) (by rw [K3.out]; omega)).trans K2.out;obtain ⟨pb,hpb⟩:=zX w.heap.size
 obtain ⟨eb,heb⟩:=zX (w.heap.size + 1)
 rw [← heb] at b2;rw [← hpb] at b1;rw [← heb,← hpb];have hne:pb≠eb:=by omega
 have c1:w1.cell? ⟨pb,0,none⟩=some (.pointer none):=by simp [World.cell?,b1]
 have c2:w1.cell? ⟨eb,0,none⟩=some .nilIface:=by simp [World.cell?,b2]
 have z1:w1.frozen? ⟨pb,0,none⟩=false:=by simp [World.frozen?,b1]
 have z2:w1.frozen? ⟨eb,0,none⟩=false:=by simp [World.frozen?,b2]
 have hl1:pb < w1.heap.size:=(Y1.1 b1).1;have hl2:eb < w1.heap.size:=(Y1.1 b2).1;have B01:=lh (K4.out.trans (hB.mono K4.out.size));have HV:=lh hv;have HPB:=lh hpb;have HEB:=lh heb;have BB1:=lh b1;have BB2:=lh b2;obtain ⟨w2,hw2⟩:=zX ((w1.setCell ⟨eb,0,none⟩ .nilIface).alloc (.cells #[.slice vp vn vc,.int .i64 0] 46))
 obtain ⟨rb,hrb⟩:=zX w1.heap.size
 have hs1:(w1.setCell ⟨eb,0,none⟩ .nilIface).heap.size=rb:=by rw [hrb]; exact Yf ..
 have hs2:w2.heap.size=rb + 1:=by rw [hw2]; simp [hrb]
 have far2:∀ k,k < rb→k≠eb→w2.heap[k]?=w1.heap[k]?:=fun k hk hn=>by
  rw [hw2];exact (Below.heap_alloc _ _ _ (by rw [hs1]; exact hk)).trans (Y8 _ _ _ _ hn)
 have e2:w2.heap[eb]?=some (.cells #[.nilIface] 27 (0,0)):=by
  rw [hw2];exact (Below.heap_alloc _ _ _ (by rw [hs1]; omega)).trans (Z09 (o:=0) .nilIface b2)
 have r2:w2.heap[rb]?=some (.cells #[.slice vp vn vc,.int .i64 0] 46 (0,0)):=by
  rw [hw2,← hs1]; exact heap_alloc_new _ _
 have hlev:Z2l w2 rb:=by
  refine (HL.out.keep (w':=w2) fun k hk=>?_).mono (by have:=B01.out.size; omega);exact (far2 k (by have:=B01.out.size; omega) (by omega)).trans (B01.out.block k hk)
 have hvb:∀ k,(Value.slice vp vn vc).ownBlock=some k→k≠eb:=fun k hk=>by have:=(hv.lt k hk).1; rw [K3.out] at this; omega
 have hrd:Rd w2 rb ts 0:=Rd.new hv S1.out r2 hrb (fun k hk hk2=>far2 k (by omega) (hvb k hk2)) (by omega) hlev;have hP:Pre w2 rb w2.heap.size 0 ts:=⟨hrd,by omega,by omega,Y0 _,by have:=S2.out; have:=HM.out; omega⟩
 have HS:=Zd1 _ w2 rb w2.heap.size 0 ts r hP HR.out;simp only at HS;have HS:=lh HS;have FAR2:=lh far2;have E2:=lh e2;have HW2:=lh hw2;have HRB:=lh hrb;have HS2:=lh hs2;have p2:=(FAR2.out pb (by omega) hne).trans b1;have PP2:=lh p2;have RFR2:=lh (show w2.os=w1.os∧w2.tape=w1.tape∧w2.output=w1.output by rw [hw2]; exact ⟨rfl,rfl,rfl⟩);clear hB hv hpb heb b1 b2 HC hw2 hrb hs1 hs2 far2 e2 r2 hlev hvb hrd hP p2;go_wp2_with fail
 rw [← HW2.out,← HRB.out];refine HS.out.mono ?_;have BW2:Hid (∀ k,k < w.heap.size→w2.heap[k]?=w.heap[k]?):=lh fun k hk=>(FAR2.out k (by have:=B01.out.size; have:=HRB.out; omega) (by have:=HEB.out; omega)).trans (B01.out.block k hk);have SZ:Hid (w.heap.size + 2≤rb):=lh (by have:=HEB.out; have:=HRB.out; omega);rcases r with ⟨c,p⟩ | ⟨t,us⟩
 ·rintro e w3 ⟨⟨b, rfl, h1, h2⟩, hF⟩;have p3 := (hF.block pb (by have := HS2.out; have := HRB.out; omega) (by have := SZ.out; have := HPB.out; omega)).trans PP2.out;have e3 := (hF.block eb (by have := HS2.out; have := HRB.out; omega) (by have := SZ.out; have := HEB.out; omega)).trans E2.out;have H1 := lh h1;have H2 := lh h2;have FF := lh hF;rw [HALL.out];clear h1 h2 hF HS;refine leaves_cons (f := 11) (args := #[.pointer (some ⟨pb, 0, none⟩), .pointer (some ⟨eb, 0, none⟩)]) (by simp) (by simp [go_sem]) ?_;refine (Z8r pb eb b [] w3 _ _ p3 e3 hne).mono ?_;rintro e u' w4 ⟨rfl, rfl, hCP⟩
  obtain ⟨q1,q2,q3,q4,q5,q6,q7⟩:=hCP;show Go.Leaves _ _ _ _ [] .returning _;refine Z41 (pb:=pb) (eb:=eb) rfl rfl (x:=.pointer none) (y:=.iface 67 (.pointer (some ⟨b,0,none⟩))) (by simp [World.cell?,q1]) (by simp [World.cell?,q2]) ?_;have hsz:=FF.out.size;have hb3:b < w3.heap.size:=(Y1.1 H2.out).1;have hbb:=H1.out;refine ⟨⟨?_,?_,?_,?_,fun k hk=>?_⟩,.iface 67 (.pointer (some ⟨b,0,none⟩)),rfl,.inr ⟨p,rfl,b,rfl,?_,?_⟩⟩;·exact q3.trans (FF.out.os.trans (RFR2.out.1.trans B01.out.os))
  ·exact q4.trans (FF.out.tape.trans (RFR2.out.2.1.trans B01.out.tape))
  ·exact q5.trans (FF.out.output.trans (RFR2.out.2.2.trans B01.out.output))
  ·have:=HS2.out; have:=SZ.out; omega
  ·have h2:=HS2.out; have h3:=SZ.out; have h4:=HPB.out; have h5:=HEB.out;exact (q7 k (by omega) (by omega) (by omega)).trans ((FF.out.block k (by omega) (by omega)).trans (BW2.out k hk))
  ·have:=HS2.out; have:=SZ.out; omega
  ·have h2:=HS2.out; have h3:=SZ.out; have h4:=HPB.out; have h5:=HEB.out;exact (q7 b hb3 (by omega) (by omega)).trans H2.out
 ·rintro e w3 ⟨a, rfl, hG, hR3, hF⟩;have h2 := HS2.out; have h3 := SZ.out; have h4 := HPB.out; have h5 := HEB.out; have h6 := HRB.out;have p3 := (hF.block pb (by omega) (by omega)).trans PP2.out;have e3 := (hF.block eb (by omega) (by omega)).trans E2.out;have hsz := hF.size;obtain ⟨mb, hmb⟩ := zX w3.heap.size
  obtain ⟨w4,hw4⟩:=zX ((w3.setCell ⟨pb,0,none⟩ (.pointer (some ⟨a.b,0,none⟩))).alloc (.cells #[.int .i64 0] 3))
  have hs3:(w3.setCell ⟨pb,0,none⟩ (.pointer (some ⟨a.b,0,none⟩))).heap.size=mb:=by rw [hmb]; exact Yf ..
  have hs4:w4.heap.size=mb + 1:=by rw [hw4]; simp [hmb]
  have far4:∀ k,k < mb→k≠pb→w4.heap[k]?=w3.heap[k]?:=fun k hk hn=>by
   rw [hw4];exact (Below.heap_alloc _ _ _ (by rw [hs3]; exact hk)).trans (Y8 _ _ _ _ hn)
  have p4:w4.heap[pb]?=some (.cells #[.pointer (some ⟨a.b,0,none⟩)] 22 (0,0)):=by
   rw [hw4];exact (Below.heap_alloc _ _ _ (by rw [hs3]; omega)).trans (Z09 (o:=0) _ p3)
  have m4:w4.heap[mb]?=some (.cells #[.int .i64 0] 3 (0,0)):=by
   rw [hw4,← hs3]; exact heap_alloc_new _ _
  have hT4:TreeAt w4 w2.heap.size a:=hG.at'.keepB fun k hk=>far4 k (by have:=(hG.new k hk).2; omega) (by have:=(hG.new k hk).1; omega);have hI:Z7o w4 w2.heap.size mb a 0 w4:=⟨hT4,m4,rfl,rfl,rfl,Y0 _,fun _ _ _=>rfl⟩
  have hmn:mb ∉ a.blocks:=fun hx=>by have:=(hG.new mb hx).2; omega
  have HWK:=Zf7 ⟨mb,0,none⟩ (Z7o w4 w2.heap.size mb a) cntG w2.heap.size a.many a (Y0 _) (fun s W h=>h.1) (fun x hx s W h=>Zfa w4 w2.heap.size mb a x (.inr hmn) (by omega) s W h) 0 w4 hI;unfold ATree.ptr at HWK;rw [Z9p,Nat.zero_add,← Z40,hG.tree] at HWK;have HWK:=lh HWK;have c3:w3.cell? ⟨pb,0,none⟩=some (.pointer none):=by simp [World.cell?,p3]
  have z3:w3.frozen? ⟨pb,0,none⟩=false:=by simp [World.frozen?,p3]
  have hpl3:pb < w3.heap.size:=by omega
  have HG:=lh hG;have FF:=lh hF;have HW4:=lh hw4;have HMB:=lh hmb;have HS4:=lh hs4;have FAR4:=lh far4;have P4:=lh p4;have E3:=lh e3;have hmany:t.many≤6100:=by
   have:=Za7 _ _ _ _ _ _ HR.out;simp only [Job.base,Zn] at this;have:=S2.out; have:=HM.out;omega
  have RF4:=lh (show w4.os=w3.os∧w4.tape=w3.tape∧w4.output=w3.output by rw [hw4]; exact ⟨rfl,rfl,rfl⟩);clear hG hR3 hF hw4 hmb hs3 hs4 far4 p4 m4 hT4 hI hmn p3 e3 h2 h3 h4 h5 h6 hsz HS;go_wp2_with fail
  rw [← HW4.out,← HMB.out];refine HWK.out.mono ?_;rintro e w5 ⟨rfl,i1,i2,i3,i4,i5,i6,i7⟩;rw [show IntKind.i64.wrap ((t.many:Nat):Int)=(t.many:Int) by simp only [IntKind.wrap_i64]; omega] at i2;have h2:=HS2.out; have h3:=SZ.out; have h4:=HPB.out; have h5:=HEB.out; have h6:=HRB.out; have h7:=HS4.out; have h8:=HMB.out; have h9:=FF.out.size;have p5:=(i7 pb (by omega) (by omega)).trans P4.out;have e5:=(i7 eb (by omega) (by omega)).trans ((FAR4.out eb (by omega) (by omega)).trans E3.out)
  have cm:w5.cell? ⟨mb,0,none⟩=some (.int .i64 (t.many:Int)):=by simp [World.cell?,i2]
  have cp:w5.cell? ⟨pb,0,none⟩=some (.pointer (some ⟨a.b,0,none⟩)):=by simp [World.cell?,p5]
  have ce:w5.cell? ⟨eb,0,none⟩=some .nilIface:=by simp [World.cell?,e5]
  have zp:w5.frozen? ⟨pb,0,none⟩=false:=by simp [World.frozen?,p5]
  have ze:w5.frozen? ⟨eb,0,none⟩=false:=by simp [World.frozen?,e5]
  have hl5:pb < w5.heap.size:=by omega
  have hl6:eb < w5.heap.size:=by omega
  have fin:Hid (∀ (W:World) (x y:Value),W=(w5.setCell ⟨pb,0,none⟩ x).setCell ⟨eb,0,none⟩ y→Below w.heap.size w W∧Got w w.heap.size W a t):=by
   refine lh fun W x y hW=>?_;have hsW:W.heap.size=w5.heap.size:=by rw [hW,Yf,Yf]
   have farW:∀ k,k≠pb→k≠eb→W.heap[k]?=w5.heap[k]?:=fun k h1 h2=>by rw [hW]; exact (Y8 _ _ _ _ h2).trans (Y8 _ _ _ _ h1)
   have farA:∀ k,k < mb→k≠pb→k≠eb→W.heap[k]?=w3.heap[k]?:=fun k hk h1 h2=>(farW k h1 h2).trans ((i7 k (by omega) (by omega)).trans (FAR4.out k (by omega) h1));have o1:W.os=w5.os∧W.tape=w5.tape∧W.output=w5.output:=by rw [hW]; exact ⟨rfl,rfl,rfl⟩
   refine ⟨⟨?_,?_,?_,by omega,fun k hk=>?_⟩,⟨HG.out.tree,?_,HG.out.nodup,fun z hz=>?_⟩⟩;·exact o1.1.trans (i3.trans (RF4.out.1.trans (FF.out.os.trans (RFR2.out.1.trans B01.out.os))))
   ·exact o1.2.1.trans (i4.trans (RF4.out.2.1.trans (FF.out.tape.trans (RFR2.out.2.1.trans B01.out.tape))))
   ·exact o1.2.2.trans (i5.trans (RF4.out.2.2.trans (FF.out.output.trans (RFR2.out.2.2.trans B01.out.output))))
   ·exact (farA k (by omega) (by omega) (by omega)).trans ((FF.out.block k (by omega) (by omega)).trans (BW2.out k hk))
   ·refine (HG.out.at'.keepB fun k hk=>?_).base (by omega);have:=HG.out.new k hk;exact farA k (by omega) (by omega) (by omega)
   ·have:=HG.out.new z hz; omega
  have HALL2:Z0h text=if 1500 < t.many then .error (4,-1) else .ok t:=HALL.out;clear i1 i2 i3 i4 i5 i6 i7 p5 e5 h2 h3 h4 h5 h6 h7 h8 h9 HWK;by_cases hbig:1500 < t.many
  ·rw [Y5 hbig] at HALL2;have hb : decide ((t.many : Int) > 1500) = true := by simp; omega
   have HA:=lh HALL2;clear HALL2 hbig;go_wp2_with fail
   refine leaves_cons (f:=11) (args:=#[.pointer (some ⟨pb,0,none⟩),.pointer (some ⟨eb,0,none⟩)]) (by simp) (by simp [go_sem]) ?_;refine (Z6e ⟨pb,0,none⟩ ⟨eb,0,none⟩ _).mono ?_;rintro e u' w6 ⟨rfl,rfl,rfl⟩;show Go.Leaves _ _ _ _ [] .returning _;refine Z41 (pb:=pb) (eb:=eb) rfl rfl (x:=.pointer none) (y:=.iface 30 (.int .i64 4)) (by go_simp) (by go_simp) ?_;rw [HA.out];have hf:=fin.out _ (.pointer none) (.iface 30 (.int .i64 4)) rfl;exact ⟨hf.1,_,rfl,.inl ⟨rfl,rfl⟩⟩
  ·rw [Y3 hbig] at HALL2;have hb : decide ((t.many : Int) > 1500) = false := by simp; omega
   have HA:=lh HALL2;clear HALL2 hbig;go_wp2_with fail
   refine leaves_cons (f:=11) (args:=#[.pointer (some ⟨pb,0,none⟩),.pointer (some ⟨eb,0,none⟩)]) (by simp) (by simp [go_sem]) ?_;refine (Z6e ⟨pb,0,none⟩ ⟨eb,0,none⟩ _).mono ?_;rintro e u' w6 ⟨rfl,rfl,rfl⟩;show Go.Leaves _ _ _ _ [] .returning _;refine Z41 (pb:=pb) (eb:=eb) rfl rfl (x:=.pointer (some ⟨a.b,0,none⟩)) (y:=.nilIface) (by go_simp) (by go_simp) ?_;rw [HA.out];have hf:=fin.out _ (.pointer (some ⟨a.b,0,none⟩)) (.nilIface) rfl;exact ⟨hf.1,a,rfl,hf.2⟩
theorem Z7u (w:World) (text:ByteArray) (hW:Words w) (hL:Z2l w w.heap.size) :
 Calls Tryz.prog 6 #[.string text] w (Z3b w (Z0h text)):=by
 have k4:=(Z5p w).2.2.2;by_cases hm:3000 < text.size
 ·have e : Z0h text = .error (4, -1) := by unfold Z0h; rw [Y5 hm]
  rw [e];exact Z7s w text 4 (-1) ((Z9c (Z2i w) text hm).mono fun e w' ⟨h1,h2⟩=>by subst h1; subst h2; exact ⟨⟨_,rfl,.inl ⟨rfl,rfl⟩⟩,Y2 _ _⟩)
 ·cases ht : Z3q text with
  | ok ts=>exact Zan w text (by omega) hW hL ts ht
  | error x =>
    obtain ⟨c,p⟩:=x;have e:Z0h text=.error (c,(p:Int)):=by unfold Z0h; rw [Y3 hm,ht]
    rw [e];have HC:=Z6g (Z2i w) text (by omega) (hW.below k4);rw [ht] at HC;exact Z7s w text c p (HC.mono fun e w' ⟨⟨x,h1,h2⟩,h3⟩=>⟨⟨x,h1,.inr ⟨p,rfl,h2⟩⟩,h3⟩)
structure Ar (k:Int) (n:Nat):Prop where
 call:k=35→n≠0
 two:k=9∨k=8∨k=24∨k=5∨k=37→n=2
 if':k=7→n=2∨n=3
 one:k=13∨k=34→n=1
theorem Ar.any {k:Int} {n:Nat} (h:k≠35∧k≠9∧k≠8∧k≠24∧k≠5∧k≠37∧k≠7∧k≠13∧k≠34):Ar k n:=⟨by omega,by omega,by omega,by omega⟩
mutual
def WT:Tree→Prop
 | .mk k _ _ l=>Ar k l.length∧WTL l
def WTL:List Tree→Prop
 | []=>True
 | t :: l=>WT t∧WTL l
end
theorem WT.kids {t:Tree} (h:WT t):WTL t.kids:=by cases t; exact h.2
theorem WT.leaf {k:Int} {s:ByteArray} {n:Int} (h:k≠35∧k≠9∧k≠8∧k≠24∧k≠5∧k≠37∧k≠7∧k≠13∧k≠34):WT (.mk k s n []):=⟨Ar.any h,trivial⟩
def Sh (p:PR):Prop:=∀ t ts,p=some (.ok (t,ts))→WT t
theorem Sh.fail {e:Int} {ts:List Tok}:Sh (Z1k e ts):=by intro t ts' h; cases h
theorem Sh.none:Sh none:=by intro t ts' h; cases h
theorem Sh.err {e:Int×Nat}:Sh (some (.error e)):=by intro t ts' h; cases h
theorem Sh.ok {t:Tree} {ts:List Tok} (h:WT t):Sh (okT t ts):=by
 intro t' ts' h';simp only [okT,Option.some.injEq,Except.ok.injEq,Prod.mk.injEq] at h';rw [← h'.1]; exact h
theorem Sh.bind {p:PR} {k:Tree→List Tok→PR} (hp:Sh p) (hk:∀ t ts,WT t→Sh (k t ts)):Sh (Zz p k):=by
 cases p with
 | none=>exact Sh.none
 | some r =>
   cases r with
   | error e=>exact Sh.err
   | ok x=>obtain ⟨t,ts⟩:=x; exact hk t ts (hp t ts rfl)
theorem Sh.want {s:ByteArray} {ts:List Tok} {k:List Tok→PR} (hk:Sh (k ts.tail)):Sh (Z0i s ts k):=by
 unfold Z0i;by_cases h:isT s ts=true;·rw [Y5 h]; exact hk
 ·rw [Y3 h]; exact Sh.fail
theorem Sh.name {ts:List Tok} {k:ByteArray→List Tok→PR} (hk:∀ s,Sh (k s ts.tail)):Sh (Z1m ts k):=by
 unfold Z1m;by_cases h:(hdT ts).kind=1;·rw [Y5 h]; exact hk _
 ·rw [Y3 h]; exact Sh.fail
theorem Sh.within {d:Nat} {ts:List Tok} {p:PR} (h:Sh p):Sh (Z00 d ts p):=by
 unfold Z00;by_cases h':30 < d + 1;·rw [Y5 h']; exact Sh.fail
 ·rw [Y3 h']; exact h
theorem Sh.ite {c:Prop} [Decidable c] {p q:PR} (hp:c→Sh p) (hq:¬ c→Sh q):Sh (if c then p else q):=by
 by_cases h:c;·rw [Y5 h]; exact hp h
 ·rw [Y3 h]; exact hq h
theorem Sh.comma {c:Prop} [Decidable c] {ts:List Tok} {k:List Tok→PR} (hk:∀ ts',Sh (k ts')):Sh ((if c then Z0i Z0n ts else fun k=>k ts) k):=by
 by_cases h:c;·rw [Y5 h]; exact Sh.want (hk _)
 ·rw [Y3 h]; exact hk _
theorem Sh.end' {t:Tree} {ts:List Tok} (h:WT t):Sh (endT t ts):=Sh.want (Sh.ok h)
def Z78 (w:World) (r:Except (Int×Int) Tree) (e:Ending) (w':World):Prop:=
 Below w.heap.size w w'∧match r with
 | .ok t=>∃ a,e=.returned (.tuple #[.pointer (some ⟨a.b,0,none⟩),.bool (t.kind == 1)])∧Got w w.heap.size w' a t
 | .error _=>e=.returned (.tuple #[.pointer none,.bool false])
theorem Zbu {a:ATree} {t:Tree} (h:a.tree=t):t.kind=a.kind:=by subst h; cases a; rfl
theorem Z4f (w:World) (text:ByteArray) (hW:Words w) (hL:Z2l w w.heap.size) :
 Calls Tryz.prog 4 #[.string text] w (Z78 w (Z0h text)):=by
 have HP:=lh (Z7u w text hW hL);obtain ⟨r,hr⟩:=zX (Z0h text)
 rw [← hr] at HP ⊢;clear hr hW hL;unfold Z78;cases r with
 | error x =>
   obtain ⟨c,p⟩:=x;go_enter Tryz.func4,Tryz.ntmps4
   go_wp2_with fail
   refine HP.out.mono ?_;rintro e w1 ⟨hb,x,rfl,hx⟩;have HB:=lh hb;have hne:x≠.nilIface:=by
    rcases hx with ⟨_,rfl⟩ | ⟨q,_,hx⟩;·simp
    ·obtain ⟨_,rfl,_⟩:=hx;simp
   obtain ⟨T,y,rfl⟩:∃ T y,x=.iface T y:=by
    rcases hx with ⟨_,rfl⟩ | ⟨q,_,hx⟩;·exact ⟨_,_,rfl⟩
    ·obtain ⟨_,rfl,_⟩:=hx;exact ⟨_,_,rfl⟩
   clear hb hx hne HP;go_wp2_with fail
   refine Z4 [(true,0),(true,1),(true,2),(true,3),(true,4),(true,5),(true,6),(true,7),(true,8),(true,9),(true,10),(true,11),(true,12),(true,13),(true,14)] [15] (fun _=>True) (by kernel_rfl) (by kernel_rfl) (fun _ _ d _ _ h=>by cases d <;> exact h) trivial (fun hS0=>?_);simp only [Zj,zD,zE,zF,zG,zH,zI]
   iterate 15
    first
     | (refine Z7 ?_ (by rfl) (fun w' _=>?_) ?_; rotate_left; (go_simp; first | done | with_reducible rfl); simp only [Act.put,zA,zB,zC])
     | (refine Z6 (by rfl) ?_; simp only [Act.put,zA,zB,zC])
   refine Zb ?_;go_wp2;go_ret2
   exact ⟨HB.out.drew,rfl⟩
 | ok t =>
   go_enter Tryz.func4,Tryz.ntmps4
   go_wp2_with fail
   refine HP.out.mono ?_;rintro e w1 ⟨hb,a,rfl,hg⟩;have c0:=hg.at'.c0;have hk:=Zbu hg.tree;obtain ⟨kd,hkd⟩:=zX a.kind
   rw [← hkd] at hk c0;have HK:=lh hk;have HB:=lh hb;have HG:=lh hg;clear hb hg HP hk hkd;go_wp2_with fail
   refine Z4 [(true,0),(true,1),(true,2),(true,3),(true,4),(true,5),(true,6),(true,7),(true,8),(true,9),(true,10),(true,11),(true,12),(true,13),(true,14)] [15] (fun W=>W.cell? ⟨a.b,0,none⟩=some (.int .i64 kd)) (by kernel_rfl) (by kernel_rfl) (fun _ _ d _ _ h=>by cases d <;> exact h) c0 (fun hS0=>?_);simp only [Zj,zD,zE,zF,zG,zH,zI]
   iterate 15
    first
     | (refine Z7 ?_ (by rfl) (fun w' hS'=>?_) ?_; rotate_left; (have s0:=hS'; go_simp; first | done | with_reducible rfl); simp only [Act.put,zA,zB,zC])
     | (refine Z6 (by rfl) ?_; simp only [Act.put,zA,zB,zC])
   refine Zb ?_;go_wp2;go_ret2
   exact ⟨HB.out.drew,a,by rw [HK.out]; rfl,HG.out.tree,HG.out.at'.keep fun k _ _=>rfl,HG.out.nodup,HG.out.new⟩
theorem cell_below {w w':World} (hB:Below w.heap.size w w') {p:Addr} {v:Value} (hv:w.cell? p=some v):w'.cell? p=some v:=by
 have hl:p.block < w.heap.size:=by
  unfold World.cell? at hv;split at hv
  ·rename_i hb;exact (Y1.1 hb).1
  ·cases hv
 exact (Yb (hB.block p.block hl)).trans hv
theorem Tabs.below {w w':World} (h:Tabs w) (hB:Below w.heap.size w w'):Tabs w':=
 ⟨h.pow.below hB,fun j s hs=>cell_below hB (h.signs j s hs),fun j s hs=>cell_below hB (h.heads j s hs)⟩
theorem Zdm {text:ByteArray} {t:Tree} (hr:Z0h text=.ok t) {a:ATree} (hg:a.tree=t):Wf .sl (Zg a.kids)∧Zn (Zg a.kids)≤1500∧t=.mk 1 (strT (Zg a.kids)) 0 (Zg a.kids)∧t.many≤1500∧a.many≤1500:=by
 obtain ⟨l,h1,h2,h3⟩:=Z4b hr;rw [h2] at hg;obtain ⟨_,_,_,h4⟩:=Z0d hg;subst h4;have h5:=Z40 a;rw [hg,← h2] at h5;refine ⟨h1,?_,h2,h3,by omega⟩;rw [h2,Tree.many] at h3;omega
def Z5i:ByteArray:=⟨#[97,32,61,32,49,59]⟩
def Z3r:Tree:=.mk 1 ⟨#[]⟩ 0 [.mk 15 ⟨#[]⟩ 0 [.mk 24 ⟨#[]⟩ 0 [.mk 23 ⟨#[97]⟩ 0 [],.mk 17 ⟨#[]⟩ 1 []]]]
theorem Z5k:Z0h Z5i=.ok Z3r:=by kernel_rfl
theorem Z9r:Zdu Z3r.kids=⟨#[97,32,61,32,49,59,10]⟩:=by
 unfold Zdu toB Z3r;simp only [Tree.kids,pP];rw [Zbz,Zbs,Zbp,Zbs,Zbs,Z6p,Zb8];kernel_rfl
theorem Zbd (w:World) (hW:Words w) (hL:Z2l w w.heap.size) (hB:Tabs w) :
 Calls Tryz.prog 5 #[] w fun e w'=>e=.returned (.bool true)∧Below w.heap.size w w':=by
 have hR:=Z4f w Z5i hW hL;rw [Z5k] at hR;unfold Z5i at hR;have HR:=lh hR;have HT:=lh hB;clear hR hB;go_enter Tryz.func5,Tryz.ntmps5
 go_wp2_with fail
 refine HR.out.mono ?_;rintro e w1 ⟨hb,a,rfl,hg⟩;have hk:(Z3r.kind == 1)=true:=by rfl
 rw [hk];obtain ⟨f1,f2,f3,f4,f5⟩:=Zdm Z5k hg.tree;have hks:Zg a.kids=Z3r.kids:=by
  have h:=congrArg Tree.kids f3;exact h.symm
 obtain ⟨x,l',ek,et,e2⟩:=Zl (show Zg a.kids=.mk 15 ⟨#[]⟩ 0 [.mk 24 ⟨#[]⟩ 0 [.mk 23 ⟨#[97]⟩ 0 [],.mk 17 ⟨#[]⟩ 1 []]] :: [] from hks);have e3:=Z06 e2;subst e3;obtain ⟨xk,_,_,_⟩:=Z0d et;have hTx:TreeAt w1 w.heap.size x:=hg.at'.kid (by rw [ek]; simp);obtain ⟨g,cp,c3,hge,hmx,hgl,hkk⟩:=Z0r hg.at' (by rw [ek]; simp);rw [ek] at c3 hge;have c3':w1.cell? ⟨a.b,3,none⟩=some (.slice (some ⟨g,0,none⟩) 1 cp):=c3;have k0:=hkk 0 x (by rw [ek]; rfl);have x0:=hTx.c0;rw [xk] at x0;unfold ATree.ptr at k0;have HTX:=lh (Zds w1 (HT.out.below hb) _ a hg.at' f1 (by omega))
 rw [hks,Z9r] at HTX;unfold ATree.ptr at HTX;have HB:=lh hb;clear hb hg f1 f2 f3 f4 f5 hks ek et e2 hTx c3 hge hkk HR hk;go_wp2_with fail
 refine HTX.out.mono ?_;rintro e w2 ⟨rfl,hb2⟩;have HB2:=lh (HB.out.trans (hb2.mono HB.out.size));clear hb2 HTX;go_wp2;go_ret;exact ⟨rfl,HB2.out⟩
end Go.Proofs.YtjcgkdfeplbajaaGreatDoor
