/- Package tree: Parse. -/
import Derived.Test.YtedopiahfejdfaaGreatDoorJ21
import Derived.Recover
import Derived.Stop.Asserts
import Derived.Outline
import Derived.RowKitTokens
namespace Go.Proofs.YtedopiahfejdfaaGreatDoor
open Go Go.RowKit
set_option maxRecDepth 100000
set_option maxHeartbeats 20000000
set_option linter.unusedVariables false
theorem Z3n {P:Program} {f:FuncId} {fn:Func} {c:Code} {args:Array Value} {u:FrameMode} {w:World} {R:Ending→FrameMode→World→Prop}
 (hf:P.funcs[f]?=some fn) (hb:fn.body=some c) (T:Array Value) (hT:args ++ Array.replicate (fn.ntmps - args.size) undef=T)
 (h:∀ (c₀:Frame) (cs:List Frame),c₀.mode=u→c.wpS P (bodyPostS P fn c₀ cs R) { tmps:=T,defers:=[] } (c₀ :: cs) w):CallsD P f args u w R:=
 callsD_of_wpS hf hb (by rw [hT]; exact h)
theorem Tryz.asFault (v:Value) (w:World):(Instr.typeAssert (.iface 49 v) 20 49 true).run Tryz.prog w=.ok (.tuple #[v,.bool true]) w:=by kernel_rfl
theorem Z81 (p q:Addr) (w:World) :
 CallsD Tryz.prog 18 #[.pointer (some p),.pointer (some q)] .returning w fun e u' w'=>e=.returned (.tuple #[])∧u'=.returning∧w'=w:=by
 refine Z3n Tryz.func18 rfl #[.pointer (some p),.pointer (some q),undef,undef,undef,undef,undef,undef,undef,undef,undef,undef,undef,undef,undef,undef,undef,undef] (by rfl) fun c₀ cs hu=>?_;apply wpS_seq;apply wpS_region;simp [wpOpsS,go_sem,recoverD,hu,Exit.thenS];refine wpS_of_wp ?_;go_wp2;cases c₀;simp_all [bodyPostS,results,Tryz.results18]
def Z3u (w:World) (pb qb:Nat) (x:Value) (w':World):Prop:=
 w'.heap[pb]?=some (.cells #[.pointer none] 22 (0,0))∧w'.heap[qb]?=some (.cells #[x] 30 (0,0))∧w'.os=w.os∧w'.tape=w.tape∧w'.output=w.output∧w.heap.size≤w'.heap.size∧∀ k,k < w.heap.size→k≠pb→k≠qb→w'.heap[k]?=w.heap[k]?
theorem Z9f {w w1:World} {pb qb:Nat} {x x0 y0:Value} (hp:w.heap[pb]?=some (.cells #[x0] 22 (0,0))) (hq:w.heap[qb]?=some (.cells #[y0] 30 (0,0))) (hpq:pb≠qb) (hB:Below w.heap.size w w1) :
 Z3u w pb qb x ((w1.setCell ⟨pb,0,none⟩ (.pointer none)).setCell ⟨qb,0,none⟩ x):=by
 have hpl:pb < w.heap.size:=(Y1.1 hp).1;have hql:qb < w.heap.size:=(Y1.1 hq).1;refine ⟨?_,?_,hB.os,hB.tape,hB.output,by rw [Yf,Yf]; exact hB.size,fun k hk h1 h2=>?_⟩;·exact (Y8 _ _ _ _ hpq).trans (Zm (o:=0) _ ((hB.block pb hpl).trans hp))
 ·exact Zm (o:=0) _ ((Y8 _ _ _ _ (Ne.symm hpq)).trans ((hB.block qb hql).trans hq))
 ·exact (Y8 _ _ _ _ h2).trans ((Y8 _ _ _ _ h1).trans (hB.block k hk))
theorem Z3u.below {w w1 w2:World} {pb qb:Nat} {x:Value} (h:Z3u w pb qb x w1) (hB:Below w1.heap.size w1 w2):Z3u w pb qb x w2:=by
 obtain ⟨h1,h2,h3,h4,h5,h6,h7⟩:=h;refine ⟨(hB.block pb (Y1.1 h1).1).trans h1,(hB.block qb (Y1.1 h2).1).trans h2,hB.os.trans h3,hB.tape.trans h4,hB.output.trans h5,Y4 h6 hB.size,fun k hk a b=>(hB.block k (Y7 hk h6)).trans (h7 k hk a b)⟩
theorem Z9t (pb qb:Nat) (b:Nat) (older:List PanicEntry) (w:World) (x0 y0:Value) (hp:w.heap[pb]?=some (.cells #[x0] 22 (0,0))) (hq:w.heap[qb]?=some (.cells #[y0] 30 (0,0))) (hpq:pb≠qb) :
 CallsD Tryz.prog 18 #[.pointer (some ⟨pb,0,none⟩),.pointer (some ⟨qb,0,none⟩)] (.panicking ({ v:=.iface 49 (.agg #[.iface 80 (.pointer (some ⟨b,0,none⟩))]),recovered:=false } :: older)) w fun e u' w'=>
  e=.returned (.tuple #[])∧u'=.panicking ({ v:=.iface 49 (.agg #[.iface 80 (.pointer (some ⟨b,0,none⟩))]),recovered:=true } :: older)∧Z3u w pb qb (.iface 80 (.pointer (some ⟨b,0,none⟩))) w':=by
 have hpl:pb < w.heap.size:=(Y1.1 hp).1;have hql:qb < w.heap.size:=(Y1.1 hq).1;have cp:w.cell? ⟨pb,0,none⟩=some x0:=by simp [World.cell?,hp]
 have cq:w.cell? ⟨qb,0,none⟩=some y0:=by simp [World.cell?,hq]
 have zp:w.frozen? ⟨pb,0,none⟩=false:=by simp [World.frozen?,hp]
 have zq:w.frozen? ⟨qb,0,none⟩=false:=by simp [World.frozen?,hq]
 have hta:=Tryz.asFault (.agg #[.iface 80 (.pointer (some ⟨b,0,none⟩))]);refine Z3n Tryz.func18 rfl #[.pointer (some ⟨pb,0,none⟩),.pointer (some ⟨qb,0,none⟩),undef,undef,undef,undef,undef,undef,undef,undef,undef,undef,undef,undef,undef,undef,undef,undef] (by rfl) fun c₀ cs hu=>?_;apply wpS_seq;apply wpS_region;simp [wpOpsS,go_sem,recoverD,hu,Exit.thenS];refine wpS_of_wp ?_;clear hu;go_wp2;go_region
 have CP:=((Z9f (x:=.iface 80 (.pointer (some ⟨b,0,none⟩))) hp hq hpq (Y2 _ w)).below ((Y2 _ _).alloc (Y0 _) (.cells #[.iface 80 (.pointer (some ⟨b,0,none⟩))] 49))).below (Y2 _ _).drew;have CP:=lh CP;clear hp hq hpq hpl hql cp cq zp zq hta;show bodyPostS _ _ _ _ _ Exit.normal _ _ _;cases c₀;simp [bodyPostS,results,Tryz.results18];exact CP.out
theorem Zad (w:World) (text:ByteArray) (hm:3000 < text.size) :
 Calls Tryz.prog 17 #[.string text] w fun e w'=>e=.returned (.tuple #[.slice none 0 0,.iface 33 (.int .i64 4)])∧w=w':=by
 have hm':(3000:Int) < text.size:=by omega
 go_enter Tryz.func17,Tryz.ntmps17
 go_wp2;go_ret2
 exact ⟨rfl,rfl⟩
def Zf2 (w':World) (base:Nat) (x:Value) (c p:Int):Prop:=(p=-1∧x=.iface 33 (.int .i64 c))∨∃ q:Nat,p=q∧Zf4 w' base x c q
def Z35 (w:World) (r:Except (Int×Int) Tree) (e:Ending) (w':World):Prop:=
 Below w.heap.size w w'∧match r with
 | .ok t=>∃ a,e=.returned (.tuple #[.pointer (some ⟨a.b,0,none⟩),.nilIface])∧Got w w.heap.size w' a t
 | .error (c,p)=>∃ x,e=.returned (.tuple #[.pointer none,x])∧Zf2 w' w.heap.size x c p
def Z29 (w:World):World:=(w.alloc (.cells #[.pointer none] 22)).alloc (.cells #[.nilIface] 30)
theorem Z69 (w:World):(Z29 w).heap[w.heap.size]?=some (.cells #[.pointer none] 22 (0,0))∧(Z29 w).heap[w.heap.size + 1]?=some (.cells #[.nilIface] 30 (0,0))∧(Z29 w).heap.size=w.heap.size + 2∧Below w.heap.size w (Z29 w):=by
 have h1:Below w.heap.size w (w.alloc (.cells #[.pointer none] 22)):=(Y2 _ _).alloc (Y0 _) _;have h2:Below (w.alloc (.cells #[.pointer none] 22)).heap.size (w.alloc (.cells #[.pointer none] 22)) (Z29 w):=(Y2 _ _).alloc (Y0 _) _;have e1:(w.alloc (.cells #[.pointer none] 22)).heap.size=w.heap.size + 1:=by simp
 refine ⟨?_,?_,by simp [Z29],h1.alloc (by simp) _⟩;·rw [h2.block w.heap.size (by omega)]; exact heap_alloc_new w _
 ·have:=heap_alloc_new (w.alloc (.cells #[.pointer none] 22)) (.cells #[.nilIface] 30);rw [e1] at this;exact this
theorem Z42 {R:Ending→World→Prop} {tmps:Array Value} {W:World} {pb eb:Nat} {x y:Value} (h2:tmps.getD 2 undef=.pointer (some ⟨pb,0,none⟩)) (h3:tmps.getD 3 undef=.pointer (some ⟨eb,0,none⟩))
 (c1:W.cell? ⟨pb,0,none⟩=some x) (c2:W.cell? ⟨eb,0,none⟩=some y) (hR:R (.returned (.tuple #[x,y])) W):Go.Leaves Tryz.prog Tryz.f8 tmps R [] .returning W:=by
 refine ⟨.tuple #[x,y],?_,hR⟩;have h2':tmps[2]?.getD undef=.pointer (some ⟨pb,0,none⟩):=by simpa using h2
 have h3':tmps[3]?.getD undef=.pointer (some ⟨eb,0,none⟩):=by simpa using h3
 simp [results,Tryz.results8,go_sem,h2',h3',c1,c2]
theorem Z35.bad {w w1 W:World} {c p:Int} {x:Value} (hx:Zf2 w1 (w.heap.size + 2) x c p) (hB:Below w.heap.size w w1) (hW:∀ k,k < w1.heap.size→k≠w.heap.size→k≠w.heap.size + 1→W.heap[k]?=w1.heap[k]?) (hs:w1.heap.size≤W.heap.size)
 (ho:W.os=w1.os) (ht:W.tape=w1.tape) (hu:W.output=w1.output):Z35 w (.error (c,p)) (.returned (.tuple #[.pointer none,x])) W:=by
 refine ⟨⟨ho.trans hB.os,ht.trans hB.tape,hu.trans hB.output,Y4 hB.size hs,fun k hk=>(hW k (Y7 hk hB.size) (by omega) (by omega)).trans (hB.block k hk)⟩,x,rfl,?_⟩;rcases hx with h | ⟨q,hq,b,h1,h2,h3⟩;·exact .inl h
 ·exact .inr ⟨q,hq,b,h1,by omega,(hW b (Y1.1 h3).1 (by omega) (by omega)).trans h3⟩
theorem Z8r (w:World) (text:ByteArray) (c p:Int) (HC:Calls Tryz.prog 17 #[.string text] (Z29 w) fun e w'=>(∃ x,e=.returned (.tuple #[.slice none 0 0,x])∧Zf2 w' (Z29 w).heap.size x c p)∧Below (Z29 w).heap.size (Z29 w) w') :
 Calls Tryz.prog 8 #[.string text] w (Z35 w (.error (c,p))):=by
 obtain ⟨k1,k2,k3,k4⟩:=Z69 w;have K1:=lh k1;have K2:=lh k2;have K3:=lh k3;have K4:=lh k4;obtain ⟨w0,hw0⟩:=zX (Z29 w)
 rw [← hw0] at HC K1 K2 K3 K4;unfold Z29 at hw0;have HW0:=lh hw0;have HC:=lh HC;clear hw0 k1 k2 k3 k4;go_enter_defers Tryz.func8,Tryz.ntmps8
 go_wp2_with fail
 rw [← HW0.out];refine HC.out.mono ?_;rintro e w1 ⟨⟨x,rfl,hx⟩,hB⟩;have b1:=(hB.block w.heap.size (by rw [K3.out]; omega)).trans K1.out;have b2:=(hB.block (w.heap.size + 1) (by rw [K3.out]; omega)).trans K2.out;obtain ⟨pb,hpb⟩:=zX w.heap.size
 obtain ⟨eb,heb⟩:=zX (w.heap.size + 1)
 rw [← heb] at b2;rw [← hpb] at b1;rw [← heb,← hpb];have c1:w1.cell? ⟨pb,0,none⟩=some (.pointer none):=by simp [World.cell?,b1]
 have c2:w1.cell? ⟨eb,0,none⟩=some .nilIface:=by simp [World.cell?,b2]
 have z1:w1.frozen? ⟨pb,0,none⟩=false:=by simp [World.frozen?,b1]
 have z2:w1.frozen? ⟨eb,0,none⟩=false:=by simp [World.frozen?,b2]
 have hne:pb≠eb:=by omega
 have hl1:pb < w1.heap.size:=(Y1.1 b1).1;have hl2:eb < w1.heap.size:=(Y1.1 b2).1;have HX:=lh hx;have HB:=lh hB;have HPB:=lh hpb;have HEB:=lh heb;have B1:=lh b1;have B2:=lh b2;obtain ⟨tx,vx,hxx⟩:∃ tx vx,x=.iface tx vx:=by
  rcases hx with ⟨_,rfl⟩ | ⟨q,_,b,rfl,_⟩;·exact ⟨_,_,rfl⟩
  ·exact ⟨_,_,rfl⟩
 subst hxx;clear hx hB hpb heb b1 b2 HC;go_wp2_with fail
 go_region
 go_wp2;refine Z42 (pb:=pb) (eb:=eb) rfl rfl (x:=.pointer none) (y:=.iface tx vx) ?_ ?_ ?_;·go_simp
 ·go_simp
 ·refine Z35.bad (w1 := w1) (by have := HX.out; rwa [K3.out] at this) (K4.out.trans (HB.out.mono K4.out.size)) (fun k hk h1 h2 => ?_) ?_ rfl rfl rfl
  ·rw [← HPB.out] at h1;rw [← HEB.out] at h2;exact ((Y8 _ _ _ _ h2).trans (Y8 _ _ _ _ h1)).trans (Y8 _ _ _ _ h2)
  ·show _≤(World.setCell _ _ _).heap.size;rw [Yf,Yf,Yf];exact Y0 _
theorem Z2a.mono {w:World} {rb rb':Nat} (h:Z2a w rb) (hr:rb≤rb'):Z2a w rb':=by
 intro lv hl;obtain ⟨b,off,cap,h1,h2,h3⟩:=h lv hl;exact ⟨b,off,cap,by omega,by omega,h3⟩
theorem Rd.new {w1 w2:World} {base rb:Nat} {ts:List Tok} {v:Value} (hv:w1.ownsRow base 79 4 v ts.length (ts.flatMap Tok.cells)) (hl:∃ l e,ts=l ++ [e]∧e.kind=6∧∀ t∈l,t.kind≠6)
 (hb:w2.heap[rb]?=some (.cells #[v,.int .i64 0] 53 (0,0))) (hr:rb=w1.heap.size) (hk:∀ k,k < w1.heap.size→v.ownBlock=some k→w2.heap[k]?=w1.heap[k]?) (hs:w1.heap.size≤w2.heap.size) (hL:Z2a w2 rb):Rd w2 rb ts 0:=by
 have hpos:0 < ts.length:=by obtain ⟨l,e,h,_⟩:=hl; rw [h]; simp
 rcases Z8 hv with ⟨_,h2⟩ | ⟨g,cap,rfl,h1,h2,h3⟩;·omega
 have hg:g < w1.heap.size:=(hv.lt g rfl).2;refine ⟨g,0,cap,⟨hb,h1,h2,by omega,Y7 hg hs,fun k t j x hi hj=>?_,hl,hL⟩⟩;have:=Zej (f:=Tok.cells) (fun _=>rfl) hv (g:=g) rfl hi hj;rw [Nat.zero_add];exact (Yb (hk g hg rfl)).trans this
theorem Zdk (c:Int):IntKind.i64.wrap (IntKind.i64.wrap c + 1)=IntKind.i64.wrap (c + 1):=by
 simp only [IntKind.wrap_i64];omega
def Z9e (w4:World) (B mb:Nat) (a:ATree) (c:Nat) (W:World):Prop:=
 TreeAt W B a∧W.heap[mb]?=some (.cells #[.int .i64 (IntKind.i64.wrap c)] 3 (0,0))∧W.os=w4.os∧W.tape=w4.tape∧W.output=w4.output∧w4.heap.size≤W.heap.size∧∀ k,k < w4.heap.size→k≠mb→W.heap[k]?=w4.heap[k]?
def cntG (c:Nat) (x:ATree):Bool×Nat:=(true,c + 1)
mutual
theorem Zan:∀ (a:ATree) (c:Nat),Z3j cntG a c=c + a.many
 | .mk b v k t n l,c=>by simp only [Z3j,cntG,if_true,ATree.many]; rw [Z8t l]; omega
theorem Z8t:∀ (l:List ATree) (c:Nat),Z17 cntG l c=c + Z0h l
 | [],c=>by simp [Z17,Z0h]
 | a :: l,c=>by simp only [Z17,Z0h]; rw [Zan a,Z8t l]; omega
end
theorem Zfk (w4:World) (B mb:Nat) (a x:ATree) (hmb:mb < B∨mb ∉ a.blocks) (hml:mb < w4.heap.size) (c:Nat) (w:World) (hI:Z9e w4 B mb a c w) :
 Calls Tryz.prog 21 #[x.ptr,.pointer (some ⟨mb,0,none⟩)] w fun e w'=>e=.returned (.bool (cntG c x).1)∧Z9e w4 B mb a (cntG c x).2 w':=by
 obtain ⟨h1,h2,h3,h4,h5,h6,h7⟩:=hI;have c1:w.cell? ⟨mb,0,none⟩=some (.int .i64 (IntKind.i64.wrap c)):=by simp [World.cell?,h2]
 have z1:w.frozen? ⟨mb,0,none⟩=false:=by simp [World.frozen?,h2]
 have hn:mb ∉ a.blocks:=by
  rcases hmb with h | h;·intro hx; have:=(h1.has mb hx).1; omega
  ·exact h
 obtain ⟨y,hy⟩:∃ y,y=IntKind.i64.wrap (c:Int):=⟨_,rfl⟩
 rw [← hy] at c1;have H:Hid (Z9e w4 B mb a (c + 1) (w.setCell ⟨mb,0,none⟩ (.int .i64 (IntKind.i64.wrap (y + 1))))):=by
  refine lh ⟨h1.keepB fun k hk=>Y8 _ _ _ _ (fun e=>hn (by have e':k=mb:=e; rw [← e']; exact hk)),?_,h3,h4,h5,by rw [Yf]; exact h6,fun k hk hne=>(Y8 _ _ _ _ hne).trans (h7 k hk hne)⟩;rw [show IntKind.i64.wrap (((c + 1:Nat):Int))=IntKind.i64.wrap (y + 1) by rw [hy,Zdk]; rfl];exact Zm (o:=0) _ h2
 unfold ATree.ptr;clear h1 h2 h3 h4 h5 h6 h7 hn hy hmb;go_enter Tryz.func21,Tryz.ntmps21
 go_wp2;go_ret;rw [show wrap64 (y + 1)=IntKind.i64.wrap (y + 1) by simp only [IntKind.wrap_i64,wrap64]];exact ⟨rfl,H.out⟩
def finP:Except (Int×Nat) (Tree×List Tok)→Except (Int×Int) Tree
 | .error (e,p)=>.error (e,p)
 | .ok (t,_)=>if 1500 < t.many then .error (4,-1) else .ok t
theorem Zbx (w:World) (text:ByteArray) (hm:text.size≤3000) (hW:Words w) (hL:Z2a w w.heap.size) (ts:List Tok) (ht:Z2j text=.ok ts) :
 Calls Tryz.prog 8 #[.string text] w (Z35 w (Zi text)):=by
 obtain ⟨k1,k2,k3,k4⟩:=Z69 w;obtain ⟨w0,hw0⟩:=zX (Z29 w)
 rw [← hw0] at k1 k2 k3 k4;have HC:=Z7r w0 text hm (hW.below k4);rw [ht] at HC;have HC:=lh HC;have HL:=lh hL;obtain ⟨s1,s2,s3⟩:=Z6w ts 0 (Yh _) (Z33 ht);have S1:=lh s1;have S2:=lh s2;have HM:=lh hm;have HT:=lh ht;have hmf:∀ (fn:Fn) (first cap:Array Value) (w:World),(Instr.makeFunc fn first cap).run Tryz.prog w=.ok (.func fn first cap) w:=fun _ _ _ _=>rfl;obtain ⟨r,hr⟩:∃ r,Z0 (40 * ts.length + 31) (.stmts 1 []) 0 ts=some r:=by
  have:=Zb5 (40 * ts.length + 31) (.stmts 1 []) 0 ts (by simp only [Job.rank]; omega);cases h:Z0 (40 * ts.length + 31) (.stmts 1 []) 0 ts with
  | none=>exact absurd h this
  | some r=>exact ⟨r,rfl⟩
 have hall:Zi text=finP r:=by
  unfold Zi;rw [Y3 (by omega),ht];simp only [hr];rcases r with ⟨e,p⟩ | ⟨t,us⟩ <;> rfl
 have HR:=lh hr;have HALL:=lh hall;have K1:=lh k1;have K2:=lh k2;have K3:=lh k3;have K4:=lh k4;unfold Z29 at hw0;have HW0:=lh hw0;clear hw0 k1 k2 k3 k4 s1 s2 s3 ht hr hall hm hL hW;go_enter_defers Tryz.func8,Tryz.ntmps8
 go_wp2_with fail
 rw [← HW0.out];refine HC.out.mono ?_;rintro e w1 ⟨⟨v,rfl,hv⟩,hB⟩;obtain ⟨vp,vn,vc,hvv⟩:∃ p n c,v=.slice p n c:=by
  rcases Z8 hv with ⟨h1,_⟩ | ⟨g,cap,h1,_⟩;·exact ⟨_,_,_,h1⟩
  ·exact ⟨_,_,_,h1⟩
 subst hvv;have b1:=(hB.block w.heap.size (by rw [K3.out]; omega)).trans K1.out;have b2:=(hB.block (w.heap.size + 1) (by rw [K3.out]; omega)).trans K2.out;obtain ⟨pb,hpb⟩:=zX w.heap.size
 obtain ⟨eb,heb⟩:=zX (w.heap.size + 1)
 rw [← heb] at b2;rw [← hpb] at b1;rw [← heb,← hpb];have hne:pb≠eb:=by omega
 have c1:w1.cell? ⟨pb,0,none⟩=some (.pointer none):=by simp [World.cell?,b1]
 have c2:w1.cell? ⟨eb,0,none⟩=some .nilIface:=by simp [World.cell?,b2]
 have z1:w1.frozen? ⟨pb,0,none⟩=false:=by simp [World.frozen?,b1]
 have z2:w1.frozen? ⟨eb,0,none⟩=false:=by simp [World.frozen?,b2]
 have hl1:pb < w1.heap.size:=(Y1.1 b1).1;have hl2:eb < w1.heap.size:=(Y1.1 b2).1;have B01:=lh (K4.out.trans (hB.mono K4.out.size));have HV:=lh hv;have HPB:=lh hpb;have HEB:=lh heb;have BB1:=lh b1;have BB2:=lh b2;obtain ⟨w2,hw2⟩:=zX ((w1.setCell ⟨eb,0,none⟩ .nilIface).alloc (.cells #[.slice vp vn vc,.int .i64 0] 53))
 obtain ⟨rb,hrb⟩:=zX w1.heap.size
 have hs1:(w1.setCell ⟨eb,0,none⟩ .nilIface).heap.size=rb:=by rw [hrb]; exact Yf ..
 have hs2:w2.heap.size=rb + 1:=by rw [hw2]; simp [hrb]
 have far2:∀ k,k < rb→k≠eb→w2.heap[k]?=w1.heap[k]?:=fun k hk hn=>by
  rw [hw2];exact (Below.heap_alloc _ _ _ (by rw [hs1]; exact hk)).trans (Y8 _ _ _ _ hn)
 have e2:w2.heap[eb]?=some (.cells #[.nilIface] 30 (0,0)):=by
  rw [hw2];exact (Below.heap_alloc _ _ _ (by rw [hs1]; omega)).trans (Zm (o:=0) .nilIface b2)
 have r2:w2.heap[rb]?=some (.cells #[.slice vp vn vc,.int .i64 0] 53 (0,0)):=by
  rw [hw2,← hs1]; exact heap_alloc_new _ _
 have hlev:Z2a w2 rb:=by
  refine (HL.out.keep (w':=w2) fun k hk=>?_).mono (by have:=B01.out.size; omega);exact (far2 k (by have:=B01.out.size; omega) (by omega)).trans (B01.out.block k hk)
 have hvb:∀ k,(Value.slice vp vn vc).ownBlock=some k→k≠eb:=fun k hk=>by have:=(hv.lt k hk).1; rw [K3.out] at this; omega
 have hrd:Rd w2 rb ts 0:=Rd.new hv S1.out r2 hrb (fun k hk hk2=>far2 k (by omega) (hvb k hk2)) (by omega) hlev;have hP:Pre w2 rb w2.heap.size 0 ts:=⟨hrd,by omega,by omega,Y0 _,by have:=S2.out; have:=HM.out; omega⟩
 have HS:=Zdy _ w2 rb w2.heap.size 0 ts r hP HR.out;simp only at HS;have HS:=lh HS;have FAR2:=lh far2;have E2:=lh e2;have HW2:=lh hw2;have HRB:=lh hrb;have HS2:=lh hs2;have p2:=(FAR2.out pb (by omega) hne).trans b1;have PP2:=lh p2;have RFR2:=lh (show w2.os=w1.os∧w2.tape=w1.tape∧w2.output=w1.output by rw [hw2]; exact ⟨rfl,rfl,rfl⟩);clear hB hv hpb heb b1 b2 HC hw2 hrb hs1 hs2 far2 e2 r2 hlev hvb hrd hP p2;go_wp2_with fail
 rw [← HW2.out,← HRB.out];refine HS.out.mono ?_;have BW2:Hid (∀ k,k < w.heap.size→w2.heap[k]?=w.heap[k]?):=lh fun k hk=>(FAR2.out k (by have:=B01.out.size; have:=HRB.out; omega) (by have:=HEB.out; omega)).trans (B01.out.block k hk);have SZ:Hid (w.heap.size + 2≤rb):=lh (by have:=HEB.out; have:=HRB.out; omega);rcases r with ⟨c,p⟩ | ⟨t,us⟩
 ·rintro e w3 ⟨⟨b, rfl, h1, h2⟩, hF⟩;have p3 := (hF.block pb (by have := HS2.out; have := HRB.out; omega) (by have := SZ.out; have := HPB.out; omega)).trans PP2.out;have e3 := (hF.block eb (by have := HS2.out; have := HRB.out; omega) (by have := SZ.out; have := HEB.out; omega)).trans E2.out;have H1 := lh h1;have H2 := lh h2;have FF := lh hF;rw [HALL.out];clear h1 h2 hF HS;refine leaves_cons (f := 18) (args := #[.pointer (some ⟨pb, 0, none⟩), .pointer (some ⟨eb, 0, none⟩)]) (by simp) (by simp [go_sem]) ?_;refine (Z9t pb eb b [] w3 _ _ p3 e3 hne).mono ?_;rintro e u' w4 ⟨rfl, rfl, hCP⟩
  obtain ⟨q1,q2,q3,q4,q5,q6,q7⟩:=hCP;show Go.Leaves _ _ _ _ [] .returning _;refine Z42 (pb:=pb) (eb:=eb) rfl rfl (x:=.pointer none) (y:=.iface 80 (.pointer (some ⟨b,0,none⟩))) (by simp [World.cell?,q1]) (by simp [World.cell?,q2]) ?_;have hsz:=FF.out.size;have hb3:b < w3.heap.size:=(Y1.1 H2.out).1;have hbb:=H1.out;refine ⟨⟨?_,?_,?_,?_,fun k hk=>?_⟩,.iface 80 (.pointer (some ⟨b,0,none⟩)),rfl,.inr ⟨p,rfl,b,rfl,?_,?_⟩⟩;·exact q3.trans (FF.out.os.trans (RFR2.out.1.trans B01.out.os))
  ·exact q4.trans (FF.out.tape.trans (RFR2.out.2.1.trans B01.out.tape))
  ·exact q5.trans (FF.out.output.trans (RFR2.out.2.2.trans B01.out.output))
  ·have:=HS2.out; have:=SZ.out; omega
  ·have h2:=HS2.out; have h3:=SZ.out; have h4:=HPB.out; have h5:=HEB.out;exact (q7 k (by omega) (by omega) (by omega)).trans ((FF.out.block k (by omega) (by omega)).trans (BW2.out k hk))
  ·have:=HS2.out; have:=SZ.out; omega
  ·have h2:=HS2.out; have h3:=SZ.out; have h4:=HPB.out; have h5:=HEB.out;exact (q7 b hb3 (by omega) (by omega)).trans H2.out
 ·rintro e w3 ⟨a, rfl, hG, hR3, hF⟩;have h2 := HS2.out; have h3 := SZ.out; have h4 := HPB.out; have h5 := HEB.out; have h6 := HRB.out;have p3 := (hF.block pb (by omega) (by omega)).trans PP2.out;have e3 := (hF.block eb (by omega) (by omega)).trans E2.out;have hsz := hF.size;obtain ⟨mb, hmb⟩ := zX w3.heap.size
  obtain ⟨w4,hw4⟩:=zX ((w3.setCell ⟨pb,0,none⟩ (.pointer (some ⟨a.b,0,none⟩))).alloc (.cells #[.int .i64 0] 3))
  have hs3:(w3.setCell ⟨pb,0,none⟩ (.pointer (some ⟨a.b,0,none⟩))).heap.size=mb:=by rw [hmb]; exact Yf ..
  have hs4:w4.heap.size=mb + 1:=by rw [hw4]; simp [hmb]
  have far4:∀ k,k < mb→k≠pb→w4.heap[k]?=w3.heap[k]?:=fun k hk hn=>by
   rw [hw4];exact (Below.heap_alloc _ _ _ (by rw [hs3]; exact hk)).trans (Y8 _ _ _ _ hn)
  have p4:w4.heap[pb]?=some (.cells #[.pointer (some ⟨a.b,0,none⟩)] 22 (0,0)):=by
   rw [hw4];exact (Below.heap_alloc _ _ _ (by rw [hs3]; omega)).trans (Zm (o:=0) _ p3)
  have m4:w4.heap[mb]?=some (.cells #[.int .i64 0] 3 (0,0)):=by
   rw [hw4,← hs3]; exact heap_alloc_new _ _
  have hT4:TreeAt w4 w2.heap.size a:=hG.at'.keepB fun k hk=>far4 k (by have:=(hG.new k hk).2; omega) (by have:=(hG.new k hk).1; omega);have hI:Z9e w4 w2.heap.size mb a 0 w4:=⟨hT4,m4,rfl,rfl,rfl,Y0 _,fun _ _ _=>rfl⟩
  have hmn:mb ∉ a.blocks:=fun hx=>by have:=(hG.new mb hx).2; omega
  have HWK:=Zfl ⟨mb,0,none⟩ (Z9e w4 w2.heap.size mb a) cntG w2.heap.size a.many a (Y0 _) (fun s W h=>h.1) (fun x hx s W h=>Zfk w4 w2.heap.size mb a x (.inr hmn) (by omega) s W h) 0 w4 hI;unfold ATree.ptr at HWK;rw [Zan,Nat.zero_add,← Z6f,hG.tree] at HWK;have HWK:=lh HWK;have c3:w3.cell? ⟨pb,0,none⟩=some (.pointer none):=by simp [World.cell?,p3]
  have z3:w3.frozen? ⟨pb,0,none⟩=false:=by simp [World.frozen?,p3]
  have hpl3:pb < w3.heap.size:=by omega
  have HG:=lh hG;have FF:=lh hF;have HW4:=lh hw4;have HMB:=lh hmb;have HS4:=lh hs4;have FAR4:=lh far4;have P4:=lh p4;have E3:=lh e3;have hmany:t.many≤6100:=by
   have:=Zbj _ _ _ _ _ _ HR.out;simp only [Job.base,Z1t] at this;have:=S2.out; have:=HM.out;omega
  have RF4:=lh (show w4.os=w3.os∧w4.tape=w3.tape∧w4.output=w3.output by rw [hw4]; exact ⟨rfl,rfl,rfl⟩);clear hG hR3 hF hw4 hmb hs3 hs4 far4 p4 m4 hT4 hI hmn p3 e3 h2 h3 h4 h5 h6 hsz HS;go_wp2_with fail
  rw [← HW4.out,← HMB.out];refine HWK.out.mono ?_;rintro e w5 ⟨rfl,i1,i2,i3,i4,i5,i6,i7⟩;rw [show IntKind.i64.wrap ((t.many:Nat):Int)=(t.many:Int) by simp only [IntKind.wrap_i64]; omega] at i2;have h2:=HS2.out; have h3:=SZ.out; have h4:=HPB.out; have h5:=HEB.out; have h6:=HRB.out; have h7:=HS4.out; have h8:=HMB.out; have h9:=FF.out.size;have p5:=(i7 pb (by omega) (by omega)).trans P4.out;have e5:=(i7 eb (by omega) (by omega)).trans ((FAR4.out eb (by omega) (by omega)).trans E3.out)
  have cm:w5.cell? ⟨mb,0,none⟩=some (.int .i64 (t.many:Int)):=by simp [World.cell?,i2]
  have cp:w5.cell? ⟨pb,0,none⟩=some (.pointer (some ⟨a.b,0,none⟩)):=by simp [World.cell?,p5]
  have ce:w5.cell? ⟨eb,0,none⟩=some .nilIface:=by simp [World.cell?,e5]
  have zp:w5.frozen? ⟨pb,0,none⟩=false:=by simp [World.frozen?,p5]
  have ze:w5.frozen? ⟨eb,0,none⟩=false:=by simp [World.frozen?,e5]
  have hl5:pb < w5.heap.size:=by omega
  have hl6:eb < w5.heap.size:=by omega
  have fin:Hid (∀ (W:World) (x y:Value),W=(w5.setCell ⟨pb,0,none⟩ x).setCell ⟨eb,0,none⟩ y→Below w.heap.size w W∧Got w w.heap.size W a t):=by
   refine lh fun W x y hW=>?_;have hsW:W.heap.size=w5.heap.size:=by rw [hW,Yf,Yf]
   have farW:∀ k,k≠pb→k≠eb→W.heap[k]?=w5.heap[k]?:=fun k h1 h2=>by rw [hW]; exact (Y8 _ _ _ _ h2).trans (Y8 _ _ _ _ h1)
   have farA:∀ k,k < mb→k≠pb→k≠eb→W.heap[k]?=w3.heap[k]?:=fun k hk h1 h2=>(farW k h1 h2).trans ((i7 k (by omega) (by omega)).trans (FAR4.out k (by omega) h1));have o1:W.os=w5.os∧W.tape=w5.tape∧W.output=w5.output:=by rw [hW]; exact ⟨rfl,rfl,rfl⟩
   refine ⟨⟨?_,?_,?_,by omega,fun k hk=>?_⟩,⟨HG.out.tree,?_,HG.out.nodup,fun z hz=>?_⟩⟩;·exact o1.1.trans (i3.trans (RF4.out.1.trans (FF.out.os.trans (RFR2.out.1.trans B01.out.os))))
   ·exact o1.2.1.trans (i4.trans (RF4.out.2.1.trans (FF.out.tape.trans (RFR2.out.2.1.trans B01.out.tape))))
   ·exact o1.2.2.trans (i5.trans (RF4.out.2.2.trans (FF.out.output.trans (RFR2.out.2.2.trans B01.out.output))))
   ·exact (farA k (by omega) (by omega) (by omega)).trans ((FF.out.block k (by omega) (by omega)).trans (BW2.out k hk))
   ·refine (HG.out.at'.keepB fun k hk=>?_).base (by omega);have:=HG.out.new k hk;exact farA k (by omega) (by omega) (by omega)
   ·have:=HG.out.new z hz; omega
  have HALL2:Zi text=if 1500 < t.many then .error (4,-1) else .ok t:=HALL.out;clear i1 i2 i3 i4 i5 i6 i7 p5 e5 h2 h3 h4 h5 h6 h7 h8 h9 HWK;by_cases hbig:1500 < t.many
  ·rw [Y5 hbig] at HALL2;have hb : decide ((t.many : Int) > 1500) = true := by simp; omega
   have HA:=lh HALL2;clear HALL2 hbig;go_wp2_with fail
   refine leaves_cons (f:=18) (args:=#[.pointer (some ⟨pb,0,none⟩),.pointer (some ⟨eb,0,none⟩)]) (by simp) (by simp [go_sem]) ?_;refine (Z81 ⟨pb,0,none⟩ ⟨eb,0,none⟩ _).mono ?_;rintro e u' w6 ⟨rfl,rfl,rfl⟩;show Go.Leaves _ _ _ _ [] .returning _;refine Z42 (pb:=pb) (eb:=eb) rfl rfl (x:=.pointer none) (y:=.iface 33 (.int .i64 4)) (by go_simp) (by go_simp) ?_;rw [HA.out];have hf:=fin.out _ (.pointer none) (.iface 33 (.int .i64 4)) rfl;exact ⟨hf.1,_,rfl,.inl ⟨rfl,rfl⟩⟩
  ·rw [Y3 hbig] at HALL2;have hb : decide ((t.many : Int) > 1500) = false := by simp; omega
   have HA:=lh HALL2;clear HALL2 hbig;go_wp2_with fail
   refine leaves_cons (f:=18) (args:=#[.pointer (some ⟨pb,0,none⟩),.pointer (some ⟨eb,0,none⟩)]) (by simp) (by simp [go_sem]) ?_;refine (Z81 ⟨pb,0,none⟩ ⟨eb,0,none⟩ _).mono ?_;rintro e u' w6 ⟨rfl,rfl,rfl⟩;show Go.Leaves _ _ _ _ [] .returning _;refine Z42 (pb:=pb) (eb:=eb) rfl rfl (x:=.pointer (some ⟨a.b,0,none⟩)) (y:=.nilIface) (by go_simp) (by go_simp) ?_;rw [HA.out];have hf:=fin.out _ (.pointer (some ⟨a.b,0,none⟩)) (.nilIface) rfl;exact ⟨hf.1,a,rfl,hf.2⟩
theorem Z9b (w:World) (text:ByteArray) (hW:Words w) (hL:Z2a w w.heap.size) :
 Calls Tryz.prog 8 #[.string text] w (Z35 w (Zi text)):=by
 have k4:=(Z69 w).2.2.2;by_cases hm:3000 < text.size
 ·have e : Zi text = .error (4, -1) := by unfold Zi; rw [Y5 hm]
  rw [e];exact Z8r w text 4 (-1) ((Zad (Z29 w) text hm).mono fun e w' ⟨h1,h2⟩=>by subst h1; subst h2; exact ⟨⟨_,rfl,.inl ⟨rfl,rfl⟩⟩,Y2 _ _⟩)
 ·cases ht : Z2j text with
  | ok ts=>exact Zbx w text (by omega) hW hL ts ht
  | error x =>
    obtain ⟨c,p⟩:=x;have e:Zi text=.error (c,(p:Int)):=by unfold Zi; rw [Y3 hm,ht]
    rw [e];have HC:=Z7r (Z29 w) text (by omega) (hW.below k4);rw [ht] at HC;exact Z8r w text c p (HC.mono fun e w' ⟨⟨x,h1,h2⟩,h3⟩=>⟨⟨x,h1,.inr ⟨p,rfl,h2⟩⟩,h3⟩)
theorem Z9u {text:ByteArray} {t:Tree} (h:Zi text=.ok t):WT t∧t.many≤1500:=by
 unfold Zi at h;split at h;·cases h
 ·split at h;·cases h
  ·rename_i ts _;split at h;·cases h
   ·cases h
   ·rename_i t' ts' hp;split at h;·cases h
    ·have e : t' = t := by simpa using h
     subst e;refine ⟨Z9w _ _ _ _ (show Job.good (.stmts 1 []) from ⟨.inl rfl,trivial⟩) _ _ hp,by omega⟩
def Zaj (w:World) (r:Except (Int×Int) Tree) (e:Ending) (w':World):Prop:=
 Below w.heap.size w w'∧match r with
 | .ok t=>∃ a,e=.returned (.tuple #[.pointer (some ⟨a.b,0,none⟩),.bool (t.kind == 1)])∧Got w w.heap.size w' a t
 | .error _=>e=.returned (.tuple #[.pointer none,.bool false])
theorem Zds {a:ATree} {t:Tree} (h:a.tree=t):t.kind=a.kind:=by subst h; cases a; rfl
theorem Z6g (w:World) (text:ByteArray) (hW:Words w) (hL:Z2a w w.heap.size) :
 Calls Tryz.prog 4 #[.string text] w (Zaj w (Zi text)):=by
 have HP:=lh (Z9b w text hW hL);obtain ⟨r,hr⟩:=zX (Zi text)
 rw [← hr] at HP ⊢;clear hr hW hL;unfold Zaj;cases r with
 | error x =>
   obtain ⟨c,p⟩:=x;go_enter Tryz.func4,Tryz.ntmps4
   go_wp2_with fail
   refine HP.out.mono ?_;rintro e w1 ⟨hb,x,rfl,hx⟩;have HB:=lh hb;have hne:x≠.nilIface:=by
    rcases hx with ⟨_,rfl⟩ | ⟨q,_,hx⟩;·simp
    ·obtain ⟨_,rfl,_⟩:=hx;simp
   obtain ⟨T,y,rfl⟩:∃ T y,x=.iface T y:=by
    rcases hx with ⟨_,rfl⟩ | ⟨q,_,hx⟩;·exact ⟨_,_,rfl⟩
    ·obtain ⟨_,rfl,_⟩:=hx;exact ⟨_,_,rfl⟩
   clear hb hx hne HP;go_wp2_with fail
   refine Z1 [(true,0),(true,1),(true,2),(true,3),(true,4),(true,5),(true,6),(true,7),(true,8),(true,9),(true,10),(true,11),(true,12),(true,13),(true,14)] [15] (fun _=>True) (by kernel_rfl) (by kernel_rfl) (fun _ _ d _ _ h=>by cases d <;> exact h) trivial (fun hS0=>?_);simp only [Zc,zD,zE,zF,zG,zH,zI]
   iterate 15
    first
     | (refine Z3 ?_ (by rfl) (fun w' _=>?_) ?_; rotate_left; (go_simp; first | done | with_reducible rfl); simp only [Act.put,zA,zB,zC])
     | (refine Z4 (by rfl) ?_; simp only [Act.put,zA,zB,zC])
   refine Z6 ?_;go_wp2;go_ret2
   exact ⟨HB.out.drew,rfl⟩
 | ok t =>
   go_enter Tryz.func4,Tryz.ntmps4
   go_wp2_with fail
   refine HP.out.mono ?_;rintro e w1 ⟨hb,a,rfl,hg⟩;have c0:=hg.at'.c0;have hk:=Zds hg.tree;obtain ⟨kd,hkd⟩:=zX a.kind
   rw [← hkd] at hk c0;have HK:=lh hk;have HB:=lh hb;have HG:=lh hg;clear hb hg HP hk hkd;go_wp2_with fail
   refine Z1 [(true,0),(true,1),(true,2),(true,3),(true,4),(true,5),(true,6),(true,7),(true,8),(true,9),(true,10),(true,11),(true,12),(true,13),(true,14)] [15] (fun W=>W.cell? ⟨a.b,0,none⟩=some (.int .i64 kd)) (by kernel_rfl) (by kernel_rfl) (fun _ _ d _ _ h=>by cases d <;> exact h) c0 (fun hS0=>?_);simp only [Zc,zD,zE,zF,zG,zH,zI]
   iterate 15
    first
     | (refine Z3 ?_ (by rfl) (fun w' hS'=>?_) ?_; rotate_left; (have s0:=hS'; go_simp; first | done | with_reducible rfl); simp only [Act.put,zA,zB,zC])
     | (refine Z4 (by rfl) ?_; simp only [Act.put,zA,zB,zC])
   refine Z6 ?_;go_wp2;go_ret2
   exact ⟨HB.out.drew,a,by rw [HK.out]; rfl,HG.out.tree,HG.out.at'.keep fun k _ _=>rfl,HG.out.nodup,HG.out.new⟩
theorem Z4n:∀ a b:List UInt8,Op.bytesLess a b=true↔a < b
 | [],[]=>by simp [Op.bytesLess]
 | [],_ :: _=>by simp [Op.bytesLess]
 | _ :: _,[]=>by simp [Op.bytesLess]
 | a :: x, b :: y => by
   have ih:=Z4n x y;simp only [Op.bytesLess,Bool.or_eq_true,decide_eq_true_eq,Bool.and_eq_true,beq_iff_eq,ih];exact (List.cons_lt_cons_iff).symm
theorem Zf7 {L:List ByteArray} (h:L.Pairwise fun x y=>x.data.toList < y.data.toList) {j:Nat} {x y:ByteArray} (hx:L[j]?=some x) (hy:L[j + 1]?=some y):Op.bytesLess x.toList y.toList=true:=by
 rw [Z4n,Lib.toList_data,Lib.toList_data];obtain ⟨h1,rfl⟩:=List.getElem?_eq_some_iff.1 hx;obtain ⟨h2,rfl⟩:=List.getElem?_eq_some_iff.1 hy;exact (List.pairwise_iff_getElem.1 h) j (j + 1) h1 h2 (Nat.lt_succ_self _)
theorem Ze5 {s:ByteArray} (h:Z3l s):Z64 s=true:=by
 obtain ⟨h1,h2,h3,h4,h5⟩:=h;unfold Z64;rw [decide_eq_true h1,decide_eq_true h2,h5,(Z86 s).2];·rfl
 ·intro i hi;unfold badB;have hw := h4 i hi;unfold Z1g at hw;by_cases h0 : i = 0;·subst h0; rw [h3]; rfl
  ·rw [decide_eq_false h0];cases hl : Z01 (Z2 s i)
   ·rw [hl] at hw;simp only [Bool.false_or] at hw;rw [hw]; rfl
   ·rfl
theorem Zc9 (l:List ByteArray) (k:Nat) (s:ByteArray) (h:l[k]?=some s):Z39 (l.take (k + 1))=Z39 (l.take k) ++ ((⟨#[118,97,114,32]⟩ ++ s) ++ ⟨#[59,32]⟩):=by
 obtain ⟨h1,rfl⟩:=List.getElem?_eq_some_iff.1 h;rw [List.take_succ_eq_append_getElem h1,Z80];rfl
theorem Zdc:∀ (l:List ByteArray),(∀ s∈l,s.size≤20)→(Z39 l).size≤26 * l.length:=by
 have key:∀ (l:List ByteArray) (a:ByteArray),(∀ s∈l,s.size≤20)→(l.foldl (fun a s=>a ++ (Z24 ++ s_sp ++ s ++ (Zk ++ s_sp))) a).size≤a.size + 26 * l.length:=by
  intro l;induction l with
  | nil=>intro a _; simp
  | cons s l ih =>
    intro a h;rw [List.foldl_cons];have h1:=ih (a ++ (Z24 ++ s_sp ++ s ++ (Zk ++ s_sp))) (fun x hx=>h x (List.mem_cons_of_mem _ hx));have h2:=h s (List.mem_cons_self ..);have e1:Z24.size=3:=rfl;have e2:s_sp.size=1:=rfl;have e3:Zk.size=1:=rfl;simp only [ByteArray.size_append,e1,e2,e3,List.length_cons] at h1 ⊢;omega
 intro l h;have:=key l ByteArray.empty h;have e:ByteArray.empty.size=0:=rfl;rw [e] at this;unfold Z39;omega
theorem Zaa {text:ByteArray} {t:Tree} (hr:Zi text=.ok t) {L:List ByteArray} (hp:∀ s∈L,Z3l s) (hz:(Z39 L ++ text).size≤3000) :
 Zi (Z39 L ++ text)=.error (4,-1)∨∃ y,Zi (Z39 L ++ text)=.ok y∧y.kids=L.map varT ++ t.kids:=by
 by_cases h:L=[]
 ·subst h;have e:Z39 [] ++ text=text:=by
   show ByteArray.empty ++ text=text;simp
  rw [e];exact .inr ⟨t,hr,rfl⟩
 ·rw [Zbw _ L rfl h] at hz ⊢;rw [Zap hr h hp hz];split;·exact .inl rfl
  ·exact .inr ⟨_,rfl,rfl⟩
def Z2q (a:ATree):List ByteArray:=Z3r ((Z10 a [] true).foldl addL [])
theorem Z7v (a:ATree) (s:ByteArray):s∈Z2q a↔s∈Z10 a [] true:=by
 unfold Z2q;rw [Zcp,Z7f];simp
theorem Zbo (a:ATree):(Z2q a).length≤a.many:=by
 unfold Z2q;rw [Z6r];have h1:=Z2z (Z10 a [] true) [];have h2:=Z52 a [] true;simp at h1;omega
theorem Zci (a:ATree):(Z2q a).Pairwise fun x y=>x.data.toList < y.data.toList:=Zem (Z5v _ _ List.nodup_nil)
theorem Z36 {text:ByteArray} {t:Tree} (hr:Zi text=.ok t) {a:ATree} (ha:a.tree=t):a.kind=1∧(∀ s∈Z2q a,Z3l s)∧WA a∧a.many≤1500:=by
 obtain ⟨hm,hk⟩:=Z30 hr;have hak:a.kind=1:=by rw [← ha] at hk; obtain ⟨b,v,k,tt,n,ks⟩:=a; exact hk
 have hok:=Z9u hr;refine ⟨hak,fun s hs=>?_,Zfu a (by rw [ha]; exact hok.1),?_⟩
 ·rw [Z7v] at hs;exact Z5b a [] true (by rw [ha]; exact hm) (fun e=>by omega) s hs
 ·rw [← Z6f,ha]; exact hok.2
theorem Zch {text:ByteArray} {t:Tree} (hr:Zi text=.ok t) {a b:ATree} (ha:a.tree=t) {more:ByteArray} {y:Tree} (hy:Zi more=.ok y) (hb:b.tree=y) (hk:y.kids=(Z2q a).map varT ++ t.kids):Z2q b=[]:=by
 have h1:=Z36 hr ha;have h2:=Z36 hy hb;have e:Z10 b [] true=[]:=closed h1.1 h2.1 (by rw [ha]; exact (Z30 hr).1) (by rw [ha]; exact (Z7g hr).1) (by rw [ha]; exact (Z76 hr).1) (fun s hs=>(Z7v a s).2 hs) (by rw [hb,ha,hk]);unfold Z2q;rw [e];simp [Z3r]
def Z60:ByteArray:=⟨#[102,117,110,99,116,105,111,110,32,102,40,41,32,123,125,32,105,102,32,40,97,41,32,118,97,114,32,98,59,32,108,101,116,32,99,59]⟩
def Z6a:Tree:=.mk 1 ⟨#[]⟩ 0 [.mk 5 ⟨#[102]⟩ 0 [.mk 40 ⟨#[]⟩ 0 [],.mk 6 ⟨#[]⟩ 0 []],.mk 7 ⟨#[]⟩ 0 [.mk 23 ⟨#[97]⟩ 0 [],.mk 2 ⟨#[98]⟩ 0 []],.mk 3 ⟨#[99]⟩ 0 []]
theorem Z74:Zi Z60=.ok Z6a:=by kernel_rfl
theorem Z2s {a:ATree} {k:Int} {s:ByteArray} {n:Int} {l:List Tree} (h:a.tree=.mk k s n l):∃ b v ks,a=.mk b v k s n ks∧Zp ks=l:=by
 obtain ⟨b,v,k',s',n',ks⟩:=a;simp only [ATree.tree,Tree.mk.injEq] at h;obtain ⟨rfl,rfl,rfl,h⟩:=h;exact ⟨b,v,ks,rfl,h⟩
theorem Z1w {l:List ATree} {t:Tree} {r:List Tree} (h:Zp l=t :: r):∃ a l',l=a :: l'∧a.tree=t∧Zp l'=r:=by
 cases l with
 | nil=>simp [Zp] at h
 | cons a l=>simp only [Zp,List.cons.injEq] at h; exact ⟨a,l,rfl,h.1,h.2⟩
theorem Z1d {l:List ATree} (h:Zp l=[]):l=[]:=by
 cases l with
 | nil=>rfl
 | cons a l=>simp [Zp] at h
theorem Z9n {a:ATree} (h:a.tree=Z6a):Z0y true a=[⟨#[98]⟩,⟨#[102]⟩,⟨#[99]⟩]∧Z2q a=[⟨#[97]⟩]:=by
 obtain ⟨b0,v0,l0,rfl,g0⟩:=Z2s h;obtain ⟨a1,r0,rfl,h1,e0⟩:=Z1w g0;obtain ⟨a2,r1,rfl,h2,e1⟩:=Z1w e0;obtain ⟨a3,r2,rfl,h3,e2⟩:=Z1w e1;obtain rfl:=Z1d e2;obtain ⟨b1,v1,l1,rfl,g1⟩:=Z2s h1;obtain ⟨a4,r4,rfl,h4,f4⟩:=Z1w g1;obtain ⟨a5,r5,rfl,h5,f5⟩:=Z1w f4;obtain rfl:=Z1d f5;obtain ⟨b4,v4,l4,rfl,g4⟩:=Z2s h4;obtain rfl:=Z1d g4;obtain ⟨b5,v5,l5,rfl,g5⟩:=Z2s h5;obtain rfl:=Z1d g5;obtain ⟨b2,v2,l2,rfl,g2⟩:=Z2s h2;obtain ⟨a6,r6,rfl,h6,f6⟩:=Z1w g2;obtain ⟨a7,r7,rfl,h7,f7⟩:=Z1w f6;obtain rfl:=Z1d f7
 obtain ⟨b6,v6,l6,rfl,g6⟩:=Z2s h6;obtain rfl:=Z1d g6;obtain ⟨b7,v7,l7,rfl,g7⟩:=Z2s h7;obtain rfl:=Z1d g7;obtain ⟨b3,v3,l3,rfl,g3⟩:=Z2s h3;obtain rfl:=Z1d g3;have e:∀ x:ATree,Z10 x [] true=[⟨#[97]⟩]→Z2q x=[⟨#[97]⟩]:=by
  intro x hx;unfold Z2q;rw [hx,show ([⟨#[97]⟩]:List ByteArray).foldl addL []=[⟨#[97]⟩] by kernel_rfl];simp [Z3r]
 exact ⟨by rfl,e _ (by rfl)⟩
end Go.Proofs.YtedopiahfejdfaaGreatDoor
namespace Go.Proofs.YtedopiahfejdfaaGreatDoor
open Go.RowKit Go.Extern.Stop Go.Stop Go.Extern
set_option maxRecDepth 100000
set_option maxHeartbeats 20000000
theorem Tryz.valueOf27 (t:Addr) (w:World):(ReflectliteValue.unpack (.iface 58 (.pointer (some t)))).run Tryz.prog w
 = .ok (.agg #[.pointer (some ⟨6,58,none⟩),.pointer (some ⟨w.heap.size,0,none⟩),.int .u64 150]) (w.alloc (.cells #[.pointer (some t)] 58)):=by kernel_rfl
theorem Tryz.type27 (a : Addr) (w : World) : (ReflectliteValue.methodAny (ReflectliteValue.valueError "reflectlite.Value.Type" 0) (fun t _ _ _ => ReflectliteType.toType t) #[.agg #[.pointer (some ⟨6, 58, none⟩), .pointer (some a), .int .u64 150]]).run Tryz.prog w
 = .ok (.iface 130 (.agg #[.pointer (some ⟨6,58,none⟩)])) w:=by kernel_rfl
theorem Tryz.methodKind (h : Value) (w : World) : (Go.method 293 130 (.agg #[h]) "Kind").run Tryz.prog w = .ok (127, h) w := by kernel_rfl
theorem Tryz.kind27 (w:World):((ReflectliteType.abiMethod fun t=>(fun a:Nat=>Value.int IntKind.u8 (a:Int)) <$> Rtype.kind t) #[.pointer (some ⟨6,58,none⟩)]).run Tryz.prog w=.ok (.int .u8 22) w:=by kernel_rfl
theorem Tryz.kind25 (w:World):((ReflectliteType.abiMethod fun t=>(fun a:Nat=>Value.int IntKind.u8 (a:Int)) <$> Rtype.kind t) #[.pointer (some ⟨6,33,none⟩)]).run Tryz.prog w=.ok (.int .u8 2) w:=by kernel_rfl
theorem rlm (z:Sem Value) (f:TypeId→Addr→Nat→Nat→Sem Value) (v:Value) :
 ReflectliteValue.method z f #[v]=(do match ← ReflectliteValue.parts v with | none=>z | some (t,a,fl)=>f t a fl (fl % 32)):=rfl
theorem Tryz.parts27 (a:Addr) (w:World):(ReflectliteValue.parts (.agg #[.pointer (some ⟨6,58,none⟩),.pointer (some a),.int .u64 150])).run Tryz.prog w=.ok (some (58,a,150)) w:=by kernel_rfl
theorem Tryz.isNil27 (a p:Addr) (W:World) (ha:W.cell? a=some (.pointer (some p))) :
 (ReflectliteValue.method (ReflectliteValue.valueError "reflectlite.Value.IsNil" 0) ReflectliteValue.isNil #[.agg #[.pointer (some ⟨6, 58, none⟩), .pointer (some a), .int .u64 150]]).run Tryz.prog W = .ok (.bool false) W := by
 rw [rlm];simp only [Sem.run_bind,Tryz.parts27,Result.andThen];simp [ReflectliteValue.isNil,loadVar,isAgg,underlying,Tryz.underlying58,ha,Result.andThen]
theorem Tryz.methodElem (h : Value) (w : World) : (Go.method 293 130 (.agg #[h]) "Elem").run Tryz.prog w = .ok (140, .agg #[h]) w := by kernel_rfl
theorem Tryz.methodImplements (h : Value) (w : World) : (Go.method 293 130 (.agg #[h]) "Implements").run Tryz.prog w = .ok (141, .agg #[h]) w := by kernel_rfl
theorem Tryz.methodAssignableTo (h : Value) (w : World) : (Go.method 293 130 (.agg #[h]) "AssignableTo").run Tryz.prog w = .ok (138, .agg #[h]) w := by kernel_rfl
theorem Tryz.elem27 (w:World):(ReflectliteType.method ReflectliteType.elem #[.agg #[.pointer (some ⟨6,58,none⟩)]]).run Tryz.prog w=.ok (.iface 130 (.agg #[.pointer (some ⟨6,33,none⟩)])) w:=by kernel_rfl
theorem Tryz.implements25 (w : World) : (ReflectliteType.relation "Implements" ReflectliteType.implements_ #[.agg #[.pointer (some ⟨6, 33, none⟩)], .iface 130 (.agg #[.pointer (some ⟨6, 30, none⟩)])]).run Tryz.prog w = .ok (.bool true) w := by kernel_rfl
theorem Tryz.typeOf25 (v:Value) (w:World):(ReflectliteType.typeOf #[.iface 33 v]).run Tryz.prog w=.ok (.iface 130 (.agg #[.pointer (some ⟨6,33,none⟩)])) w:=by kernel_rfl
theorem Tryz.assignable25 (w : World) : (ReflectliteType.relation "AssignableTo" ReflectliteType.assignableTo #[.agg #[.pointer (some ⟨6, 33, none⟩)], .iface 130 (.agg #[.pointer (some ⟨6, 33, none⟩)])]).run Tryz.prog w = .ok (.bool true) w := by kernel_rfl
theorem Tryz.valueOf25 (e:Int) (w:World):(ReflectliteValue.unpack (.iface 33 (.int .i64 e))).run Tryz.prog w
 = .ok (.agg #[.pointer (some ⟨6,33,none⟩),.pointer (some ⟨w.heap.size,0,none⟩),.int .u64 130]) (w.alloc (.cells #[.int .i64 e] 33)):=by kernel_rfl
theorem Tryz.elemOf27 (w:World):(Rtype.elem? 58).run Tryz.prog w=.ok (some 33) w:=by kernel_rfl
theorem Tryz.mk25 (p:Addr) (w:World):(ReflectliteValue.mk 33 p ReflectliteValue.flagAddr).run Tryz.prog w=.ok (.agg #[.pointer (some ⟨6,33,none⟩),.pointer (some p),.int .u64 386]) w:=by kernel_rfl
theorem Tryz.elemV27 (a p:Addr) (W:World) (ha:W.cell? a=some (.pointer (some p))) :
 (ReflectliteValue.method (ReflectliteValue.valueError "reflectlite.Value.Elem" 0) ReflectliteValue.elem #[.agg #[.pointer (some ⟨6, 58, none⟩), .pointer (some a), .int .u64 150]]).run Tryz.prog W
  = .ok (.agg #[.pointer (some ⟨6,33,none⟩),.pointer (some p),.int .u64 386]) W:=by
 rw [rlm];simp only [Sem.run_bind,Tryz.parts27,Result.andThen];simp [ReflectliteValue.elem,loadVar,isAgg,underlying,Tryz.underlying58,ha,Result.andThen,Tryz.elemOf27,Tryz.mk25]
theorem rls (v x:Value):ReflectliteValue.set #[v,x]=(do
 let (some (dst,a,fl),some (src,b,_)):=(← ReflectliteValue.parts v,← ReflectliteValue.parts x)
  | unsupported (.noEntry "extern/(internal/reflectlite.Value).Set.zeroValue")
 if fl / ReflectliteValue.flagAddr % 2 == 0 then unsupported (.noEntry "extern/(internal/reflectlite.Value).Set.unaddressable")
 let val ← loadVar src b
 if ← Rtype.directlyAssignable dst src then storeVar dst a val
 else if ← Rtype.implements dst src then
  if (← Rtype.kind src) == 20 then
   match val with
   | .nilIface => unsupported (.noEntry "extern/reflectlite: a nil value of one interface type handed on as a value of another")
   | _=>storeVar dst a val
  else storeVar dst a (.iface src val)
 else panicString ("reflectlite.Set: value of type " ++ (← Rtype.spelt src) ++ " is not assignable to type " ++ (← Rtype.spelt dst))
 pure (.tuple #[])):=rfl
theorem Tryz.parts25a (a:Addr) (w:World):(ReflectliteValue.parts (.agg #[.pointer (some ⟨6,33,none⟩),.pointer (some a),.int .u64 386])).run Tryz.prog w=.ok (some (33,a,386)) w:=by kernel_rfl
theorem Tryz.parts25 (a:Addr) (w:World):(ReflectliteValue.parts (.agg #[.pointer (some ⟨6,33,none⟩),.pointer (some a),.int .u64 130])).run Tryz.prog w=.ok (some (33,a,130)) w:=by kernel_rfl
theorem Tryz.direct25 (w:World):(Rtype.directlyAssignable 33 33).run Tryz.prog w=.ok true w:=by kernel_rfl
theorem Tryz.set25 (ta b:Addr) (e:Int) (old:Value) (W:World) (hb:W.cell? b=some (.int .i64 e)) (ht:W.cell? ta=some old) (hf:W.frozen? ta=false) :
 (ReflectliteValue.set #[.agg #[.pointer (some ⟨6, 33, none⟩), .pointer (some ta), .int .u64 386], .agg #[.pointer (some ⟨6, 33, none⟩), .pointer (some b), .int .u64 130]]).run Tryz.prog W
  = .ok (.tuple #[]) (W.setCell ta (.int .i64 e)):=by
 rw [rls];simp only [Sem.run_bind,Tryz.parts25a,Tryz.parts25,Result.andThen];simp [ReflectliteValue.flagAddr,loadVar,isAgg,underlying,Tryz.underlying33,hb,Result.andThen,Tryz.direct25,storeVar,Value.cells,storeCells,Addr.add];rw [run_store Tryz.prog W ta _ _ (by rfl)];simp [ht,hf]
theorem Zfw (e:Int) (t:Addr) (old:Value) (w:World) (hg:w.cell? ⟨1,0,none⟩=some (.iface 130 (.agg #[.pointer (some ⟨6,30,none⟩)]))) (ht0:w.cell? t=some old) (hf0:w.frozen? t=false) :
 Calls Tryz.prog 22 #[.iface 33 (.int .i64 e),.iface 58 (.pointer (some t))] w fun ev w'=>ev=.returned (.bool true)∧w'=((((w.alloc (.cells #[.pointer (some t)] 58)).alloc (.cells #[.pointer (some ⟨6,58,none⟩),.pointer (some ⟨w.heap.size,0,none⟩),.int .u64 150] 93)).alloc (.cells #[.pointer (some ⟨6,58,none⟩),.pointer (some ⟨w.heap.size,0,none⟩),.int .u64 150] 93)).alloc (.cells #[.int .i64 e] 33)).setCell t (.int .i64 e):=by
 have h6 := @run_callFunc_extern Tryz.prog 49 _ (fun args => ReflectliteValue.unpack (args.getD 0 (.tuple #[]))) Tryz.func49 (by kernel_rfl) (by kernel_rfl) (by kernel_rfl) (by kernel_rfl);have h7 := @run_callFunc_extern Tryz.prog 50 _ (ReflectliteValue.methodAny (ReflectliteValue.valueError "reflectlite.Value.Type" 0) (fun t _ _ _ => ReflectliteType.toType t)) Tryz.func50 (by kernel_rfl) (by kernel_rfl) (by kernel_rfl) (by kernel_rfl)
 have h8 := @run_callFunc_extern Tryz.prog 51 _ (ReflectliteValue.method (ReflectliteValue.valueError "reflectlite.Value.IsNil" 0) ReflectliteValue.isNil) Tryz.func51 (by kernel_rfl) (by kernel_rfl) (by kernel_rfl) (by kernel_rfl)
 have h27 := @run_callFunc_extern Tryz.prog 127 _ (ReflectliteType.abiMethod fun t => do pure (.int .u8 (← Rtype.kind t))) Tryz.func127 (by kernel_rfl) (by kernel_rfl) (by kernel_rfl) (by kernel_rfl);have h37 := @run_callFunc_extern Tryz.prog 140 _ (ReflectliteType.method ReflectliteType.elem) Tryz.func140 (by kernel_rfl) (by kernel_rfl) (by kernel_rfl) (by kernel_rfl);have h38 := @run_callFunc_extern Tryz.prog 141 _ (ReflectliteType.relation "Implements" ReflectliteType.implements_) Tryz.func141 (by kernel_rfl) (by kernel_rfl) (by kernel_rfl) (by kernel_rfl)
 have h10 := @run_callFunc_extern Tryz.prog 86 _ ReflectliteType.typeOf Tryz.func86 (by kernel_rfl) (by kernel_rfl) (by kernel_rfl) (by kernel_rfl);have h35 := @run_callFunc_extern Tryz.prog 138 _ (ReflectliteType.relation "AssignableTo" ReflectliteType.assignableTo) Tryz.func138 (by kernel_rfl) (by kernel_rfl) (by kernel_rfl) (by kernel_rfl)
 have h11 := @run_callFunc_extern Tryz.prog 87 _ (ReflectliteValue.method (ReflectliteValue.valueError "reflectlite.Value.Elem" 0) ReflectliteValue.elem) Tryz.func87 (by kernel_rfl) (by kernel_rfl) (by kernel_rfl) (by kernel_rfl)
 have h12:=@run_callFunc_extern Tryz.prog 88 _ ReflectliteValue.set Tryz.func88 (by kernel_rfl) (by kernel_rfl) (by kernel_rfl) (by kernel_rfl);have tO:=Tryz.typeOf25;have mA:=Tryz.methodAssignableTo;have a25:=Tryz.assignable25;have v25:=Tryz.valueOf25;have f6:=Tryz.valueOf27;have f7:=Tryz.type27;have mK:=Tryz.methodKind;have mE:=Tryz.methodElem;have mI:=Tryz.methodImplements;have k27:=Tryz.kind27;have k25:=Tryz.kind25;have e27:=Tryz.elem27;have i25:=Tryz.implements25
 have n8:=Tryz.isNil27 ⟨w.heap.size,0,none⟩ t ((w.alloc (.cells #[.pointer (some t)] 58)).alloc (.cells #[.pointer (some ⟨6,58,none⟩),.pointer (some ⟨w.heap.size,0,none⟩),.int .u64 150] 93)) (by simp);have hlt:1 < w.heap.size:=by
  rcases Nat.lt_or_ge 1 w.heap.size with h | h;·exact h
  ·simp [World.cell?,Array.getElem?_eq_none h] at hg
 have hg2:((w.alloc (.cells #[.pointer (some t)] 58)).alloc (.cells #[.pointer (some ⟨6,58,none⟩),.pointer (some ⟨w.heap.size,0,none⟩),.int .u64 150] 93)).cell? ⟨1,0,none⟩=some (.iface 130 (.agg #[.pointer (some ⟨6,30,none⟩)])):=by
  rw [World.cell?_alloc_lt _ _ ⟨1,0,none⟩ (by simp; omega),World.cell?_alloc_lt _ _ ⟨1,0,none⟩ hlt]; exact hg
 have htl:t.block < w.heap.size:=by
  rcases Nat.lt_or_ge t.block w.heap.size with h | h;·exact h
  ·simp [World.cell?,Array.getElem?_eq_none h] at ht0
 have el:=Tryz.elemV27 ⟨w.heap.size,0,none⟩ t (((w.alloc (.cells #[.pointer (some t)] 58)).alloc (.cells #[.pointer (some ⟨6,58,none⟩),.pointer (some ⟨w.heap.size,0,none⟩),.int .u64 150] 93)).alloc (.cells #[.pointer (some ⟨6,58,none⟩),.pointer (some ⟨w.heap.size,0,none⟩),.int .u64 150] 93)) (by rw [World.cell?_alloc_lt _ _ ⟨w.heap.size,0,none⟩ (by simp; omega)]; simp)
 have st:=Tryz.set25 t ⟨w.heap.size + 1 + 1 + 1,0,none⟩ e old ((((w.alloc (.cells #[.pointer (some t)] 58)).alloc (.cells #[.pointer (some ⟨6,58,none⟩),.pointer (some ⟨w.heap.size,0,none⟩),.int .u64 150] 93)).alloc (.cells #[.pointer (some ⟨6,58,none⟩),.pointer (some ⟨w.heap.size,0,none⟩),.int .u64 150] 93)).alloc (.cells #[.int .i64 e] 33))
  (by rw [World.cell?_alloc_at _ _ _ _ (by simp)]; rfl)
  (by rw [World.cell?_alloc_lt _ _ t (by simp; omega),World.cell?_alloc_lt _ _ t (by simp; omega),World.cell?_alloc_lt _ _ t (by simp; omega),World.cell?_alloc_lt _ _ t htl]; exact ht0)
  (by rw [World.frozen?_alloc_old _ _ t (by simp; omega),World.frozen?_alloc_old _ _ t (by simp; omega),World.frozen?_alloc_old _ _ t (by simp; omega),World.frozen?_alloc_old _ _ t (Nat.ne_of_lt htl)]; exact hf0)
 go_enter Tryz.func22,Tryz.ntmps22
 go_wp2;refine wp_loop_rounds 1 ?_;rw [rounds_succ];go_wp2;go_ret;exact ⟨rfl,rfl⟩
end Go.Proofs.YtedopiahfejdfaaGreatDoor
namespace Go.Proofs.YtedopiahfejdfaaGreatDoor
open Go Go.RowKit
set_option maxRecDepth 100000
set_option maxHeartbeats 20000000
def Z2x (w:World):Prop:=w.cell? ⟨1,0,none⟩=some (.iface 130 (.agg #[.pointer (some ⟨6,30,none⟩)]))
theorem Z2x.lt {w:World} (h:Z2x w):1 < w.heap.size:=by
 rcases Nat.lt_or_ge 1 w.heap.size with h' | h';·exact h'
 ·simp [Z2x,World.cell?,Array.getElem?_eq_none h'] at h
theorem Z2x.below {w w':World} (h:Z2x w) (hB:Below w.heap.size w w'):Z2x w':=(hB.cell (p:=⟨1,0,none⟩) h.lt).trans h
theorem Ze2 (w:World) (c:Int) (hg:Z2x w) :
 Calls Tryz.prog 9 #[errV c] w fun e w'=>e=.returned (.int .i64 c)∧Below w.heap.size w w':=by
 by_cases hc:c=0
 ·subst hc;simp only [errV, if_true];go_enter Tryz.func9, Tryz.ntmps9
  go_wp2;go_ret;exact ⟨rfl,Y2 _ _⟩
 ·simp only [errV, if_neg hc];have hlt := hg.lt;have hit := lh (Zfw c ⟨w.heap.size, 0, none⟩ (.int .i64 0) (w.alloc (.cells #[.int .i64 0] 33)) ((Zd (p := ⟨1, 0, none⟩) hlt).trans hg) (World.cell?_alloc_new _ _ _ 0) (World.frozen?_alloc_new _ _ _ _));clear hg;go_enter Tryz.func9, Tryz.ntmps9
  go_wp2_with fail
  refine hit.out.mono ?_;rintro e w1 ⟨rfl,hw1⟩;have hB:Below w.heap.size w w1:=by
   rw [hw1];refine Below.setCell ?_ (by simp) _;repeat (refine Below.alloc ?_ (by simp; try omega) _)
   exact Y2 _ _
  have hx:w1.cell? ⟨w.heap.size,0,none⟩=some (.int .i64 c):=by
   rw [hw1];rw [World.cell?_setCell_same'];rw [Zd (by simp; omega),Zd (by simp; omega),Zd (by simp; omega),Zd (by simp)];rw [World.cell?_alloc_new];rfl
  have HB:=lh hB;clear hB hw1 hit;go_wp2;go_ret;exact ⟨rfl,HB.out⟩
end Go.Proofs.YtedopiahfejdfaaGreatDoor
