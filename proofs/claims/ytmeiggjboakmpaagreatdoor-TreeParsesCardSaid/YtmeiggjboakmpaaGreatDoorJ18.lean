/- Package tree: Parse, walked. -/
import Derived.Test.YtmeiggjboakmpaaGreatDoorJ17
namespace Go.Proofs.YtmeiggjboakmpaaGreatDoor
open Go Go.RowKit
set_option maxRecDepth 100000
set_option maxHeartbeats 20000000
set_option linter.unusedVariables false
theorem Zd6 (w:World) (text:ByteArray) (hm:3000 < text.size) :
 Calls Tryz.prog 17 #[.string text] w fun e w'=>e=.returned (.tuple #[.slice none 0 0,.iface 23 (.int .i64 4)])∧w=w':=by
 have hm':(3000:Int) < text.size:=by omega
 go_enter Tryz.func17,Tryz.ntmps17
 go_wp2;go_ret2
 exact ⟨rfl,rfl⟩
def Zkn (w':World) (base:Nat) (x:Value) (c p:Int):Prop:=(p=-1∧x=.iface 23 (.int .i64 c))∨∃ q:Nat,p=q∧Zkx w' base x c q
def Z4z (w:World) (r:Except (Int×Int) Tree) (e:Ending) (w':World):Prop:=
 Below w.heap.size w w'∧match r with
 | .ok t=>∃ a,e=.returned (.tuple #[.pointer (some ⟨a.b,0,none⟩),.nilIface])∧Got w w.heap.size w' a t
 | .error (c,p)=>∃ x,e=.returned (.tuple #[.pointer none,x])∧Zkn w' w.heap.size x c p
def Z4f (w:World):World:=(w.alloc (.cells #[.pointer none] 22)).alloc (.cells #[.nilIface] 29)
theorem Z9e (w:World):(Z4f w).heap[w.heap.size]?=some (.cells #[.pointer none] 22 (0,0))∧(Z4f w).heap[w.heap.size + 1]?=some (.cells #[.nilIface] 29 (0,0))∧(Z4f w).heap.size=w.heap.size + 2∧Below w.heap.size w (Z4f w):=by
 have h1:Below w.heap.size w (w.alloc (.cells #[.pointer none] 22)):=(Y8 _ _).alloc (Y5 _) _;have h2:Below (w.alloc (.cells #[.pointer none] 22)).heap.size (w.alloc (.cells #[.pointer none] 22)) (Z4f w):=(Y8 _ _).alloc (Y5 _) _;have e1:(w.alloc (.cells #[.pointer none] 22)).heap.size=w.heap.size + 1:=by simp
 refine ⟨?_,?_,by simp [Z4f],h1.alloc (by simp) _⟩;·rw [h2.block w.heap.size (by omega)]; exact heap_alloc_new w _
 ·have:=heap_alloc_new (w.alloc (.cells #[.pointer none] 22)) (.cells #[.nilIface] 29);rw [e1] at this;exact this
theorem Z6l {R:Ending→World→Prop} {tmps:Array Value} {W:World} {pb eb:Nat} {x y:Value} (h2:tmps.getD 2 undef=.pointer (some ⟨pb,0,none⟩)) (h3:tmps.getD 3 undef=.pointer (some ⟨eb,0,none⟩))
 (c1:W.cell? ⟨pb,0,none⟩=some x) (c2:W.cell? ⟨eb,0,none⟩=some y) (hR:R (.returned (.tuple #[x,y])) W):Go.Leaves Tryz.prog Tryz.f5 tmps R [] .returning W:=by
 refine ⟨.tuple #[x,y],?_,hR⟩;have h2':tmps[2]?.getD undef=.pointer (some ⟨pb,0,none⟩):=by simpa using h2
 have h3':tmps[3]?.getD undef=.pointer (some ⟨eb,0,none⟩):=by simpa using h3
 simp [results,Tryz.results5,go_sem,h2',h3',c1,c2]
theorem Z4z.bad {w w1 W:World} {c p:Int} {x:Value} (hx:Zkn w1 (w.heap.size + 2) x c p) (hB:Below w.heap.size w w1) (hW:∀ k,k < w1.heap.size→k≠w.heap.size→k≠w.heap.size + 1→W.heap[k]?=w1.heap[k]?) (hs:w1.heap.size≤W.heap.size)
 (ho:W.os=w1.os) (ht:W.tape=w1.tape) (hu:W.output=w1.output):Z4z w (.error (c,p)) (.returned (.tuple #[.pointer none,x])) W:=by
 refine ⟨⟨ho.trans hB.os,ht.trans hB.tape,hu.trans hB.output,Ya hB.size hs,fun k hk=>(hW k (Ye hk hB.size) (by omega) (by omega)).trans (hB.block k hk)⟩,x,rfl,?_⟩;rcases hx with h | ⟨q,hq,b,h1,h2,h3⟩;·exact .inl h
 ·exact .inr ⟨q,hq,b,h1,by omega,(hW b (Y6.1 h3).1 (by omega) (by omega)).trans h3⟩
theorem Zb3 (w:World) (text:ByteArray) (c p:Int) (HC:Calls Tryz.prog 17 #[.string text] (Z4f w) fun e w'=>(∃ x,e=.returned (.tuple #[.slice none 0 0,x])∧Zkn w' (Z4f w).heap.size x c p)∧Below (Z4f w).heap.size (Z4f w) w') :
 Calls Tryz.prog 5 #[.string text] w (Z4z w (.error (c,p))):=by
 obtain ⟨k1,k2,k3,k4⟩:=Z9e w;have K1:=lh k1;have K2:=lh k2;have K3:=lh k3;have K4:=lh k4;obtain ⟨w0,hw0⟩:=zX (Z4f w)
 rw [← hw0] at HC K1 K2 K3 K4;unfold Z4f at hw0;have HW0:=lh hw0;have HC:=lh HC;clear hw0 k1 k2 k3 k4;go_enter_defers Tryz.func5,Tryz.ntmps5
 go_wp2_with fail
 rw [← HW0.out];refine HC.out.mono ?_;rintro e w1 ⟨⟨x,rfl,hx⟩,hB⟩;have b1:=(hB.block w.heap.size (by rw [K3.out]; omega)).trans K1.out;have b2:=(hB.block (w.heap.size + 1) (by rw [K3.out]; omega)).trans K2.out;obtain ⟨pb,hpb⟩:=zX w.heap.size
 obtain ⟨eb,heb⟩:=zX (w.heap.size + 1)
 rw [← heb] at b2;rw [← hpb] at b1;rw [← heb,← hpb];have c1:w1.cell? ⟨pb,0,none⟩=some (.pointer none):=by simp [World.cell?,b1]
 have c2:w1.cell? ⟨eb,0,none⟩=some .nilIface:=by simp [World.cell?,b2]
 have z1:w1.frozen? ⟨pb,0,none⟩=false:=by simp [World.frozen?,b1]
 have z2:w1.frozen? ⟨eb,0,none⟩=false:=by simp [World.frozen?,b2]
 have hne:pb≠eb:=by omega
 have hl1:pb < w1.heap.size:=(Y6.1 b1).1;have hl2:eb < w1.heap.size:=(Y6.1 b2).1;have HX:=lh hx;have HB:=lh hB;have HPB:=lh hpb;have HEB:=lh heb;have B1:=lh b1;have B2:=lh b2;obtain ⟨tx,vx,hxx⟩:∃ tx vx,x=.iface tx vx:=by
  rcases hx with ⟨_,rfl⟩ | ⟨q,_,b,rfl,_⟩;·exact ⟨_,_,rfl⟩
  ·exact ⟨_,_,rfl⟩
 subst hxx;clear hx hB hpb heb b1 b2 HC;go_wp2_with fail
 go_region
 go_wp2;refine Z6l (pb:=pb) (eb:=eb) rfl rfl (x:=.pointer none) (y:=.iface tx vx) ?_ ?_ ?_;·go_simp
 ·go_simp
 ·refine Z4z.bad (w1 := w1) (by have := HX.out; rwa [K3.out] at this) (K4.out.trans (HB.out.mono K4.out.size)) (fun k hk h1 h2 => ?_) ?_ rfl rfl rfl
  ·rw [← HPB.out] at h1;rw [← HEB.out] at h2;exact ((Yg _ _ _ _ h2).trans (Yg _ _ _ _ h1)).trans (Yg _ _ _ _ h2)
  ·show _≤(World.setCell _ _ _).heap.size;rw [Yn,Yn,Yn];exact Y5 _
theorem Z52.mono {w:World} {rb rb':Nat} (h:Z52 w rb) (hr:rb≤rb'):Z52 w rb':=by
 intro lv hl;obtain ⟨b,off,cap,h1,h2,h3⟩:=h lv hl;exact ⟨b,off,cap,by omega,by omega,h3⟩
theorem Rd.new {w1 w2:World} {base rb:Nat} {ts:List Tok} {v:Value} (hv:w1.ownsRow base 87 4 v ts.length (ts.flatMap Tok.cells)) (hl:∃ l e,ts=l ++ [e]∧e.kind=6∧∀ t∈l,t.kind≠6)
 (hb:w2.heap[rb]?=some (.cells #[v,.int .i64 0] 61 (0,0))) (hr:rb=w1.heap.size) (hk:∀ k,k < w1.heap.size→v.ownBlock=some k→w2.heap[k]?=w1.heap[k]?) (hs:w1.heap.size≤w2.heap.size) (hL:Z52 w2 rb):Rd w2 rb ts 0:=by
 have hpos:0 < ts.length:=by obtain ⟨l,e,h,_⟩:=hl; rw [h]; simp
 rcases Zp hv with ⟨_,h2⟩ | ⟨g,cap,rfl,h1,h2,h3⟩;·omega
 have hg:g < w1.heap.size:=(hv.lt g rfl).2;refine ⟨g,0,cap,⟨hb,h1,h2,by omega,Ye hg hs,fun k t j x hi hj=>?_,hl,hL⟩⟩;have:=Zdr (f:=Tok.cells) (fun _=>rfl) hv (g:=g) rfl hi hj;rw [Nat.zero_add];exact (Yj (hk g hg rfl)).trans this
theorem Zfk (c:Int):IntKind.i64.wrap (IntKind.i64.wrap c + 1)=IntKind.i64.wrap (c + 1):=by
 simp only [IntKind.wrap_i64];omega
def Zb5 (w4:World) (B mb:Nat) (a:ATree) (c:Nat) (W:World):Prop:=
 TreeAt W B a∧W.heap[mb]?=some (.cells #[.int .i64 (IntKind.i64.wrap c)] 3 (0,0))∧W.os=w4.os∧W.tape=w4.tape∧W.output=w4.output∧w4.heap.size≤W.heap.size∧∀ k,k < w4.heap.size→k≠mb→W.heap[k]?=w4.heap[k]?
def cntG (c:Nat) (x:ATree):Bool×Nat:=(true,c + 1)
mutual
theorem Zdk:∀ (a:ATree) (c:Nat),Zcj cntG a c=c + a.many
 | .mk b v k t n l,c=>by simp only [Zcj,cntG,if_true,ATree.many]; rw [Zc1 l]; omega
theorem Zc1:∀ (l:List ATree) (c:Nat),Z82 cntG l c=c + Z4b l
 | [],c=>by simp [Z82,Z4b]
 | a :: l,c=>by simp only [Z82,Z4b]; rw [Zdk a,Zc1 l]; omega
end
theorem Zk4 (w4:World) (B mb:Nat) (a x:ATree) (hmb:mb < B∨mb ∉ a.blocks) (hml:mb < w4.heap.size) (c:Nat) (w:World) (hI:Zb5 w4 B mb a c w) :
 Calls Tryz.prog 21 #[x.ptr,.pointer (some ⟨mb,0,none⟩)] w fun e w'=>e=.returned (.bool (cntG c x).1)∧Zb5 w4 B mb a (cntG c x).2 w':=by
 obtain ⟨h1,h2,h3,h4,h5,h6,h7⟩:=hI;have c1:w.cell? ⟨mb,0,none⟩=some (.int .i64 (IntKind.i64.wrap c)):=by simp [World.cell?,h2]
 have z1:w.frozen? ⟨mb,0,none⟩=false:=by simp [World.frozen?,h2]
 have hn:mb ∉ a.blocks:=by
  rcases hmb with h | h;·intro hx; have:=(h1.has mb hx).1; omega
  ·exact h
 obtain ⟨y,hy⟩:∃ y,y=IntKind.i64.wrap (c:Int):=⟨_,rfl⟩
 rw [← hy] at c1;have H:Hid (Zb5 w4 B mb a (c + 1) (w.setCell ⟨mb,0,none⟩ (.int .i64 (IntKind.i64.wrap (y + 1))))):=by
  refine lh ⟨h1.keepB fun k hk=>Yg _ _ _ _ (fun e=>hn (by have e':k=mb:=e; rw [← e']; exact hk)),?_,h3,h4,h5,by rw [Yn]; exact h6,fun k hk hne=>(Yg _ _ _ _ hne).trans (h7 k hk hne)⟩;rw [show IntKind.i64.wrap (((c + 1:Nat):Int))=IntKind.i64.wrap (y + 1) by rw [hy,Zfk]; rfl];exact Z07 (o:=0) _ h2
 unfold ATree.ptr;clear h1 h2 h3 h4 h5 h6 h7 hn hy hmb;go_enter Tryz.func21,Tryz.ntmps21
 go_wp2;go_ret;rw [show wrap64 (y + 1)=IntKind.i64.wrap (y + 1) by simp only [IntKind.wrap_i64,wrap64]];exact ⟨rfl,H.out⟩
def finP:Except (Int×Nat) (Tree×List Tok)→Except (Int×Int) Tree
 | .error (e,p)=>.error (e,p)
 | .ok (t,_)=>if 1500 < t.many then .error (4,-1) else .ok t
theorem Zen (w:World) (text:ByteArray) (hm:text.size≤3000) (hW:Words w) (hL:Z52 w w.heap.size) (ts:List Tok) (ht:Z6h text=.ok ts) :
 Calls Tryz.prog 5 #[.string text] w (Z4z w (Z1o text)):=by
 obtain ⟨k1,k2,k3,k4⟩:=Z9e w;obtain ⟨w0,hw0⟩:=zX (Z4f w)
 rw [← hw0] at k1 k2 k3 k4;have HC:=Za4 w0 text hm (hW.below k4);rw [ht] at HC;have HC:=lh HC;have HL:=lh hL;obtain ⟨s1,s2,s3⟩:=Z73 ts 0 (Yp _) (Z6f ht);have S1:=lh s1;have S2:=lh s2;have HM:=lh hm;have HT:=lh ht;have hmf:∀ (fn:Fn) (first cap:Array Value) (w:World),(Instr.makeFunc fn first cap).run Tryz.prog w=.ok (.func fn first cap) w:=fun _ _ _ _=>rfl;obtain ⟨r,hr⟩:∃ r,Z0 (40 * ts.length + 31) (.stmts 1 []) 0 ts=some r:=by
  have:=Z9u (40 * ts.length + 31) (.stmts 1 []) 0 ts (by simp only [Job.rank]; omega);cases h:Z0 (40 * ts.length + 31) (.stmts 1 []) 0 ts with
  | none=>exact absurd h this
  | some r=>exact ⟨r,rfl⟩
 have hall:Z1o text=finP r:=by
  unfold Z1o;rw [Y9 (by omega),ht];simp only [hr];rcases r with ⟨e,p⟩ | ⟨t,us⟩ <;> rfl
 have HR:=lh hr;have HALL:=lh hall;have K1:=lh k1;have K2:=lh k2;have K3:=lh k3;have K4:=lh k4;unfold Z4f at hw0;have HW0:=lh hw0;clear hw0 k1 k2 k3 k4 s1 s2 s3 ht hr hall hm hL hW;go_enter_defers Tryz.func5,Tryz.ntmps5
 go_wp2_with fail
 rw [← HW0.out];refine HC.out.mono ?_;rintro e w1 ⟨⟨v,rfl,hv⟩,hB⟩;obtain ⟨vp,vn,vc,hvv⟩:∃ p n c,v=.slice p n c:=by
  rcases Zp hv with ⟨h1,_⟩ | ⟨g,cap,h1,_⟩;·exact ⟨_,_,_,h1⟩
  ·exact ⟨_,_,_,h1⟩
 subst hvv;have b1:=(hB.block w.heap.size (by rw [K3.out]; omega)).trans K1.out;have b2:=(hB.block (w.heap.size + 1) (by rw [K3.out]; omega)).trans K2.out;obtain ⟨pb,hpb⟩:=zX w.heap.size
 obtain ⟨eb,heb⟩:=zX (w.heap.size + 1)
 rw [← heb] at b2;rw [← hpb] at b1;rw [← heb,← hpb];have hne:pb≠eb:=by omega
 have c1:w1.cell? ⟨pb,0,none⟩=some (.pointer none):=by simp [World.cell?,b1]
 have c2:w1.cell? ⟨eb,0,none⟩=some .nilIface:=by simp [World.cell?,b2]
 have z1:w1.frozen? ⟨pb,0,none⟩=false:=by simp [World.frozen?,b1]
 have z2:w1.frozen? ⟨eb,0,none⟩=false:=by simp [World.frozen?,b2]
 have hl1:pb < w1.heap.size:=(Y6.1 b1).1;have hl2:eb < w1.heap.size:=(Y6.1 b2).1;have B01:=zT K4 hB;have HV:=lh hv;have HPB:=lh hpb;have HEB:=lh heb;have BB1:=lh b1;have BB2:=lh b2;obtain ⟨w2,hw2⟩:=zX ((w1.setCell ⟨eb,0,none⟩ .nilIface).alloc (.cells #[.slice vp vn vc,.int .i64 0] 61))
 obtain ⟨rb,hrb⟩:=zX w1.heap.size
 have hs1:(w1.setCell ⟨eb,0,none⟩ .nilIface).heap.size=rb:=by rw [hrb]; exact Yn ..
 have hs2:w2.heap.size=rb + 1:=by rw [hw2]; simp [hrb]
 have far2:∀ k,k < rb→k≠eb→w2.heap[k]?=w1.heap[k]?:=fun k hk hn=>by
  rw [hw2];exact (Below.heap_alloc _ _ _ (by rw [hs1]; exact hk)).trans (Yg _ _ _ _ hn)
 have e2:w2.heap[eb]?=some (.cells #[.nilIface] 29 (0,0)):=by
  rw [hw2];exact (Below.heap_alloc _ _ _ (by rw [hs1]; omega)).trans (Z07 (o:=0) .nilIface b2)
 have r2:w2.heap[rb]?=some (.cells #[.slice vp vn vc,.int .i64 0] 61 (0,0)):=by
  rw [hw2,← hs1]; exact heap_alloc_new _ _
 have hlev:Z52 w2 rb:=by
  refine (HL.out.keep (w':=w2) fun k hk=>?_).mono (by have:=B01.out.size; omega);exact (far2 k (by have:=B01.out.size; omega) (by omega)).trans (B01.out.block k hk)
 have hvb:∀ k,(Value.slice vp vn vc).ownBlock=some k→k≠eb:=fun k hk=>by have:=(hv.lt k hk).1; rw [K3.out] at this; omega
 have hrd:Rd w2 rb ts 0:=Rd.new hv S1.out r2 hrb (fun k hk hk2=>far2 k (by omega) (hvb k hk2)) (by omega) hlev;have hP:Pre w2 rb w2.heap.size 0 ts:=⟨hrd,by omega,by omega,Y5 _,by have:=S2.out; have:=HM.out; omega⟩
 have HS:=Zj8 _ w2 rb w2.heap.size 0 ts r hP HR.out;simp only at HS;have HS:=lh HS;have FAR2:=lh far2;have E2:=lh e2;have HW2:=lh hw2;have HRB:=lh hrb;have HS2:=lh hs2;have p2:=(FAR2.out pb (by omega) hne).trans b1;have PP2:=lh p2;have RFR2:=lh (show w2.os=w1.os∧w2.tape=w1.tape∧w2.output=w1.output by rw [hw2]; exact ⟨rfl,rfl,rfl⟩);clear hB hv hpb heb b1 b2 HC hw2 hrb hs1 hs2 far2 e2 r2 hlev hvb hrd hP p2;go_wp2_with fail
 rw [← HW2.out,← HRB.out];refine HS.out.mono ?_;have BW2:Hid (∀ k,k < w.heap.size→w2.heap[k]?=w.heap[k]?):=lh fun k hk=>(FAR2.out k (by have:=B01.out.size; have:=HRB.out; omega) (by have:=HEB.out; omega)).trans (B01.out.block k hk);have SZ:Hid (w.heap.size + 2≤rb):=lh (by have:=HEB.out; have:=HRB.out; omega);rcases r with ⟨c,p⟩ | ⟨t,us⟩
 ·rintro e w3 ⟨⟨b, rfl, h1, h2⟩, hF⟩;have p3 := (hF.block pb (by have := HS2.out; have := HRB.out; omega) (by have := SZ.out; have := HPB.out; omega)).trans PP2.out;have e3 := (hF.block eb (by have := HS2.out; have := HRB.out; omega) (by have := SZ.out; have := HEB.out; omega)).trans E2.out;have H1 := lh h1;have H2 := lh h2;have FF := lh hF;rw [HALL.out];clear h1 h2 hF HS;refine leaves_cons (f := 18) (args := #[.pointer (some ⟨pb, 0, none⟩), .pointer (some ⟨eb, 0, none⟩)]) (by simp) (by simp [go_sem]) ?_;refine (Zcu pb eb b [] w3 _ _ p3 e3 hne).mono ?_;rintro e u' w4 ⟨rfl, rfl, hCP⟩
  obtain ⟨q1,q2,q3,q4,q5,q6,q7⟩:=hCP;show Go.Leaves _ _ _ _ [] .returning _;refine Z6l (pb:=pb) (eb:=eb) rfl rfl (x:=.pointer none) (y:=.iface 88 (.pointer (some ⟨b,0,none⟩))) (by simp [World.cell?,q1]) (by simp [World.cell?,q2]) ?_;have hsz:=FF.out.size;have hb3:b < w3.heap.size:=(Y6.1 H2.out).1;have hbb:=H1.out;refine ⟨⟨?_,?_,?_,?_,fun k hk=>?_⟩,.iface 88 (.pointer (some ⟨b,0,none⟩)),rfl,.inr ⟨p,rfl,b,rfl,?_,?_⟩⟩;·exact q3.trans (FF.out.os.trans (RFR2.out.1.trans B01.out.os))
  ·exact q4.trans (FF.out.tape.trans (RFR2.out.2.1.trans B01.out.tape))
  ·exact q5.trans (FF.out.output.trans (RFR2.out.2.2.trans B01.out.output))
  ·have:=HS2.out; have:=SZ.out; omega
  ·have h2:=HS2.out; have h3:=SZ.out; have h4:=HPB.out; have h5:=HEB.out;exact (q7 k (by omega) (by omega) (by omega)).trans ((FF.out.block k (by omega) (by omega)).trans (BW2.out k hk))
  ·have:=HS2.out; have:=SZ.out; omega
  ·have h2:=HS2.out; have h3:=SZ.out; have h4:=HPB.out; have h5:=HEB.out;exact (q7 b hb3 (by omega) (by omega)).trans H2.out
 ·rintro e w3 ⟨a, rfl, hG, hR3, hF⟩;have h2 := HS2.out; have h3 := SZ.out; have h4 := HPB.out; have h5 := HEB.out; have h6 := HRB.out;have p3 := (hF.block pb (by omega) (by omega)).trans PP2.out;have e3 := (hF.block eb (by omega) (by omega)).trans E2.out;have hsz := hF.size;obtain ⟨mb, hmb⟩ := zX w3.heap.size
  obtain ⟨w4,hw4⟩:=zX ((w3.setCell ⟨pb,0,none⟩ (.pointer (some ⟨a.b,0,none⟩))).alloc (.cells #[.int .i64 0] 3))
  have hs3:(w3.setCell ⟨pb,0,none⟩ (.pointer (some ⟨a.b,0,none⟩))).heap.size=mb:=by rw [hmb]; exact Yn ..
  have hs4:w4.heap.size=mb + 1:=by rw [hw4]; simp [hmb]
  have far4:∀ k,k < mb→k≠pb→w4.heap[k]?=w3.heap[k]?:=fun k hk hn=>by
   rw [hw4];exact (Below.heap_alloc _ _ _ (by rw [hs3]; exact hk)).trans (Yg _ _ _ _ hn)
  have p4:w4.heap[pb]?=some (.cells #[.pointer (some ⟨a.b,0,none⟩)] 22 (0,0)):=by
   rw [hw4];exact (Below.heap_alloc _ _ _ (by rw [hs3]; omega)).trans (Z07 (o:=0) _ p3)
  have m4:w4.heap[mb]?=some (.cells #[.int .i64 0] 3 (0,0)):=by
   rw [hw4,← hs3]; exact heap_alloc_new _ _
  have hT4:TreeAt w4 w2.heap.size a:=hG.at'.keepB fun k hk=>far4 k (by have:=(hG.new k hk).2; omega) (by have:=(hG.new k hk).1; omega);have hI:Zb5 w4 w2.heap.size mb a 0 w4:=⟨hT4,m4,rfl,rfl,rfl,Y5 _,fun _ _ _=>rfl⟩
  have hmn:mb ∉ a.blocks:=fun hx=>by have:=(hG.new mb hx).2; omega
  have HWK:=Zkh ⟨mb,0,none⟩ (Zb5 w4 w2.heap.size mb a) cntG w2.heap.size a.many a (Y5 _) (fun s W h=>h.1) (fun x hx s W h=>Zk4 w4 w2.heap.size mb a x (.inr hmn) (by omega) s W h) 0 w4 hI;unfold ATree.ptr at HWK;rw [Zdk,Nat.zero_add,← Z7l,hG.tree] at HWK;have HWK:=lh HWK;have c3:w3.cell? ⟨pb,0,none⟩=some (.pointer none):=by simp [World.cell?,p3]
  have z3:w3.frozen? ⟨pb,0,none⟩=false:=by simp [World.frozen?,p3]
  have hpl3:pb < w3.heap.size:=by omega
  have HG:=lh hG;have FF:=lh hF;have HW4:=lh hw4;have HMB:=lh hmb;have HS4:=lh hs4;have FAR4:=lh far4;have P4:=lh p4;have E3:=lh e3;have hmany:t.many≤6100:=by
   have:=Za1 _ _ _ _ _ _ HR.out;simp only [Job.base,Zv] at this;have:=S2.out; have:=HM.out;omega
  have RF4:=lh (show w4.os=w3.os∧w4.tape=w3.tape∧w4.output=w3.output by rw [hw4]; exact ⟨rfl,rfl,rfl⟩);clear hG hR3 hF hw4 hmb hs3 hs4 far4 p4 m4 hT4 hI hmn p3 e3 h2 h3 h4 h5 h6 hsz HS;go_wp2_with fail
  rw [← HW4.out,← HMB.out];refine HWK.out.mono ?_;rintro e w5 ⟨rfl,i1,i2,i3,i4,i5,i6,i7⟩;rw [show IntKind.i64.wrap ((t.many:Nat):Int)=(t.many:Int) by simp only [IntKind.wrap_i64]; omega] at i2;have h2:=HS2.out; have h3:=SZ.out; have h4:=HPB.out; have h5:=HEB.out; have h6:=HRB.out; have h7:=HS4.out; have h8:=HMB.out; have h9:=FF.out.size;have p5:=(i7 pb (by omega) (by omega)).trans P4.out;have e5:=(i7 eb (by omega) (by omega)).trans ((FAR4.out eb (by omega) (by omega)).trans E3.out)
  have cm:w5.cell? ⟨mb,0,none⟩=some (.int .i64 (t.many:Int)):=by simp [World.cell?,i2]
  have cp:w5.cell? ⟨pb,0,none⟩=some (.pointer (some ⟨a.b,0,none⟩)):=by simp [World.cell?,p5]
  have ce:w5.cell? ⟨eb,0,none⟩=some .nilIface:=by simp [World.cell?,e5]
  have zp:w5.frozen? ⟨pb,0,none⟩=false:=by simp [World.frozen?,p5]
  have ze:w5.frozen? ⟨eb,0,none⟩=false:=by simp [World.frozen?,e5]
  have hl5:pb < w5.heap.size:=by omega
  have hl6:eb < w5.heap.size:=by omega
  have fin:Hid (∀ (W:World) (x y:Value),W=(w5.setCell ⟨pb,0,none⟩ x).setCell ⟨eb,0,none⟩ y→Below w.heap.size w W∧Got w w.heap.size W a t):=by
   refine lh fun W x y hW=>?_;have hsW:W.heap.size=w5.heap.size:=by rw [hW,Yn,Yn]
   have farW:∀ k,k≠pb→k≠eb→W.heap[k]?=w5.heap[k]?:=fun k h1 h2=>by rw [hW]; exact (Yg _ _ _ _ h2).trans (Yg _ _ _ _ h1)
   have farA:∀ k,k < mb→k≠pb→k≠eb→W.heap[k]?=w3.heap[k]?:=fun k hk h1 h2=>(farW k h1 h2).trans ((i7 k (by omega) (by omega)).trans (FAR4.out k (by omega) h1));have o1:W.os=w5.os∧W.tape=w5.tape∧W.output=w5.output:=by rw [hW]; exact ⟨rfl,rfl,rfl⟩
   refine ⟨⟨?_,?_,?_,by omega,fun k hk=>?_⟩,⟨HG.out.tree,?_,HG.out.nodup,fun z hz=>?_⟩⟩;·exact o1.1.trans (i3.trans (RF4.out.1.trans (FF.out.os.trans (RFR2.out.1.trans B01.out.os))))
   ·exact o1.2.1.trans (i4.trans (RF4.out.2.1.trans (FF.out.tape.trans (RFR2.out.2.1.trans B01.out.tape))))
   ·exact o1.2.2.trans (i5.trans (RF4.out.2.2.trans (FF.out.output.trans (RFR2.out.2.2.trans B01.out.output))))
   ·exact (farA k (by omega) (by omega) (by omega)).trans ((FF.out.block k (by omega) (by omega)).trans (BW2.out k hk))
   ·refine (HG.out.at'.keepB fun k hk=>?_).base (by omega);have:=HG.out.new k hk;exact farA k (by omega) (by omega) (by omega)
   ·have:=HG.out.new z hz; omega
  have HALL2:Z1o text=if 1500 < t.many then .error (4,-1) else .ok t:=HALL.out;clear i1 i2 i3 i4 i5 i6 i7 p5 e5 h2 h3 h4 h5 h6 h7 h8 h9 HWK;by_cases hbig:1500 < t.many
  ·rw [Yb hbig] at HALL2;have hb : decide ((t.many : Int) > 1500) = true := by simp; omega
   have HA:=lh HALL2;clear HALL2 hbig;go_wp2_with fail
   refine leaves_cons (f:=18) (args:=#[.pointer (some ⟨pb,0,none⟩),.pointer (some ⟨eb,0,none⟩)]) (by simp) (by simp [go_sem]) ?_;refine (Z9y ⟨pb,0,none⟩ ⟨eb,0,none⟩ _).mono ?_;rintro e u' w6 ⟨rfl,rfl,rfl⟩;show Go.Leaves _ _ _ _ [] .returning _;refine Z6l (pb:=pb) (eb:=eb) rfl rfl (x:=.pointer none) (y:=.iface 23 (.int .i64 4)) (by go_simp) (by go_simp) ?_;rw [HA.out];have hf:=fin.out _ (.pointer none) (.iface 23 (.int .i64 4)) rfl;exact ⟨hf.1,_,rfl,.inl ⟨rfl,rfl⟩⟩
  ·rw [Y9 hbig] at HALL2;have hb : decide ((t.many : Int) > 1500) = false := by simp; omega
   have HA:=lh HALL2;clear HALL2 hbig;go_wp2_with fail
   refine leaves_cons (f:=18) (args:=#[.pointer (some ⟨pb,0,none⟩),.pointer (some ⟨eb,0,none⟩)]) (by simp) (by simp [go_sem]) ?_;refine (Z9y ⟨pb,0,none⟩ ⟨eb,0,none⟩ _).mono ?_;rintro e u' w6 ⟨rfl,rfl,rfl⟩;show Go.Leaves _ _ _ _ [] .returning _;refine Z6l (pb:=pb) (eb:=eb) rfl rfl (x:=.pointer (some ⟨a.b,0,none⟩)) (y:=.nilIface) (by go_simp) (by go_simp) ?_;rw [HA.out];have hf:=fin.out _ (.pointer (some ⟨a.b,0,none⟩)) (.nilIface) rfl;exact ⟨hf.1,a,rfl,hf.2⟩
theorem Zfw (w:World) (text:ByteArray) (hW:Words w) (hL:Z52 w w.heap.size) :
 Calls Tryz.prog 5 #[.string text] w (Z4z w (Z1o text)):=by
 have k4:=(Z9e w).2.2.2;by_cases hm:3000 < text.size
 ·have e : Z1o text = .error (4, -1) := by unfold Z1o; rw [Yb hm]
  rw [e];exact Zb3 w text 4 (-1) ((Zd6 (Z4f w) text hm).mono fun e w' ⟨h1,h2⟩=>by subst h1; subst h2; exact ⟨⟨_,rfl,.inl ⟨rfl,rfl⟩⟩,Y8 _ _⟩)
 ·cases ht : Z6h text with
  | ok ts=>exact Zen w text (by omega) hW hL ts ht
  | error x =>
    obtain ⟨c,p⟩:=x;have e:Z1o text=.error (c,(p:Int)):=by unfold Z1o; rw [Y9 hm,ht]
    rw [e];have HC:=Za4 (Z4f w) text (by omega) (hW.below k4);rw [ht] at HC;exact Zb3 w text c p (HC.mono fun e w' ⟨⟨x,h1,h2⟩,h3⟩=>⟨⟨x,h1,.inr ⟨p,rfl,h2⟩⟩,h3⟩)
end Go.Proofs.YtmeiggjboakmpaaGreatDoor
