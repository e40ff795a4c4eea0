/- Package tree: unary. -/
import Derived.Test.YtmeiggjboakmpaaGreatDoorJ10
namespace Go.Proofs.YtmeiggjboakmpaaGreatDoor
open Go Go.RowKit Go.Maps
set_option maxRecDepth 100000
set_option maxHeartbeats 20000000
def unL:List ByteArray:=[Z5h,Z1l,Z1t]
theorem Zko {ts:List Tok} (h:∀ (i:Nat) (x:ByteArray),i < 3→unL[i]?=some x→isT x ts=false):Z3g ts=0:=by
 have h0:=h 0 Z5h (by omega) rfl; have h1:=h 1 Z1l (by omega) rfl; have h2:=h 2 Z1t (by omega) rfl;simp [Z3g,h0,h1,h2]
theorem Zka {ts:List Tok} {k:Nat} {x:ByteArray} (hk:unL[k]?=some x) (hx:isT x ts=true) (h:∀ (i:Nat) (y:ByteArray),i < k→unL[i]?=some y→isT y ts=false):Z3g ts=32 + k∧x.size≤maxLen ∧
 (litD [(Z5h,32),(Z1l,33),(Z1t,34)]).atKey (.string x.data.toList) (.lit (.int .i64 0))=.lit (.int .i64 (32 + k)):=by
 match k with
 | 0 => obtain rfl : Z5h = x := by simpa [unL] using hk
        exact ⟨by simp [Z3g,hx],by decide,by kernel_rfl⟩
 | 1 => obtain rfl : Z1l = x := by simpa [unL] using hk
        have h0:=h 0 Z5h (by omega) rfl;exact ⟨by simp [Z3g,hx,h0],by decide,by kernel_rfl⟩
 | 2 => obtain rfl : Z1t = x := by simpa [unL] using hk
        have h0:=h 0 Z5h (by omega) rfl; have h1:=h 1 Z1l (by omega) rfl;exact ⟨by simp [Z3g,hx,h0,h1],by decide,by kernel_rfl⟩
 | k + 3=>simp [unL] at hk
theorem Z6h {P:Program} {ops:Array Oper} {Q:Exit→Act→World→Prop} {i:Nat} {o:Oper} {K:Act→World→Prop} {a:Act} {w:World} (hi:ops[i]?=some o)
 (h:if Region.wanted o (yielded ops a.tmps)=true then o.wp P a w K Q else K (a.put o.dst undef) w):wpOp P ops Q i K a w:=by
 unfold wpOp;simp only [hi];split;·rename_i hw; rw [Yb hw] at h; exact .inl h
 ·rename_i hw; rw [Y9 hw] at h; exact h
theorem Z1z {H:Type} {P:Program} {w:World} {o:Oper} {a:Act} {K:Act→World→Prop} {Q:Exit→Act→World→Prop}
 (m x v:Operand) (t:TypeId) (hop:o.op=Op.insert t m x v)
 (k e:TypeId) (KK:Keyed P k) (ht:P.underlying t=some (.map k e)) (R:Value→Option (DataW H×List MemPlace)) (b n:Nat) (D:DataW H)
 (hm:a.eval m=.map (some b)) (hown:w.ownsMap P k R b n D) (hn:n < maxLen) (key val:Value) (kl:Lit) (hx:a.eval x=key) (hv:a.eval v=val) (hkey:keyOf P k key=some kl)
 (d:DataW H) (ps:List MemPlace) (hval:R val=some (d,ps))
 (hK:∀ w',w'.ownsMap P k R b (n + 1) (D.put kl d)→w.grownBy w' (some b)→K (a.put o.dst undef) w'):o.wp P a w K Q:=by
 obtain ⟨w',hrun,r1,r2⟩:=hown.update KK ht hn hkey hval;unfold Oper.wp;simp [execOp,hop,hm,hx,hv,hrun,Result.andThen];exact hK w' r1 r2
theorem Z3q {H:Type} {P:Program} {w:World} {o:Oper} {a:Act} {K:Act→World→Prop} {Q:Exit→Act→World→Prop}
 (m x:Operand) (t:TypeId) (hop:o.op=Op.lookup t m x false)
 (k e:TypeId) (q:IntKind) (KK:Keyed P k) (ht:P.underlying t=some (.map k e)) (he:P.underlying e=some (.int q)) (hz:(zeroValue e).run P w=.ok (.int q 0) w) (b n:Nat) (D:DataW H)
 (hm:a.eval m=.map (some b)) (hown:w.ownsMap P k (plainElem P e) b n D) (key:Value) (kl:Lit) (hx:a.eval x=key) (hkey:keyOf P k key=some kl)
 (hK:∀ c:Int,D.atKey kl (.lit (.int q 0))=.lit (.int q c)→K (a.put o.dst (.int q c)) w):o.wp P a w K Q:=by
 obtain ⟨c,hrun,hat,hwc⟩:=hown.lookup_int KK ht he hz hkey;unfold Oper.wp;simp [execOp,hop,hm,hx,hrun,Result.andThen];exact hK c hat
def unD (b2 b3 b4:Bool):DataW Unit:=litD ((if b2 then [(Z5h,32)] else []) ++ (if b3 then [(Z1l,33)] else []) ++ (if b4 then [(Z1t,34)] else []))
theorem Zn4 (b3 b4:Bool):(unD false b3 b4).put (.string [33]) (.lit (.int .i64 32))=unD true b3 b4:=by cases b3 <;> cases b4 <;> kernel_rfl
theorem Zn5 (b2 b4:Bool):(unD b2 false b4).put (.string [116,121,112,101,111,102]) (.lit (.int .i64 33))=unD b2 true b4:=by cases b2 <;> cases b4 <;> kernel_rfl
theorem Zmw (b2 b3:Bool):(unD b2 b3 false).put (.string [100,101,108,101,116,101]) (.lit (.int .i64 34))=unD b2 b3 true:=by cases b2 <;> cases b3 <;> kernel_rfl
def Zn8 (w0:World) (k:Nat) (b1 b2 b3 b4 b5 b7:Bool) (v15 v16 v18:Value) (w':World) (mb:Nat):Prop:=
 (b1 = true → v15 = .map (some mb) ∧ w0.heap.size ≤ mb ∧ mb < w'.heap.size ∧ ∃ n, n ≤ b2.toNat + b3.toNat + b4.toNat ∧ w'.ownsMap (H := Unit) Tryz.prog 9 (plainElem Tryz.prog 3) mb n (unD b2 b3 b4)) ∧ (b5 = true → v16 = .map (some mb) ∧ b1 = true ∧ b2 = true ∧ b3 = true ∧ b4 = true) ∧ (b7 = true → v18 = .int .i64 (32 + (k : Int))) ∧
  (b1=false→b2=false∧b3=false∧b4=false)
def Z99 (w0:World) (rb B d:Nat) (us:List Tok) (r:Except (Int×Nat) (Tree×List Tok)) (b1 b11 b12:Bool) (v22 v23:Value) (w':World) (mb:Nat):Prop:=
 (b11 = false → Pre w' rb B d us ∧ RFr w0 w' rb ∧ b12 = false) ∧ (b11 = true → ∃ (a : ATree) (t : Tree) (ts' : List Tok), r = .ok (t, ts') ∧ v22 = .pointer (some ⟨a.b, 0, none⟩) ∧ Got w0 B w' a t ∧ Rd w' rb ts' d ∧ RFr w0 w' rb ∧ (b1 = true → mb ∉ a.blocks) ∧
  (b12=true→∃ g,v23=.slice (some ⟨g,0,none⟩) 1 1∧(b1=true→g≠mb)∧g ∉ a.blocks∧w0.heap.size≤g∧w'.heap[g]?=some (.cells #[a.ptr] 22 (0,0))))
def UnSt (w0:World) (rb B d:Nat) (us:List Tok) (r:Except (Int×Nat) (Tree×List Tok)) (k:Nat) (b1 b2 b3 b4 b5 b7 b11 b12:Bool) (v15 v16 v18 v22 v23:Value) (w':World):Prop:=
 ∃ mb,Zn8 w0 k b1 b2 b3 b4 b5 b7 v15 v16 v18 w' mb∧Z99 w0 rb B d us r b1 b11 b12 v22 v23 w' mb∧rb < B∧B≤w0.heap.size∧w0.heap.size≤w'.heap.size
section
variable {w0 w' w'':World} {rb B d k mb:Nat} {us:List Tok} {r:Except (Int×Nat) (Tree×List Tok)} {v15 v16 v18 v22 v23:Value} {b1 b2 b3 b4 b5 b7 b11 b12:Bool}
theorem Z99.keep (h:Z99 w0 rb B d us r b1 b11 b12 v22 v23 w' mb) (hr:rb < B) (hB:B≤w0.heap.size) (hs:w'.heap.size≤w''.heap.size) (ho:w''.os=w'.os) (ht:w''.tape=w'.tape) (hu:w''.output=w'.output) (hb:∀ x,x < w'.heap.size→x≠mb→w''.heap[x]?=w'.heap[x]?)
 {b1':Bool} (hm:w0.heap.size≤mb) (hp:b1=true∨w'.heap.size≤mb):Z99 w0 rb B d us r b1' b11 b12 v22 v23 w'' mb:=by
 have hRF:∀ {w0:World},w0.heap.size≤mb→RFr w0 w' rb→RFr w0 w'' rb:=fun hm h=>⟨ho.trans h.os,ht.trans h.tape,hu.trans h.output,Ya h.size hs,fun x hx hn=>(hb x (Ye hx h.size) (by omega)).trans (h.block x hx hn)⟩;refine ⟨fun hq=>?_,fun hq=>?_⟩
 ·obtain ⟨h1,h2,h3⟩:=h.1 hq;have:=h1.rd.rlt;exact ⟨⟨h1.rd.keep hs fun x hx=>hb x (by omega) (by omega),h1.deep,h1.lt,Ya h1.le hs,h1.few⟩,hRF hm h2,h3⟩
 ·obtain ⟨a,t,ts',e1,e2,G,R,F,hn,h2⟩:=h.2 hq;have hn':mb ∉ a.blocks:=by
   rcases hp with hp | hp;·exact hn hp
   ·intro hx; have:=(G.new mb hx).2; omega
  have:=R.rlt;refine ⟨a,t,ts',e1,e2,⟨G.tree,G.at'.keepB fun x hx=>hb x (G.new x hx).2 (fun e=>hn' (e ▸ hx)),G.nodup,fun x hx=>⟨(G.new x hx).1,Ye (G.new x hx).2 hs⟩⟩,R.keep hs fun x hx=>hb x (by omega) (by omega),hRF hm F,fun _=>hn',fun hq2=>?_⟩;obtain ⟨g,e3,hgm,hga,hg0,hgb⟩:=h2 hq2;have hgl:g < w'.heap.size:=(Y6.1 hgb).1;have hgm':g≠mb:=by
   rcases hp with hp | hp;·exact hgm hp
   ·omega
  exact ⟨g,e3,fun _=>hgm',hga,hg0,(hb g hgl hgm').trans hgb⟩
theorem Z99.any (h:Z99 w0 rb B d us r b1 b11 b12 v22 v23 w' mb) (hp:b1=false) (mb':Nat):Z99 w0 rb B d us r b1 b11 b12 v22 v23 w' mb':=by
 refine ⟨h.1,fun hq=>?_⟩;obtain ⟨a,t,ts',e1,e2,G,R,F,hn,h2⟩:=h.2 hq;refine ⟨a,t,ts',e1,e2,G,R,F,fun h=>(by rw [hp] at h; cases h),fun hq2=>?_⟩;obtain ⟨g,e3,hgm,hrest⟩:=h2 hq2;exact ⟨g,e3,fun h=>(by rw [hp] at h; cases h),hrest⟩
theorem UnSt.make (h:UnSt w0 rb B d us r k false b2 b3 b4 b5 b7 b11 b12 v15 v16 v18 v22 v23 w'):UnSt w0 rb B d us r k true b2 b3 b4 b5 b7 b11 b12 (.map (some w'.heap.size)) v16 v18 v22 v23 (w'.alloc (.map #[] 0)):=by
 obtain ⟨mb,hm,hc,hr,hB,hs⟩:=h;obtain ⟨rfl,rfl,rfl⟩:=hm.2.2.2 rfl;have hal:Below w'.heap.size w' (w'.alloc (.map #[] 0)):=(Y8 _ _).alloc (Y5 _) _;refine ⟨w'.heap.size,⟨fun _=>⟨rfl,hs,by simp,0,by simp,World.ownsMap_made _ _ _ _⟩,fun h=>(by have:=(hm.2.1 h).2.1; cases this),hm.2.2.1,(fun h=>by cases h)⟩,(hc.any rfl w'.heap.size).keep hr hB hal.size hal.os hal.tape hal.output (fun x hx _=>hal.block x hx) hs (.inr (Y5 _)),hr,hB,Ya hs hal.size⟩
theorem UnSt.ins2 (h:UnSt w0 rb B d us r k true false b3 b4 false b7 b11 b12 v15 v16 v18 v22 v23 w'):∃ mb n,v15=.map (some mb)∧n < 4∧w'.ownsMap (H:=Unit) Tryz.prog 9 (plainElem Tryz.prog 3) mb n (unD false b3 b4) ∧
 ∀ w'',w''.ownsMap (H:=Unit) Tryz.prog 9 (plainElem Tryz.prog 3) mb (n + 1) ((unD false b3 b4).put (.string [33]) (.lit (.int .i64 32)))→w'.grownBy w'' (some mb)→UnSt w0 rb B d us r k true true b3 b4 false b7 b11 b12 v15 v16 v18 v22 v23 w'':=by
 obtain ⟨mb,hm,hc,hr,hB,hs⟩:=h;obtain ⟨e,h1,h2,n,h4,h5⟩:=hm.1 rfl;have n4:n < 4:=by have:=Bool.toNat_le b3; have:=Bool.toNat_le b4; have:(false).toNat=0:=rfl; omega
 refine ⟨mb,n,e,n4,h5,fun w'' ho hg=>?_⟩;rw [Zn4] at ho;exact ⟨mb,⟨fun _=>⟨e,h1,Ye h2 hg.size,_,by have:(false).toNat=0:=rfl; have:(true).toNat=1:=rfl; omega,ho⟩,(fun h=>by cases h),hm.2.2.1,(fun h=>by cases h)⟩,hc.keep hr hB hg.size hg.os hg.tape hg.output (fun x hx hn=>hg.block x hx (fun e=>hn (by cases e; rfl))) h1 (.inl rfl),hr,hB,Ya hs hg.size⟩
theorem UnSt.ins3 (h:UnSt w0 rb B d us r k true b2 false b4 false b7 b11 b12 v15 v16 v18 v22 v23 w'):∃ mb n,v15=.map (some mb)∧n < 4∧w'.ownsMap (H:=Unit) Tryz.prog 9 (plainElem Tryz.prog 3) mb n (unD b2 false b4) ∧
 ∀ w'',w''.ownsMap (H:=Unit) Tryz.prog 9 (plainElem Tryz.prog 3) mb (n + 1) ((unD b2 false b4).put (.string [116,121,112,101,111,102]) (.lit (.int .i64 33)))→w'.grownBy w'' (some mb)→UnSt w0 rb B d us r k true b2 true b4 false b7 b11 b12 v15 v16 v18 v22 v23 w'':=by
 obtain ⟨mb,hm,hc,hr,hB,hs⟩:=h;obtain ⟨e,h1,h2,n,h4,h5⟩:=hm.1 rfl;have n4:n < 4:=by have:=Bool.toNat_le b2; have:=Bool.toNat_le b4; have:(false).toNat=0:=rfl; omega
 refine ⟨mb,n,e,n4,h5,fun w'' ho hg=>?_⟩;rw [Zn5] at ho;exact ⟨mb,⟨fun _=>⟨e,h1,Ye h2 hg.size,_,by have:(false).toNat=0:=rfl; have:(true).toNat=1:=rfl; omega,ho⟩,(fun h=>by cases h),hm.2.2.1,(fun h=>by cases h)⟩,hc.keep hr hB hg.size hg.os hg.tape hg.output (fun x hx hn=>hg.block x hx (fun e=>hn (by cases e; rfl))) h1 (.inl rfl),hr,hB,Ya hs hg.size⟩
theorem UnSt.ins4 (h:UnSt w0 rb B d us r k true b2 b3 false false b7 b11 b12 v15 v16 v18 v22 v23 w'):∃ mb n,v15=.map (some mb)∧n < 4∧w'.ownsMap (H:=Unit) Tryz.prog 9 (plainElem Tryz.prog 3) mb n (unD b2 b3 false) ∧
 ∀ w'',w''.ownsMap (H:=Unit) Tryz.prog 9 (plainElem Tryz.prog 3) mb (n + 1) ((unD b2 b3 false).put (.string [100,101,108,101,116,101]) (.lit (.int .i64 34)))→w'.grownBy w'' (some mb)→UnSt w0 rb B d us r k true b2 b3 true false b7 b11 b12 v15 v16 v18 v22 v23 w'':=by
 obtain ⟨mb,hm,hc,hr,hB,hs⟩:=h;obtain ⟨e,h1,h2,n,h4,h5⟩:=hm.1 rfl;have n4:n < 4:=by have:=Bool.toNat_le b2; have:=Bool.toNat_le b3; have:(false).toNat=0:=rfl; omega
 refine ⟨mb,n,e,n4,h5,fun w'' ho hg=>?_⟩;rw [Zmw] at ho;exact ⟨mb,⟨fun _=>⟨e,h1,Ye h2 hg.size,_,by have:(false).toNat=0:=rfl; have:(true).toNat=1:=rfl; omega,ho⟩,(fun h=>by cases h),hm.2.2.1,(fun h=>by cases h)⟩,hc.keep hr hB hg.size hg.os hg.tape hg.output (fun x hx hn=>hg.block x hx (fun e=>hn (by cases e; rfl))) h1 (.inl rfl),hr,hB,Ya hs hg.size⟩
theorem UnSt.move (h:UnSt w0 rb B d us r k true true true true false b7 b11 b12 v15 v16 v18 v22 v23 w'):UnSt w0 rb B d us r k true true true true true b7 b11 b12 v15 v15 v18 v22 v23 w':=by
 obtain ⟨mb,hm,hc,hr,hB,hs⟩:=h;exact ⟨mb,⟨hm.1,fun _=>⟨(hm.1 rfl).1,rfl,rfl,rfl,rfl⟩,hm.2.2.1,hm.2.2.2⟩,hc,hr,hB,hs⟩
theorem UnSt.look (h:UnSt w0 rb B d us r k b1 b2 b3 b4 true false b11 b12 v15 v16 v18 v22 v23 w'):(∃ mb n,v16=.map (some mb)∧w'.ownsMap (H:=Unit) Tryz.prog 9 (plainElem Tryz.prog 3) mb n (litD [(Z5h,32),(Z1l,33),(Z1t,34)]))∧UnSt w0 rb B d us r k b1 b2 b3 b4 true true b11 b12 v15 v16 (.int .i64 (32 + (k:Int))) v22 v23 w':=by
 obtain ⟨mb,hm,hc,hr,hB,hs⟩:=h;obtain ⟨e,rfl,rfl,rfl,rfl⟩:=hm.2.1 rfl;obtain ⟨e1,h1,h2,n,h4,h5⟩:=hm.1 rfl;exact ⟨⟨mb,n,e,h5⟩,mb,⟨hm.1,hm.2.1,fun _=>rfl,hm.2.2.2⟩,hc,hr,hB,hs⟩
theorem UnSt.pre (h:UnSt w0 rb B d us r k b1 b2 b3 b4 b5 b7 false b12 v15 v16 v18 v22 v23 w'):Pre w' rb B d us∧RFr w0 w' rb:=by
 obtain ⟨mb,hm,hc,hr,hB,hs⟩:=h;exact ⟨(hc.1 rfl).1,(hc.1 rfl).2.1⟩
theorem UnSt.call (h:UnSt w0 rb B d us r k b1 b2 b3 b4 b5 b7 false b12 v15 v16 v18 v22 v23 w') {a:ATree} {t:Tree} {ts':List Tok} (hr:r=.ok (t,ts')) (G:Got w' B w'' a t) (R:Rd w'' rb ts' d) (F:RFr w' w'' rb) :
 UnSt w0 rb B d us r k b1 b2 b3 b4 b5 b7 true b12 v15 v16 v18 (.pointer (some ⟨a.b,0,none⟩)) v23 w'':=by
 obtain ⟨mb,hm,hc,hrb,hB,hs⟩:=h;obtain ⟨P1,F1,rfl⟩:=hc.1 rfl;refine ⟨mb,⟨fun hp=>?_,hm.2.1,hm.2.2.1,hm.2.2.2⟩,⟨(fun h=>by cases h),fun _=>⟨a,t,ts',hr,rfl,G.pre F1,R,F1.trans F,fun hp=>?_,(fun h=>by cases h)⟩⟩,hrb,hB,Ya hs F.size⟩
 ·obtain ⟨e,h1,h2,n,h4,h5⟩:=hm.1 hp;have:=P1.rd.rlt;have hbb:w''.heap[mb]?=w'.heap[mb]?:=F.block mb h2 (by omega);refine ⟨e,h1,Ye h2 F.size,n,h4,?_⟩;obtain ⟨es,clock,hb,hx⟩:=h5;exact ⟨es,clock,hbb.trans hb,hx⟩
 ·obtain ⟨e,h1,h2,_⟩:=hm.1 hp;intro hx;have:=(G.new mb hx).1;omega
theorem UnSt.ptr (h:UnSt w0 rb B d us r k b1 b2 b3 b4 b5 b7 true b12 v15 v16 v18 v22 v23 w'):∃ pb,v22=.pointer (some ⟨pb,0,none⟩):=by
 obtain ⟨mb,hm,hc,hrb,hB,hs⟩:=h;obtain ⟨a,t,ts',e1,e2,_⟩:=hc.2 rfl;exact ⟨_,e2⟩
theorem UnSt.box (h:UnSt w0 rb B d us r k b1 b2 b3 b4 b5 b7 true false v15 v16 v18 v22 v23 w'):UnSt w0 rb B d us r k b1 b2 b3 b4 b5 b7 true true v15 v16 v18 v22 (.slice (some ⟨w'.heap.size,0,none⟩) 1 1) (w'.alloc (.cells #[v22] 22)):=by
 obtain ⟨mb,hm,hc,hrb,hB,hs⟩:=h;have hal:Below w'.heap.size w' (w'.alloc (.cells #[v22] 22)):=(Y8 _ _).alloc (Y5 _) _;obtain ⟨a,t,ts',e1,rfl,G,R,F,hn,_⟩:=hc.2 rfl;refine ⟨mb,⟨fun hp=>?_,hm.2.1,hm.2.2.1,hm.2.2.2⟩,⟨(fun h=>by cases h),fun _=>⟨a,t,ts',e1,rfl,G.rfr hrb (RFr.below hal),R.below hal,F.trans (RFr.below hal),hn,fun _=>⟨w'.heap.size,rfl,fun hp=>?_,fun hx=>?_,hs,heap_alloc_new w' _⟩⟩⟩,hrb,hB,Ya hs hal.size⟩
 ·obtain ⟨e,h1,h2,n,h4,h5⟩:=hm.1 hp;have hbb:=hal.block mb h2;refine ⟨e,h1,Ye h2 hal.size,n,h4,?_⟩;obtain ⟨es,clock,hb,hx⟩:=h5;exact ⟨es,clock,hbb.trans hb,hx⟩
 ·obtain ⟨e,h1,h2,_⟩:=hm.1 hp;omega
 ·have:=(G.new _ hx).2;omega
theorem UnSt.fin (h:UnSt w0 rb B d us r k b1 b2 b3 b4 b5 true true true v15 v16 v18 v22 v23 w'):∃ (a:ATree) (t:Tree) (ts':List Tok) (g:Nat),r=.ok (t,ts')∧v18=.int .i64 (32 + (k:Int))∧v23=.slice (some ⟨g,0,none⟩) 1 1∧RFr w0 w' rb∧Rd w' rb ts' d ∧
 Got w0 B (w'.alloc (.cells #[.int .i64 (32 + (k:Int)),.string ⟨#[]⟩,.int .i64 0,.slice (some ⟨g,0,none⟩) 1 1] 38)) (.mk w'.heap.size (.slice (some ⟨g,0,none⟩) 1 1) (32 + (k:Int)) ⟨#[]⟩ 0 [a]) (.mk (32 + (k:Int)) ⟨#[]⟩ 0 [t]):=by
 obtain ⟨mb,hm,hc,hrb,hB,hs⟩:=h;obtain ⟨a,t,ts',e1,rfl,G,R,F,hn,h2⟩:=hc.2 rfl;obtain ⟨g,rfl,hgm,hga,hg0,hgb⟩:=h2 rfl;have hal:Below w'.heap.size w' (w'.alloc (.cells #[.int .i64 (32 + (k:Int)),.string ⟨#[]⟩,.int .i64 0,.slice (some ⟨g,0,none⟩) 1 1] 38)):=(Y8 _ _).alloc (Y5 _) _;have hgl:g < w'.heap.size:=(Y6.1 hgb).1;refine ⟨a,t,ts',g,e1,hm.2.2.1 rfl,rfl,F,R,⟨by simp [ATree.tree,Zr,G.tree],?_,?_,?_⟩⟩
 ·refine TreeAt.new (Ya hB hs) ⟨by simp,.inr ⟨g,1,#[a.ptr],rfl,by omega,hgb,by simp,by unfold maxLen; omega,by simp,by simp⟩⟩ fun x hx=>?_;simp only [List.mem_singleton] at hx;subst hx;exact G.at'
 ·simp only [ATree.blocks,Value.ownBlock,Option.toList,Z0f,List.append_nil,List.nodup_cons,List.cons_append,List.nil_append,List.mem_cons,not_or];exact ⟨⟨by omega,fun hx=>by have:=(G.new _ hx).2; omega⟩,hga,G.nodup⟩
 ·intro x hx;simp only [ATree.blocks, Value.ownBlock, Option.toList, Z0f, List.append_nil, List.cons_append, List.nil_append, List.mem_cons] at hx;have := hal.size;rcases hx with rfl | rfl | hx;·exact ⟨hs, by simp⟩
  ·exact ⟨hg0,by omega⟩
  ·have:=G.new x hx; omega
end
def Zn0 (w0:World) (rb B d:Nat) (us:List Tok) (r:Except (Int×Nat) (Tree×List Tok)) (k:Nat) (FR:Value→Value→Value→Value→Value→Act) (m:Array Bool) (a':Act) (w':World):Prop:=
 ∃ v15 v16 v18 v22 v23,a'=FR v15 v16 v18 v22 v23∧UnSt w0 rb B d us r k (m.getD 1 false) (m.getD 2 false) (m.getD 3 false) (m.getD 4 false) (m.getD 5 false) (m.getD 7 false) (m.getD 11 false) (m.getD 12 false) v15 v16 v18 v22 v23 w'
theorem Zey (f:Nat) (hU:Says 126 rArg .unary f) (hPo:Says 135 rArg .postfix_ f):Says 126 rArg .unary (f + 1):=by
 intro w rb B d ts r hP hp;have hw:(if Z3g ts=0 then Z0 f .postfix_ d ts else Z0g (Z18 d ts.tail (Z0 f .unary (d + 1) ts.tail)) fun x ts'=>okT (.mk (Z3g ts) ByteArray.empty 0 [x]) ts')=some r:=hp;have HP:=lh hP;have HU:=lh hU;have HPO:=lh hPo;have H1:=lh hw;obtain ⟨ub,hub⟩:=zX w.heap.size
 obtain ⟨w1,hw1⟩:=zX (w.alloc (.cells #[.string Z5h,.string Z1l,.string Z1t] 9))
 have hB1:Below w.heap.size w w1:=by rw [hw1]; exact (Y8 _ _).alloc (Y5 _) _
 have hub1:ub < w1.heap.size:=by rw [hw1,hub]; simp
 have hcs:∀ (i:Nat) (x:ByteArray),unL[i]?=some x→w1.cell? ⟨ub,i,none⟩=some (.string x):=by
  intro i x hx;have hb:w1.heap[ub]?=some (.cells #[.string Z5h,.string Z1l,.string Z1t] 9 (0,0)):=by rw [hw1,hub]; exact heap_alloc_new w _
  match i,hx with
  | 0, hx => obtain rfl : Z5h = x := by simpa [unL] using hx
             simp [World.cell?,hb]
  | 1, hx => obtain rfl : Z1l = x := by simpa [unL] using hx
             simp [World.cell?,hb]
  | 2, hx => obtain rfl : Z1t = x := by simpa [unL] using hx
             simp [World.cell?,hb]
  | i + 3,hx=>simp [unL] at hx
 have HCS:=lh hcs;have B1:=lh hB1;unfold Z5h Z1l Z1t at hw1;have hmf:∀ (fn:Fn) (first cap:Array Value) (w:World),(Instr.makeFunc fn first cap).run Tryz.prog w=.ok (.func fn first cap) w:=fun _ _ _ _=>rfl;have HMF:=lh hmf;clear hP hp hw hU hPo hcs hB1 hmf;unfold rArg;go_enter Tryz.func126,Tryz.ntmps126
 go_wp2_with fail
 rw [← hw1,← hub];have HUB:=lh hub;have HW1:=lh hw1;clear hw1 hub;go_loopw [7] (fun i wr=>∃ k:Nat,k≤3∧i=.int .i64 k∧Hid (∀ (j:Nat) (y:ByteArray),j < k→unL[j]?=some y→isT y ts=false)∧Hid (Below w1.heap.size w1 wr)) (fun i _=>3 - (intOf i).toNat)
 case atStart=>exact ⟨0,by omega,rfl,lh (fun j y hj=>by omega),lh (Y8 _ _)⟩
 case round=>
  obtain ⟨k,hk,rfl,NO,BW⟩:=hrel;have P2:=(HP.out.below B1.out).below BW.out;have F2:=lh ((RFr.below (rb:=rb) B1.out).trans (RFr.below BW.out));by_cases hkn:k < 3
  ·obtain ⟨x, hx⟩ : ∃ x, unL[k]? = some x := ⟨_, Yd hkn⟩
   have cx:=(BW.out.cell (p:=⟨ub,k,none⟩) hub1).trans (HCS.out k x hx);have HX:=lh hx;clear hx;by_cases hs:isT x ts=true
   ·have hus:=Zka HX.out hs (fun j y hj hy=>NO.out j y hj hy);have HT:=lh (Z1g wr rb ts d x P2.rd hs);have HPO:=Z0j hs;have P2:=lh P2;have US:=lh hus;have hw2:Z0g (Z18 d ts.tail (Z0 f .unary (d + 1) ts.tail)) (fun x ts'=>okT (.mk (Z3g ts) ByteArray.empty 0 [x]) ts')=some r:=by
     have h:=H1.out;rw [Y9 (by rw [hus.1]; omega)] at h;exact h
    rw [hus.1] at hw2;have H2:=lh hw2;clear hs hus hw2;go_wp2_with fail
    refine HT.out.mono ?_;rintro e w2 ⟨rfl,hR2,hF2⟩;have P3:=P2.out.tail hR2 hF2;have F3:=F2.out.trans hF2;have P3:=lh P3;have F3:=lh F3;clear hR2 hF2 HT;go_wp2_with fail
    obtain ⟨r',hr',HE,HK⟩:∃ r',Z18 d ts.tail (Z0 f .unary (d + 1) ts.tail)=some r'∧Hid (∀ e,r'=.error e→r=.error e)∧Hid (∀ t vs,r'=.ok (t,vs)→r=.ok (.mk (32 + (k:Int)) ByteArray.empty 0 [t],vs)):=by
     rcases Z09 H2.out with ⟨e,he,rfl⟩ | ⟨t,vs,he,h2⟩;·exact ⟨_,he,lh (fun e' h=>by cases h; rfl),lh (fun t vs h=>by cases h)⟩
     ·exact ⟨_,he,lh (fun e' h=>by cases h),lh (fun t' vs' h=>by cases h; exact (Yk h2).symm)⟩
    have HR':=lh hr';have hmm:=@run_makeMap Tryz.prog;clear hr'
    refine Zab [0,6,8,9,10] [1,2,3,4,5,7,11,12] [13,14] (by kernel_rfl) (by kernel_rfl) (fun _ _ d _ _ h=>by cases d <;> exact h)
     (Zn0 w2 rb B d ts.tail r' k fun v15 v16 v18 v22 v23=>{ tmps:=#[.pointer (some ⟨rb,0,none⟩),undef,u2,undef,.string x,.slice (some ⟨ub,0,none⟩) 3 3,.int .i64 3,.int .i64 k,.bool true,.pointer (some ⟨ub,k,none⟩),.string x,.pointer (some ⟨rb,0,none⟩),.string x,.bool true,.pointer (some ⟨rb,0,none⟩),v15,v16,.string x,v18,.pointer (some ⟨rb,0,none⟩),.pointer (some ⟨rb,0,none⟩),.func (.func 126) #[.pointer (some ⟨rb,0,none⟩)] #[],v22,v23,u24,u25,undef,undef],defers:=[] }) ?_ ?_ ?_
    ·have ST:Hid (∀ v15 v16 v18 v22 v23,UnSt w2 rb B d ts.tail r' k false false false false false false false false v15 v16 v18 v22 v23 w2.drew):=lh fun _ _ _ _ _=>
      ⟨0,⟨(fun h=>by cases h),(fun h=>by cases h),(fun h=>by cases h),fun _=>⟨rfl,rfl,rfl⟩⟩,⟨fun _=>⟨P3.out.below (Y8 _ _).drew,(RFr.refl w2 rb).drew,rfl⟩,(fun h=>by cases h)⟩,P3.out.lt,P3.out.le,Y5 _⟩
     simp only [List.filterMap_cons,List.filterMap_nil,List.getElem?_toArray,List.getElem?_cons_zero,List.getElem?_cons_succ];have hmf:=HMF.out;iterate 5 (refine Zen ?_ (by rfl) (fun w' _=>?_) ?_; rotate_left; (go_simp; first | done | with_reducible rfl); simp only [Act.put,zA,zB,zC])
     exact ⟨_,_,_,_,_,rfl,ST.out _ _ _ _ _⟩
    ·intro m i a' w3 hm hi _ h0 hd hI;obtain ⟨v15,v16,v18,v22,v23,rfl,hS⟩:=hI;have HS:=lh hS;clear hS;have hm:m.size=15:=hm;simp only [List.mem_cons,List.not_mem_nil,or_false] at hi;have n5':∀ j,(j=2∨j=3∨j=4)→m.getD j false=false→m.getD 5 false=false:=fun j hj hf=>by
      cases h5:m.getD 5 false with
      | false=>rfl
      | true =>
        obtain ⟨mb,hm,_⟩:=HS.out;obtain ⟨_,_,e2,e3,e4⟩:=hm.2.1 h5;rcases hj with rfl | rfl | rfl;·rw [hf] at e2; cases e2
        ·rw [hf] at e3; cases e3
        ·rw [hf] at e4; cases e4
     rcases hi with rfl | rfl | rfl | rfl | rfl | rfl | rfl | rfl
     ·have hS := HS.out;rw [h0] at hS;refine Z6h (by rfl) ?_;go_simp
      refine ⟨_,_,_,_,_,rfl,?_⟩;simp only [Z3k (show 1 < m.size by rw [hm]; decide)];simp only [Nat.reduceEqDiff,if_true,if_false];exact hS.make
     ·have n5:=n5' 2 (.inl rfl) h0;have d1:=hd 1 (by kernel_rfl);have hS:=HS.out;rw [d1,h0,n5] at hS;obtain ⟨mb,n,rfl,hn,hown,hK⟩:=hS.ins2;refine Z6h (by rfl) ?_;rw [Yb (by rfl)];refine Z1z _ _ _ 82 rfl 9 3 Tryz.keyedS Tryz.underlying82 _ mb n _ rfl hown (by unfold maxLen; omega) _ _ _ rfl rfl (Yw Yr (by decide)) _ [] (plainElem_int Ys (by decide)) fun w4 h4 g4=>?_;refine ⟨_,_,_,_,_,rfl,?_⟩;simp only [Z3k (show 2 < m.size by rw [hm]; decide)];simp only [Nat.reduceEqDiff,if_true,if_false];rw [d1,n5];exact hK w4 h4 g4
     ·have n5 := n5' 3 (.inr (.inl rfl)) h0;have d1 := hd 1 (by kernel_rfl);have hS := HS.out;rw [d1, h0, n5] at hS;obtain ⟨mb, n, rfl, hn, hown, hK⟩ := hS.ins3;refine Z6h (by rfl) ?_;rw [Yb (by rfl)];refine Z1z _ _ _ 82 rfl 9 3 Tryz.keyedS Tryz.underlying82 _ mb n _ rfl hown (by unfold maxLen; omega) _ _ _ rfl rfl (Yw Yr (by decide)) _ [] (plainElem_int Ys (by decide)) fun w4 h4 g4 => ?_;refine ⟨_, _, _, _, _, rfl, ?_⟩;simp only [Z3k (show 3 < m.size by rw [hm]; decide)];simp only [Nat.reduceEqDiff, if_true, if_false];rw [d1, n5]
      exact hK w4 h4 g4
     ·have n5 := n5' 4 (.inr (.inr rfl)) h0;have d1 := hd 1 (by kernel_rfl);have hS := HS.out;rw [d1, h0, n5] at hS;obtain ⟨mb, n, rfl, hn, hown, hK⟩ := hS.ins4;refine Z6h (by rfl) ?_;rw [Yb (by rfl)];refine Z1z _ _ _ 82 rfl 9 3 Tryz.keyedS Tryz.underlying82 _ mb n _ rfl hown (by unfold maxLen; omega) _ _ _ rfl rfl (Yw Yr (by decide)) _ [] (plainElem_int Ys (by decide)) fun w4 h4 g4 => ?_;refine ⟨_, _, _, _, _, rfl, ?_⟩;simp only [Z3k (show 4 < m.size by rw [hm]; decide)];simp only [Nat.reduceEqDiff, if_true, if_false];rw [d1, n5]
      exact hK w4 h4 g4
     ·have d1 := hd 1 (by kernel_rfl);have d2 := hd 2 (by kernel_rfl);have d3 := hd 3 (by kernel_rfl);have d4 := hd 4 (by kernel_rfl);have hS := HS.out;rw [d1, d2, d3, d4, h0] at hS;refine Z6h (by rfl) ?_;go_simp
      refine ⟨_,_,_,_,_,rfl,?_⟩;simp only [Z3k (show 5 < m.size by rw [hm]; decide)];simp only [Nat.reduceEqDiff,if_true,if_false];rw [d1,d2,d3,d4];exact hS.move
     ·have d5:=hd 5 (by kernel_rfl);have hS:=HS.out;rw [d5,h0] at hS;obtain ⟨⟨mb,n,rfl,hown⟩,hK⟩:=hS.look;refine Z6h (by rfl) ?_;rw [Yb (by rfl)];refine Z3q _ _ 82 rfl 9 3 .i64 Tryz.keyedS Tryz.underlying82 Ys (Tryz.zeroI _) mb n _ rfl hown _ _ rfl (Yw Yr US.out.2.1) fun c hc=>?_;obtain rfl:32 + (k:Int)=c:=by
       have e:=US.out.2.2.symm.trans hc;simpa using e
      refine ⟨_,_,_,_,_,rfl,?_⟩;simp only [Z3k (show 7 < m.size by rw [hm]; decide)];simp only [Nat.reduceEqDiff,if_true,if_false];rw [d5];exact hK
     ·have hS := HS.out;rw [h0] at hS;obtain ⟨P4, F4⟩ := hS.pre;have HC := Zbq w3 rb B ts.tail d _ r' P4.rd (by have := P4.deep; omega) P4.lt HR'.out fun hd h1 w4 hR hs => HU.out w4 rb B (d + 1) ts.tail r' ⟨hR, hd, P4.lt, by have := P4.le; omega, P4.few⟩ h1;have HC := lh HC;have F4 := lh F4;have HS2 := lh hS;clear P4 hS;refine Z6h (by rfl) ?_;go_simp
      refine HC.out.mono ?_;rcases r' with ⟨c,p⟩ | ⟨t,ts'⟩
      ·rintro e w4 ⟨⟨b,rfl,h1,h2⟩,hF⟩;obtain rfl:=HE.out _ rfl;exact ⟨rfl,Z0r.pre (F3.out.trans F4.out) (r:=.error (c,p)) ⟨⟨b,rfl,h1,h2⟩,hF⟩⟩
      ·rintro e w4 ⟨a,rfl,hG,hR,hF⟩;refine ⟨_,_,_,_,_,rfl,?_⟩;simp only [Z3k (show 11 < m.size by rw [hm]; decide)];simp only [Nat.reduceEqDiff,if_true,if_false];exact HS2.out.call rfl hG hR hF
     ·have d11 := hd 11 (by kernel_rfl);have hS := HS.out;rw [d11, h0] at hS;obtain ⟨pb, rfl⟩ := hS.ptr;refine Z6h (by rfl) ?_;go_simp
      refine ⟨_,_,_,_,_,rfl,?_⟩;simp only [Z3k (show 12 < m.size by rw [hm]; decide)];simp only [Nat.reduceEqDiff,if_true,if_false];rw [d11];exact hS.box
    ·rintro m a' w3 hall ⟨v15, v16, v18, v22, v23, rfl, hS⟩;rw [hall 7 (by decide), hall 11 (by decide), hall 12 (by decide)] at hS;obtain ⟨a, t, ts', g, e1, rfl, rfl, hF, hR, hG⟩ := hS.fin;simp only [List.filterMap_cons, List.filterMap_nil, List.getElem?_toArray, List.getElem?_cons_zero, List.getElem?_cons_succ];obtain rfl := HK.out _ _ e1;have HG := lh hG;have HR := lh hR;have HF := lh (F3.out.trans hF);clear hG hR hF hS e1 hall;go_wp2_with fail
     refine (Z14 w3 rb (32 + (k:Int)) ⟨#[]⟩ (some ⟨g,0,none⟩) 1 1).mono ?_;rintro e w7 ⟨rfl,hw7⟩;have hal:Below w3.heap.size w3 w7:=by rw [hw7]; exact (Y8 _ _).alloc (Y5 _) _
     have HW7:=lh hw7;have HAL:=lh hal;clear hw7 hal;go_wp2;go_ret;refine ⟨_,?pt,(by rw [HW7.out]; exact HG.out.pre F3.out),HR.out.below HAL.out,HF.out.trans (RFr.below HAL.out)⟩;case pt=>simp [ATree.b]
   ·have hs' : isT x ts = false := by simpa using hs
    have HT:=lh (Z22 wr rb ts d x P2.rd hs');have HS:=lh hs';have P2:=lh P2;clear hs hs';go_wp2_with fail
    refine HT.out.mono ?_;rintro e w2 ⟨rfl,hB2⟩;have B2:=lh hB2;clear hB2;go_wp2;go_roundw
    case rel=>exact ⟨k + 1,by omega,by go_num,lh (fun j y hj hy=>by
     by_cases e:j=k;·subst e; obtain rfl:=Yk (HX.out.symm.trans hy); exact HS.out
     ·exact NO.out j y (by omega) hy),lh (BW.out.trans (B2.out.mono BW.out.size))⟩
    case measure=>simp [intOf]; omega
  ·have h3 : k = 3 := by omega
   subst h3;have hn:=Zko fun i y hi hy=>NO.out i y hi hy;have hq:=H1.out;rw [Yb hn] at hq;have HC:=HPO.out wr rb B d ts r P2 hq;unfold rArg at HC;have HC:=lh HC;clear hn hq P2;go_wp2_with fail
   refine HC.out.mono ?_;rcases r with ⟨c,p⟩ | ⟨t,ts'⟩
   ·rintro e w2 ⟨⟨b,rfl,h1,h2⟩,hF⟩;exact ⟨rfl,Z0r.pre F2.out (r:=.error (c,p)) ⟨⟨b,rfl,h1,h2⟩,hF⟩⟩
   ·rintro e w2 ⟨a,rfl,hG,hR,hF⟩;have HG:=lh (hG.pre F2.out);have HR:=lh hR;have HF:=lh (F2.out.trans hF);clear hG hR hF HC;go_wp2;go_ret;exact ⟨a,rfl,HG.out,HR.out,HF.out⟩
end Go.Proofs.YtmeiggjboakmpaaGreatDoor
namespace Go.Proofs.YtmeiggjboakmpaaGreatDoor
open Go Go.RowKit
set_option maxRecDepth 100000
set_option maxHeartbeats 20000000
def Zep (g d:Nat) (acc:List Tree) (us:List Tok):PR:=if acc.length=8 then Z2t 4 us else Z3f us fun s ts=>Z1e Z30 ts fun ts=>Z0g (Z0 g .value d ts) fun v ts=>Z0 g (.object (acc ++ [.mk 39 s 0 [v]])) d ts
theorem Zcm (F:Nat) (hV:∀ g,g < F→Says 80 rArg .value g) :
 Says 156 rArg (.object []) F:=by
 intro w rb B d ts r hP hp;have HP:=lh hP;have HV:=lh hV;have H1:=lh hp;have HN:=lh (Z14 w rb 38 ⟨#[]⟩ none 0 0);obtain ⟨nb,hnb⟩:=zX w.heap.size
 have G0:=Got.leaf (k:=38) (t:=⟨#[]⟩) (n:=0) hP.le (RFr.refl w rb);have hal:Below w.heap.size w (w.alloc (.cells #[.int .i64 38,.string ⟨#[]⟩,.int .i64 0,.slice none 0 0] 38)):=(Y8 _ _).alloc (Y5 _) _;have R0:=hP.rd.below hal;have F0:RFr w (w.alloc (.cells #[.int .i64 38,.string ⟨#[]⟩,.int .i64 0,.slice none 0 0] 38)) rb:=RFr.below hal;rw [← hnb] at G0 HN;unfold rArg;clear hP hp hV hal;go_enter Tryz.func156,Tryz.ntmps156
 go_wp2_with fail
 refine HN.out.mono ?_;rintro e w2 ⟨rfl,hw2⟩;rw [← hw2] at G0 R0 F0;have hst:∃ (g:Nat) (acc:List Tree) (us:List Tok) (v:Value) (kids:List ATree),g≤F∧Z0 g (.object acc) d us=some r∧Got w B w2 (.mk nb v 38 ⟨#[]⟩ 0 kids) (.mk 38 ⟨#[]⟩ 0 acc)∧Rd w2 rb us d∧RFr w w2 rb∧acc.length≤8∧us.length≤ts.length:=
  ⟨F,[],ts,_,[],Y5 _,H1.out,G0,R0,F0,by simp,Y5 _⟩
 have ST:=lh hst;have HNB:=lh hnb;clear hst hw2 G0 R0 F0 HN hnb H1;go_wp2_with fail
 go_loopw [] (fun wr=>∃ (g:Nat) (acc:List Tree) (us:List Tok) (v:Value) (kids:List ATree),g≤F∧Z0 g (.object acc) d us=some r∧Got w B wr (.mk nb v 38 ⟨#[]⟩ 0 kids) (.mk 38 ⟨#[]⟩ 0 acc)∧Rd wr rb us d∧RFr w wr rb∧acc.length≤8∧us.length≤ts.length) (fun wr=>leftOf wr rb)
 case atStart=>exact ST.out
 case round=>
  obtain ⟨g,acc,us,v,kids,hg,hq,hG,hR,hF,hl,hu⟩:=hrel;have G:=lh hG;have R:=lh hR;have FF:=lh hF;have RL:=lh hR.left;cases g with
  | zero=>cases hq
  | succ g=>
  rw [Z0] at hq;have HB:=Z4f wr rb us d Z01 hR;have hlt:=HP.out.lt;by_cases hb:isT Z01 us=true
  ·rw [hb] at HB;rw [Yb hb] at hq;have hr := Yk hq;have HRr := lh hr.symm;have HB := lh HB;have HI := lh hb;unfold Z01 at HB;clear hG hR hF hq hr hb ST;go_wp2_with fail
   refine HB.out.mono ?_;rintro e w3 ⟨rfl,hB3⟩;have F3:=FF.out.trans (RFr.below (rb:=rb) hB3);have G3:=G.out.rfr hlt (RFr.below (rb:=rb) hB3);have R3:=R.out.below hB3;have HC:=Z2e w3 rb us d Z01 R3 HI.out;unfold Z01 at HC;have HC:=lh HC;have F3:=lh F3;have G3:=lh G3;clear hB3 R3 FF G R HB;go_wp2_with fail
   refine HC.out.mono ?_;rintro e w4 ⟨rfl,hR4,hF4⟩;have R4:=lh hR4;have F4:=lh (F3.out.trans hF4);have G4:=lh (G3.out.rfr hlt hF4);clear hR4 hF4 HC F3 G3;go_wp2;go_ret;rw [HRr.out];exact ⟨_,rfl,G4.out,R4.out,F4.out⟩
  ·have hb' : isT Z01 us = false := by simpa using hb
   rw [hb'] at HB;rw [Y9 hb] at hq;have HB:=lh HB;have HQ:=lh hq;unfold Z01 at HB;have hkl:kids.length=acc.length:=by
    have:=hG.tree;simp only [ATree.tree,Tree.mk.injEq,true_and] at this;rw [← this,Z27,Yv]
   have HKL:=lh hkl;clear hG hR hF hq hb hb' ST hkl;go_wp2_with fail
   refine HB.out.mono ?_;rintro e w3 ⟨rfl,hB3⟩;have F3:=FF.out.trans (RFr.below (rb:=rb) hB3);have G3:=G.out.rfr hlt (RFr.below (rb:=rb) hB3);have R3:=R.out.below hB3;have P3:Pre w3 rb B d us:=⟨R3,HP.out.deep,hlt,Ya HP.out.le F3.size,Ya hu HP.out.few⟩
   obtain ⟨p,cp,rfl⟩:∃ p cp,v=.slice p kids.length cp:=by
    rcases Zq G3.at'.rowOf with ⟨h1,h2⟩ | ⟨g0,cap0,h1,_⟩
    ·simp only [ATree.v,ATree.kids] at h1 h2;exact ⟨none,0,by rw [h1,h2]⟩
    ·exact ⟨_,_,h1⟩
   have hblk:=G3.at'.blkOf;simp only [ATree.b,ATree.v,ATree.kind,ATree.text,ATree.n] at hblk;have n3:w3.cell? ⟨nb,3,none⟩=some (.slice p kids.length cp):=by simp [World.cell?,hblk]
   have F3:=lh F3;have G3:=lh G3;have P3:=lh P3;have HU:=lh hu;have HL:=lh hl;clear hB3 R3 FF G R HB hblk hu hl;by_cases h0:acc.length=0
   ·have a0 : decide (0 < kids.length) = false := by have := HKL.out; simp; exact List.eq_nil_of_length_eq_zero (by omega)
    have hq2:Zep g d acc us=some r:=by have h:=HQ.out; rw [Y9 (by omega)] at h; exact h
    have PQ:=lh (show Pre w3 rb B d us∧us.length≤ts.length from ⟨P3.out,HU.out⟩);have GQ:=G3;have FQ:=F3;have PL:=lh (Y5 us.length);have HQ2:=lh hq2;have H0:=lh h0;clear HQ hq2 h0;by_cases h8:acc.length=8
    ·have n8 : ((kids.length : Int) == 8) = true := by have := HKL.out; simp; omega
     have hr:r=.error (4,(hdT us).at'):=by
      have h:=HQ2.out;unfold Zep at h;rw [Yb h8] at h;exact (Yk h).symm
     subst hr;have HF:=lh (Z34 w3 rb us d 4 PQ.out.1.rd);clear h8;go_wp2_with fail
     refine HF.out.mono ?_;rintro e w9 ⟨⟨b,rfl,h1,h2⟩,hB⟩;exact ⟨rfl,Z0r.err FQ.out ⟨b,rfl,h1,h2⟩ hB⟩
    ·have n8 : ((kids.length : Int) == 8) = false := by have := HKL.out; simp; omega
     have hq3:=HQ2.out;unfold Zep at hq3;rw [Y9 h8] at hq3;have H8:=lh h8;clear h8;rcases Z3v hq3 with ⟨hk,h1⟩ | ⟨hk,rfl⟩
     ·have HC := lh (Z44 w3 rb us d PQ.out.1.rd hk);obtain ⟨s, hs⟩ := zX ((hdT us).text)
      rw [← hs] at HC h1;have H1:=lh h1;have HPOS:=lh (Z7k hk);clear hq3 hk h1 hs;go_wp2_with fail
      refine HC.out.mono ?_;rintro e w5 ⟨rfl,hR5,hF5⟩;have P5:=lh (PQ.out.1.tail hR5 hF5);have F5:=lh (FQ.out.trans hF5);have G5:=lh (GQ.out.rfr hlt hF5);clear hR5 hF5 HC;rcases Z2a H1.out with ⟨hs,h2⟩ | ⟨hs,rfl⟩
      ·have HC := Z2e w5 rb _ d Z30 P5.out.rd hs;unfold Z30 at HC;have HC := lh HC;have H2 := lh h2;clear hs h2;go_wp2_with fail
       refine HC.out.mono ?_;rintro e w6 ⟨rfl,hR6,hF6⟩;have P6:=P5.out.tail hR6 hF6;have F6:=F5.out.trans hF6;have G6:=G5.out.rfr hlt hF6;have hblk:=G6.at'.blkOf;simp only [ATree.b,ATree.v,ATree.kind,ATree.text,ATree.n] at hblk;clear n3;have n3:w6.cell? ⟨nb,3,none⟩=some (.slice p kids.length cp):=by simp [World.cell?,hblk]
       have P6:=lh P6;have F6:=lh F6;have G6:=lh G6;clear hR6 hF6 hblk HC P5 F5 G5;go_wp2_with fail
       refine Zf [0,2,4,6,8,10,12,14,17,19,21,23,25] [13,14,15] (fun W=>W.cell? ⟨nb,3,none⟩=some (.slice p kids.length cp)) n3 fun _=>?_;simp only [Zh,pD,zD,zE,zF,zG,zH,zI,zJ,zK]
       iterate 8
        first | refine Zb _ ?_ | refine Za ?_
        simp only [Act.put,zA,zB,zC]
       refine Z5 (fun K hK=>?_);go_simp
       have P7:Pre w6.drew rb B d _:=P6.out.below (Y8 _ _).drew;rcases Z09 H2.out with ⟨⟨c,p⟩,hv,rfl⟩ | ⟨t,vs,hv,hq4⟩
       ·refine (HV.out g (by omega) w6.drew rb B d _ _ P7 hv).mono ?_;rintro e w7 ⟨⟨b,rfl,h1,h2⟩,hF7⟩;exact ⟨rfl,Z0r.pre F6.out.drew (r:=.error (c,p)) ⟨⟨b,rfl,h1,h2⟩,hF7⟩⟩
       ·have hvl := Z1i hv;have HQ4 := lh hq4;refine (HV.out g (by omega) w6.drew rb B d _ _ P7 hv).mono ?_;rintro e w7 ⟨x, rfl, hX, hR7, hF7⟩;have hF67 : RFr w6 w7 rb := (RFr.refl w6 rb).drew.trans hF7;have hN7 := G6.out.rfr hlt hF67;have hblk := hN7.at'.blkOf;simp only [ATree.b, ATree.v, ATree.kind, ATree.text, ATree.n] at hblk;have m3 : w7.cell? ⟨nb, 3, none⟩ = some (.slice p kids.length cp) := by simp [World.cell?, hblk]
        refine hK _ _ m3 ?_;clear hK K;refine Z5 (fun K hK=>?_);go_simp
        have hb1:Below w7.heap.size w7 (w7.alloc (.cells #[.pointer (some ⟨x.b,0,none⟩)] 22)):=(Y8 _ _).alloc (Y5 _) _;refine hK _ _ ((hb1.cell (p:=⟨nb,3,none⟩) (Y6.1 hblk).1).trans m3) ?_;clear hK K;refine Z5 (fun K hK=>?_);go_simp
        have hA:=Got.one (w0:=w6.drew) (w:=w7) (rb:=rb) (k:=39) (t:=s) (Ya HP.out.le F6.out.size) hF7 hX;have hb2:Below w7.heap.size w7 ((w7.alloc (.cells #[.pointer (some ⟨x.b,0,none⟩)] 22)).alloc (.cells #[.int .i64 39,.string s,.int .i64 0,.slice (some ⟨w7.heap.size,0,none⟩) 1 1] 38)):=hb1.alloc (by simp) _;refine (Z14 (w7.alloc (.cells #[.pointer (some ⟨x.b,0,none⟩)] 22)) rb 39 s (some ⟨w7.heap.size,0,none⟩) 1 1).mono ?_;rintro e w3' ⟨rfl,hw3'⟩
        have hA:Got w6.drew B w3' (.mk (w7.heap.size + 1) (.slice (some ⟨w7.heap.size,0,none⟩) 1 1) 39 s 0 [x]) (.mk 39 s 0 [t]):=by rw [hw3']; exact hA
        rw [← hw3'] at hb2;have hN3:=hN7.rfr hlt (RFr.below (rb:=rb) hb2);have hR3:=hR7.below hb2;have hF63:RFr w6 w3' rb:=hF67.trans (RFr.below hb2);clear hblk m3 hw3' hb1;have hblk:=hN3.at'.blkOf;simp only [ATree.b,ATree.v,ATree.kind,ATree.text,ATree.n] at hblk;have m3:w3'.cell? ⟨nb,3,none⟩=some (.slice p kids.length cp):=by simp [World.cell?,hblk]
        have mz:w3'.frozen? ⟨nb,3,none⟩=false:=by simp [World.frozen?,hblk]
        have hnb3:nb < w3'.heap.size:=(Y6.1 hblk).1;have hnd:=hN3.nodup;simp only [ATree.blocks,List.nodup_cons,List.mem_append,Option.mem_toList,not_or] at hnd;have hne:=hnd.1.1;have hk4:kids.length≤8:=by have:=HKL.out; have:=HL.out; omega
        have hsz7:(w7.alloc (.cells #[.pointer (some ⟨x.b,0,none⟩)] 22)).heap.size=w7.heap.size + 1:=by simp
        rw [hsz7];obtain ⟨a,ha⟩:∃ a:ATree,a=.mk (w7.heap.size + 1) (.slice (some ⟨w7.heap.size,0,none⟩) 1 1) 39 s 0 [x]:=⟨_,rfl⟩
        rw [← ha] at hA;have hap:Value.pointer (some ⟨w7.heap.size + 1,0,none⟩)=.pointer (some ⟨a.b,0,none⟩):=by rw [ha]; rfl
        rw [hap];clear ha hap hsz7;have N3:=lh hN3;have A3:=lh hA;have R3:=lh hR3;have F3':=lh (F6.out.trans hF63);have NE:=lh hne;have NA:=lh (show ∀ y∈(ATree.mk nb (.slice p kids.length cp) 38 ⟨#[]⟩ 0 kids).blocks,y < w6.drew.heap.size from fun y hy=>(G6.out.new y hy).2);have HVL:=lh hvl;refine hK _ _ m3 ?_;obtain ⟨i0,hi,hz0,hz1,hz2⟩:=info_parts Tryz.infoPtr;clear hK K hA hR3 hF63 hN3 hblk hnd hne n3 hX hR7 hF7 hF67 hN7 hb2 hv hq4 hvl P7;refine Z5 (fun K hK=>?_);go_simp
        refine hK _ _ ((Z8 hnb3).trans m3) ?_;clear hK K;refine Z5 (fun K hK=>?_)
        refine step_append_lies _ (by rfl) (.tmp 34) (.tmp 41) 36 (by rfl) B 22 i0 _ 1 8 Tryz.underlying36 hi hz0 hz1 hz2 rfl (by decide) (.slice p kids.length cp) (kids).length ((kids).map ATree.ptr) (by rfl) (N3.out.at'.rowOf.alloc _) ⟨w3'.heap.size,0,none⟩ 1 1 [a.ptr] (by rfl) rfl (Yi (cs:=#[a.ptr]) (t:=22) (fr:=(0,0)) (heap_alloc_new w3' _)) (by simp [ATree.ptr,Value.oneCell']) (by decide) (by unfold maxLen; omega) (by omega) (by simp; have:=F3'.out.size; have:=HP.out.le; omega) (w3'.heap.size + 1) (by simp) ?_;intro gg cap w4 hown4 hgrow4 hat4 hlt4
        have m4:w4.cell? ⟨nb,3,none⟩=some (.slice p kids.length cp):=(hgrow4.cell_far ⟨nb,3,none⟩ (by simp; omega) (fun e=>NE.out e.symm)).trans ((Z8 hnb3).trans m3);have mz4:w4.frozen? ⟨nb,3,none⟩=false:=(hgrow4.frozen_far ⟨nb,3,none⟩ (by simp; omega) (fun e=>NE.out e.symm)).trans ((Z0m hnb3).trans mz);refine hK _ _ m4 ?_;clear hK K;simp only [Act.put,zA,zB,zC]
        have hfin:=Got.push hlt HP.out.le N3.out (wA:=w6.drew) NA.out A3.out F3'.out R3.out ((Y8 _ _).alloc (Y5 _) _) hgrow4 hown4 (by rcases hat4 with h | h; (exact .inl h); (exact .inr (by omega))) hlt4;have FIN:=lh hfin;clear hgrow4 hown4 hat4 hlt4 hfin;refine Z6 ?_;go_wp2;go_roundw
        case rel=>
         refine ⟨g,acc ++ [.mk 39 s 0 [t]],vs,.slice (some ⟨gg,0,none⟩) (kids.length + 1) cap,kids ++ [a],by omega,HQ4.out,?_,FIN.out.2.2,FIN.out.2.1,by have:=HL.out; have:=H8.out; simp; omega,by have:=HVL.out; have:=PQ.out.2; have:=Z1a us; have:=Z1a (us).tail; omega⟩;have h1:=FIN.out.1;have h2:=GQ.out.tree;simp only [ATree.tree,Tree.mk.injEq,true_and] at h2;rw [h2] at h1;exact h1
        case measure=>
         rw [FIN.out.2.2.left,RL.out];have e:(us).tail.length=(us).length - 1:=List.length_tail;have:=HVL.out; have:=HPOS.out; have:=PL.out; have:=Z1a (us).tail;omega
      ·have HC := Z3m w5 rb _ d Z30 P5.out.rd hs;unfold Z30 at HC;have HC := lh HC;clear hs;go_wp2_with fail
       refine HC.out.mono ?_;rintro e w9 ⟨⟨b,rfl,h1,h2⟩,hB⟩;exact ⟨rfl,Z0r.err F5.out ⟨b,rfl,h1,h2⟩ hB⟩
     ·have HC := lh (Z63 w3 rb us d PQ.out.1.rd hk);clear hq3 hk;go_wp2_with fail
      refine HC.out.mono ?_;rintro e w9 ⟨⟨b,rfl,h1,h2⟩,hB⟩;exact ⟨rfl,Z0r.err FQ.out ⟨b,rfl,h1,h2⟩ hB⟩
   ·have a0 : decide (0 < kids.length) = true := by have := HKL.out; simp; omega
    have hq1:=HQ.out;rw [Yb (by omega)] at hq1;have H0:=lh h0;clear h0;by_cases hc:isT Z1b us=true
    ·have hq2 : Zep g d acc us.tail = some r := by rw [Z1e, Yb hc] at hq1; exact hq1
     have HC:=Z2e w3 rb us d Z1b P3.out.rd hc;unfold Z1b at HC;have HC:=lh HC;have HQ2:=lh hq2;clear hq1 hc HQ hq2;go_wp2_with fail
     refine HC.out.mono ?_;rintro e w4q ⟨rfl,hR4,hF4⟩;have PQ:=lh (show Pre w4q rb B d us.tail∧us.tail.length≤ts.length from ⟨P3.out.tail hR4 hF4,by have:=HU.out; rw [List.length_tail]; omega⟩);have GQ:=lh (G3.out.rfr hlt hF4);have FQ:=lh (F3.out.trans hF4);have PL:=lh (show us.tail.length≤us.length by rw [List.length_tail]; omega);have hblk:=GQ.out.at'.blkOf;simp only [ATree.b,ATree.v,ATree.kind,ATree.text,ATree.n] at hblk;clear n3;have n3:w4q.cell? ⟨nb,3,none⟩=some (.slice p kids.length cp):=by simp [World.cell?,hblk]
     clear hR4 hF4 HC hblk F3 G3 P3;by_cases h8:acc.length=8
     ·have n8 : ((kids.length : Int) == 8) = true := by have := HKL.out; simp; omega
      have hr:r=.error (4,(hdT us.tail).at'):=by
       have h:=HQ2.out;unfold Zep at h;rw [Yb h8] at h;exact (Yk h).symm
      subst hr;have HF:=lh (Z34 w4q rb us.tail d 4 PQ.out.1.rd);clear h8;go_wp2_with fail
      refine HF.out.mono ?_;rintro e w9 ⟨⟨b,rfl,h1,h2⟩,hB⟩;exact ⟨rfl,Z0r.err FQ.out ⟨b,rfl,h1,h2⟩ hB⟩
     ·have n8 : ((kids.length : Int) == 8) = false := by have := HKL.out; simp; omega
      have hq3:=HQ2.out;unfold Zep at hq3;rw [Y9 h8] at hq3;have H8:=lh h8;clear h8;rcases Z3v hq3 with ⟨hk,h1⟩ | ⟨hk,rfl⟩
      ·have HC := lh (Z44 w4q rb us.tail d PQ.out.1.rd hk);obtain ⟨s, hs⟩ := zX ((hdT us.tail).text)
       rw [← hs] at HC h1;have H1:=lh h1;have HPOS:=lh (Z7k hk);clear hq3 hk h1 hs;go_wp2_with fail
       refine HC.out.mono ?_;rintro e w5 ⟨rfl,hR5,hF5⟩;have P5:=lh (PQ.out.1.tail hR5 hF5);have F5:=lh (FQ.out.trans hF5);have G5:=lh (GQ.out.rfr hlt hF5);clear hR5 hF5 HC;rcases Z2a H1.out with ⟨hs,h2⟩ | ⟨hs,rfl⟩
       ·have HC := Z2e w5 rb _ d Z30 P5.out.rd hs;unfold Z30 at HC;have HC := lh HC;have H2 := lh h2;clear hs h2;go_wp2_with fail
        refine HC.out.mono ?_;rintro e w6 ⟨rfl,hR6,hF6⟩;have P6:=P5.out.tail hR6 hF6;have F6:=F5.out.trans hF6;have G6:=G5.out.rfr hlt hF6;have hblk:=G6.at'.blkOf;simp only [ATree.b,ATree.v,ATree.kind,ATree.text,ATree.n] at hblk;clear n3;have n3:w6.cell? ⟨nb,3,none⟩=some (.slice p kids.length cp):=by simp [World.cell?,hblk]
        have P6:=lh P6;have F6:=lh F6;have G6:=lh G6;clear hR6 hF6 hblk HC P5 F5 G5;go_wp2_with fail
        refine Zf [0,2,4,6,8,10,12,14,17,19,21,23,25] [13,14,15] (fun W=>W.cell? ⟨nb,3,none⟩=some (.slice p kids.length cp)) n3 fun _=>?_;simp only [Zh,pD,zD,zE,zF,zG,zH,zI,zJ,zK]
        iterate 8
         first | refine Zb _ ?_ | refine Za ?_
         simp only [Act.put,zA,zB,zC]
        refine Z5 (fun K hK=>?_);go_simp
        have P7:Pre w6.drew rb B d _:=P6.out.below (Y8 _ _).drew;rcases Z09 H2.out with ⟨⟨c,p⟩,hv,rfl⟩ | ⟨t,vs,hv,hq4⟩
        ·refine (HV.out g (by omega) w6.drew rb B d _ _ P7 hv).mono ?_;rintro e w7 ⟨⟨b,rfl,h1,h2⟩,hF7⟩;exact ⟨rfl,Z0r.pre F6.out.drew (r:=.error (c,p)) ⟨⟨b,rfl,h1,h2⟩,hF7⟩⟩
        ·have hvl := Z1i hv;have HQ4 := lh hq4;refine (HV.out g (by omega) w6.drew rb B d _ _ P7 hv).mono ?_;rintro e w7 ⟨x, rfl, hX, hR7, hF7⟩;have hF67 : RFr w6 w7 rb := (RFr.refl w6 rb).drew.trans hF7;have hN7 := G6.out.rfr hlt hF67;have hblk := hN7.at'.blkOf;simp only [ATree.b, ATree.v, ATree.kind, ATree.text, ATree.n] at hblk;have m3 : w7.cell? ⟨nb, 3, none⟩ = some (.slice p kids.length cp) := by simp [World.cell?, hblk]
         refine hK _ _ m3 ?_;clear hK K;refine Z5 (fun K hK=>?_);go_simp
         have hb1:Below w7.heap.size w7 (w7.alloc (.cells #[.pointer (some ⟨x.b,0,none⟩)] 22)):=(Y8 _ _).alloc (Y5 _) _;refine hK _ _ ((hb1.cell (p:=⟨nb,3,none⟩) (Y6.1 hblk).1).trans m3) ?_;clear hK K;refine Z5 (fun K hK=>?_);go_simp
         have hA:=Got.one (w0:=w6.drew) (w:=w7) (rb:=rb) (k:=39) (t:=s) (Ya HP.out.le F6.out.size) hF7 hX;have hb2:Below w7.heap.size w7 ((w7.alloc (.cells #[.pointer (some ⟨x.b,0,none⟩)] 22)).alloc (.cells #[.int .i64 39,.string s,.int .i64 0,.slice (some ⟨w7.heap.size,0,none⟩) 1 1] 38)):=hb1.alloc (by simp) _;refine (Z14 (w7.alloc (.cells #[.pointer (some ⟨x.b,0,none⟩)] 22)) rb 39 s (some ⟨w7.heap.size,0,none⟩) 1 1).mono ?_;rintro e w3' ⟨rfl,hw3'⟩
         have hA:Got w6.drew B w3' (.mk (w7.heap.size + 1) (.slice (some ⟨w7.heap.size,0,none⟩) 1 1) 39 s 0 [x]) (.mk 39 s 0 [t]):=by rw [hw3']; exact hA
         rw [← hw3'] at hb2;have hN3:=hN7.rfr hlt (RFr.below (rb:=rb) hb2);have hR3:=hR7.below hb2;have hF63:RFr w6 w3' rb:=hF67.trans (RFr.below hb2);clear hblk m3 hw3' hb1;have hblk:=hN3.at'.blkOf;simp only [ATree.b,ATree.v,ATree.kind,ATree.text,ATree.n] at hblk;have m3:w3'.cell? ⟨nb,3,none⟩=some (.slice p kids.length cp):=by simp [World.cell?,hblk]
         have mz:w3'.frozen? ⟨nb,3,none⟩=false:=by simp [World.frozen?,hblk]
         have hnb3:nb < w3'.heap.size:=(Y6.1 hblk).1;have hnd:=hN3.nodup;simp only [ATree.blocks,List.nodup_cons,List.mem_append,Option.mem_toList,not_or] at hnd;have hne:=hnd.1.1;have hk4:kids.length≤8:=by have:=HKL.out; have:=HL.out; omega
         have hsz7:(w7.alloc (.cells #[.pointer (some ⟨x.b,0,none⟩)] 22)).heap.size=w7.heap.size + 1:=by simp
         rw [hsz7];obtain ⟨a,ha⟩:∃ a:ATree,a=.mk (w7.heap.size + 1) (.slice (some ⟨w7.heap.size,0,none⟩) 1 1) 39 s 0 [x]:=⟨_,rfl⟩
         rw [← ha] at hA;have hap:Value.pointer (some ⟨w7.heap.size + 1,0,none⟩)=.pointer (some ⟨a.b,0,none⟩):=by rw [ha]; rfl
         rw [hap];clear ha hap hsz7;have N3:=lh hN3;have A3:=lh hA;have R3:=lh hR3;have F3':=lh (F6.out.trans hF63);have NE:=lh hne;have NA:=lh (show ∀ y∈(ATree.mk nb (.slice p kids.length cp) 38 ⟨#[]⟩ 0 kids).blocks,y < w6.drew.heap.size from fun y hy=>(G6.out.new y hy).2);have HVL:=lh hvl;refine hK _ _ m3 ?_;obtain ⟨i0,hi,hz0,hz1,hz2⟩:=info_parts Tryz.infoPtr;clear hK K hA hR3 hF63 hN3 hblk hnd hne n3 hX hR7 hF7 hF67 hN7 hb2 hv hq4 hvl P7;refine Z5 (fun K hK=>?_);go_simp
         refine hK _ _ ((Z8 hnb3).trans m3) ?_;clear hK K;refine Z5 (fun K hK=>?_)
         refine step_append_lies _ (by rfl) (.tmp 34) (.tmp 41) 36 (by rfl) B 22 i0 _ 1 8 Tryz.underlying36 hi hz0 hz1 hz2 rfl (by decide) (.slice p kids.length cp) (kids).length ((kids).map ATree.ptr) (by rfl) (N3.out.at'.rowOf.alloc _) ⟨w3'.heap.size,0,none⟩ 1 1 [a.ptr] (by rfl) rfl (Yi (cs:=#[a.ptr]) (t:=22) (fr:=(0,0)) (heap_alloc_new w3' _)) (by simp [ATree.ptr,Value.oneCell']) (by decide) (by unfold maxLen; omega) (by omega) (by simp; have:=F3'.out.size; have:=HP.out.le; omega) (w3'.heap.size + 1) (by simp) ?_;intro gg cap w4 hown4 hgrow4 hat4 hlt4
         have m4:w4.cell? ⟨nb,3,none⟩=some (.slice p kids.length cp):=(hgrow4.cell_far ⟨nb,3,none⟩ (by simp; omega) (fun e=>NE.out e.symm)).trans ((Z8 hnb3).trans m3);have mz4:w4.frozen? ⟨nb,3,none⟩=false:=(hgrow4.frozen_far ⟨nb,3,none⟩ (by simp; omega) (fun e=>NE.out e.symm)).trans ((Z0m hnb3).trans mz);refine hK _ _ m4 ?_;clear hK K;simp only [Act.put,zA,zB,zC]
         have hfin:=Got.push hlt HP.out.le N3.out (wA:=w6.drew) NA.out A3.out F3'.out R3.out ((Y8 _ _).alloc (Y5 _) _) hgrow4 hown4 (by rcases hat4 with h | h; (exact .inl h); (exact .inr (by omega))) hlt4;have FIN:=lh hfin;clear hgrow4 hown4 hat4 hlt4 hfin;refine Z6 ?_;go_wp2;go_roundw
         case rel=>
          refine ⟨g,acc ++ [.mk 39 s 0 [t]],vs,.slice (some ⟨gg,0,none⟩) (kids.length + 1) cap,kids ++ [a],by omega,HQ4.out,?_,FIN.out.2.2,FIN.out.2.1,by have:=HL.out; have:=H8.out; simp; omega,by have:=HVL.out; have:=PQ.out.2; have:=Z1a us.tail; have:=Z1a (us.tail).tail; omega⟩;have h1:=FIN.out.1;have h2:=GQ.out.tree;simp only [ATree.tree,Tree.mk.injEq,true_and] at h2;rw [h2] at h1;exact h1
         case measure=>
          rw [FIN.out.2.2.left,RL.out];have e:(us.tail).tail.length=(us.tail).length - 1:=List.length_tail;have:=HVL.out; have:=HPOS.out; have:=PL.out; have:=Z1a (us.tail).tail;omega
       ·have HC := Z3m w5 rb _ d Z30 P5.out.rd hs;unfold Z30 at HC;have HC := lh HC;clear hs;go_wp2_with fail
        refine HC.out.mono ?_;rintro e w9 ⟨⟨b,rfl,h1,h2⟩,hB⟩;exact ⟨rfl,Z0r.err F5.out ⟨b,rfl,h1,h2⟩ hB⟩
      ·have HC := lh (Z63 w4q rb us.tail d PQ.out.1.rd hk);clear hq3 hk;go_wp2_with fail
       refine HC.out.mono ?_;rintro e w9 ⟨⟨b,rfl,h1,h2⟩,hB⟩;exact ⟨rfl,Z0r.err FQ.out ⟨b,rfl,h1,h2⟩ hB⟩
    ·have hc' : isT Z1b us = false := by simpa using hc
     have hr:r=.error (3,(hdT us).at'):=by
      rw [Z1e,Y9 hc] at hq1;exact (Yk hq1).symm
     subst hr;have HC:=Z3m w3 rb us d Z1b P3.out.rd hc';unfold Z1b at HC;have HC:=lh HC;clear hq1 hc hc' HQ;go_wp2_with fail
     refine HC.out.mono ?_;rintro e w9 ⟨⟨b,rfl,h1,h2⟩,hB⟩;exact ⟨rfl,Z0r.err F3.out ⟨b,rfl,h1,h2⟩ hB⟩
theorem Z89 {p:PR} {k m:Tree→List Tok→PR}:Z0g (Z0g p k) m=Z0g p fun t ts=>Z0g (k t ts) m:=by
 rcases p with _ | e | ⟨t,ts⟩ <;> rfl
theorem Zcd {s:ByteArray} {ts:List Tok} {k:List Tok→PR} {m:Tree→List Tok→PR}:Z0g (Z1e s ts k) m=Z1e s ts fun ts=>Z0g (k ts) m:=by
 unfold Z1e;by_cases h:isT s ts=true;·rw [Yb h,Yb h]
 ·rw [Y9 h,Y9 h]; rfl
def Zas (g G d:Nat) (acc:List Tree) (us:List Tok):PR:=if 8 < acc.length then Z2t 4 us else Z0g (Z0g (Z0 g .value d us) fun v ts=>Z0 g (.args (acc ++ [v])) d ts) fun n ts=>Z0 G (.postLoop n) d ts
theorem Zhn {g G d:Nat} {acc:List Tree} {us:List Tok} (h:isT Z0u us=false) :
 Z0g (Z0 (g + 1) (.args acc) d us) (fun n ts=>Z0 G (.postLoop n) d ts)=(if 1 < acc.length then Z1e Z1b us else fun k=>k us) fun us=>Zas g G d acc us:=by
 have key:∀ us,Z0g (if 8 < acc.length then Z2t 4 us else Z0g (Z0 g .value d us) fun v ts=>Z0 g (.args (acc ++ [v])) d ts) (fun n ts=>Z0 G (.postLoop n) d ts)=Zas g G d acc us:=by
  intro us;unfold Zas;by_cases h:8 < acc.length;·rw [Yb h,Yb h]; rfl
  ·rw [Y9 h,Y9 h]
 rw [Z0,Y9 (by rw [h]; simp)];by_cases h1:1 < acc.length
 ·simp only [if_pos h1];rw [Zcd];simp only [key]
 ·simp only [if_neg h1];exact key us
theorem Zbk (F:Nat) (hPr:Says 147 rArg .primary F) (hV:∀ g,g < F→Says 80 rArg .value g) :
 Says 135 rArg .postfix_ (F + 1):=by
 intro w rb B d ts r hP hp;have hw:Z0g (Z0 F .primary d ts) (fun x ts=>Z0 F (.postLoop x) d ts)=some r:=hp;have HP:=lh hP;have HV:=lh hV;have H1:=lh hw;have HPR:=lh hPr;have hlt:=hP.lt;clear hP hp hV hPr hw;rcases Z09 H1.out with ⟨⟨c,p⟩,hv,rfl⟩ | ⟨t,us0,hv,h2⟩
 ·have HC := HPR.out w rb B d _ _ HP.out hv;unfold rArg at HC ⊢;have HC := lh HC;clear hv;go_enter Tryz.func135, Tryz.ntmps135
  go_wp2_with fail
  refine HC.out.mono ?_;rintro e w2 ⟨⟨b,rfl,h1,h2⟩,hF⟩;exact ⟨rfl,⟨b,rfl,h1,h2⟩,hF⟩
 have HC:=HPR.out w rb B d _ _ HP.out hv;have hul:=Z1i hv;unfold rArg at HC ⊢;have HC:=lh HC;have H2:=lh h2;clear hv h2;go_enter Tryz.func135,Tryz.ntmps135
 go_wp2_with fail
 refine HC.out.mono ?_;rintro e w1 ⟨a0,rfl,hG1,hR1,hF1⟩;have ST:Hid (∃ (G:Nat) (us:List Tok) (a:ATree) (t:Tree),G≤F∧Value.pointer (some ⟨a0.b,0,none⟩)=.pointer (some ⟨a.b,0,none⟩)∧Z0 G (.postLoop t) d us=some r∧Got w B w1 a t∧Rd w1 rb us d∧RFr w w1 rb∧us.length≤ts.length):=
  lh ⟨F,us0,a0,t,Y5 _,rfl,H2.out,hG1,hR1,hF1,hul⟩
 clear hG1 hR1 hF1 hul HC H2;go_wp2_with fail
 go_loopw [3] (fun v3 wr=>∃ (G:Nat) (us:List Tok) (a:ATree) (t:Tree),G≤F∧v3=.pointer (some ⟨a.b,0,none⟩)∧Z0 G (.postLoop t) d us=some r∧Got w B wr a t∧Rd wr rb us d∧RFr w wr rb∧us.length≤ts.length) (fun _ wr=>leftOf wr rb)
 case atStart=>exact ST.out
 case round=>
  obtain ⟨G,us,a,t,hGF,rfl,hq,hG,hR,hF,hu⟩:=hrel;obtain ⟨wo,rfl⟩:∃ wo:World,wo=wr:=⟨_,rfl⟩
  obtain ⟨ab,hab⟩:=zX a.b
  have HAB:=lh hab;rw [← hab];have G1:=lh hG;have F1:=lh hF;have RLO:=lh hR.left;have P1:Pre wo rb B d us:=⟨hR,HP.out.deep,hlt,Ya HP.out.le hF.size,Ya hu HP.out.few⟩
  have P1:=lh P1;have HU:=lh hu;clear hG hF hR hu ST hab;cases G with
  | zero=>cases hq
  | succ G=>
  rw [Z0] at hq;by_cases hd:isT Z93 us=true
  ·rw [Yb hd] at hq;have HT := Z1g wo rb us d Z93 P1.out.rd hd;unfold Z93 at HT;have HT := lh HT;have HPOS := lh (Z0j hd);have HQ := lh hq;clear hq hd;go_wp2_with fail
   refine HT.out.mono ?_;rintro e w2 ⟨rfl,hR2,hF2⟩;have P2:=lh (P1.out.tail hR2 hF2);have F2:=lh (F1.out.trans hF2);have G2:=lh (G1.out.rfr hlt hF2);clear hR2 hF2 HT;rcases Z3v HQ.out with ⟨hk,h1⟩ | ⟨hk,rfl⟩
   ·have HC := lh (Z44 w2 rb us.tail d P2.out.rd hk);obtain ⟨s, hs⟩ := zX ((hdT us.tail).text)
    rw [← hs] at HC h1;have H3:=lh h1;clear hk h1 hs;go_wp2_with fail
    refine HC.out.mono ?_;rintro e w3 ⟨rfl,hR3,hF3⟩;have F3:=F2.out.trans hF3;have G3:=G2.out.rfr hlt hF3;have hb1:Below w3.heap.size w3 (w3.alloc (.cells #[.pointer (some ⟨ab,0,none⟩)] 22)):=(Y8 _ _).alloc (Y5 _) _;have hb2:Below w3.heap.size w3 ((w3.alloc (.cells #[.pointer (some ⟨ab,0,none⟩)] 22)).alloc (.cells #[.int .i64 36,.string s,.int .i64 0,.slice (some ⟨w3.heap.size,0,none⟩) 1 1] 38)):=hb1.alloc (by simp) _;have hA:=Got.one (k:=36) (t:=s) HP.out.le F3 G3;have HA:=lh hA;have R4:=lh (hR3.below hb2)
    have F4:=lh (F3.trans (RFr.below (rb:=rb) hb2));clear hR3 hF3 F3 G3 hb1 hb2 hA HC;go_wp2_with fail
    refine (Z14 _ rb 36 s _ 1 1).mono ?_;rintro e w7 ⟨rfl,rfl⟩;go_wp2;go_roundw
    case rel=>
     refine ⟨G,us.tail.tail,.mk (w3.heap.size + 1) (.slice (some ⟨w3.heap.size,0,none⟩) 1 1) 36 s 0 [a],.mk 36 s 0 [t],by omega,by simp [ATree.b],H3.out,?_,R4.out,F4.out,by have:=HU.out; have:=Z1a us; have:=Z1a us.tail; omega⟩;rw [HAB.out];exact HA.out
    case measure=>
     rw [R4.out.left,RLO.out];have:=HPOS.out; have:=Z1a us.tail; omega
   ·have HC := lh (Z63 w2 rb us.tail d P2.out.rd hk);clear hk;go_wp2_with fail
    refine HC.out.mono ?_;rintro e w9 ⟨⟨b,rfl,h1,h2⟩,hB⟩;exact ⟨rfl,Z0r.err F2.out ⟨b,rfl,h1,h2⟩ hB⟩
  ·have hd' : isT Z93 us = false := by simpa using hd
   rw [Y9 hd] at hq;have HT:=Z22 wo rb us d Z93 P1.out.rd hd';unfold Z93 at HT;have HT:=lh HT;have HQ:=lh hq;clear hq hd hd';go_wp2_with fail
   refine HT.out.mono ?_;rintro e w2 ⟨rfl,hB2⟩;have P2:=lh (P1.out.below hB2);have F2:=lh (F1.out.trans (RFr.below (rb:=rb) hB2));have G2:=lh (G1.out.rfr hlt (RFr.below (rb:=rb) hB2));clear hB2 HT;by_cases hl:isT Z0v us=true
   ·have hq := HQ.out;rw [Yb hl] at hq;have HQ2 := lh hq;have HT := Z1g w2 rb us d Z0v P2.out.rd hl;unfold Z0v at HT;have HT := lh HT;have HPOS := lh (Z0j hl);clear hq hl HQ;go_wp2_with fail
    refine HT.out.mono ?_;rintro e w3 ⟨rfl,hR3,hF3⟩;have F3:=F2.out.trans hF3;have G3:=G2.out.rfr hlt hF3;have hb1:Below w3.heap.size w3 (w3.alloc (.cells #[.pointer (some ⟨ab,0,none⟩)] 22)):=(Y8 _ _).alloc (Y5 _) _;have hb2:Below w3.heap.size w3 ((w3.alloc (.cells #[.pointer (some ⟨ab,0,none⟩)] 22)).alloc (.cells #[.int .i64 35,.string ⟨#[]⟩,.int .i64 0,.slice (some ⟨w3.heap.size,0,none⟩) 1 1] 38)):=hb1.alloc (by simp) _;have hA:=Got.one (k:=35) (t:=⟨#[]⟩) HP.out.le F3 G3;have hR4:=hR3.below hb2;have hF4:=F3.trans (RFr.below (rb:=rb) hb2)
    have HN:=lh (Z14 (w3.alloc (.cells #[.pointer (some ⟨ab,0,none⟩)] 22)) rb 35 ⟨#[]⟩ (some ⟨w3.heap.size,0,none⟩) 1 1);clear hR3 hF3 F3 G3 hb1 HT;go_wp2_with fail
    refine HN.out.mono ?_;rintro e w4 ⟨rfl,hw4⟩;have hsz3:(w3.alloc (.cells #[.pointer (some ⟨ab,0,none⟩)] 22)).heap.size=w3.heap.size + 1:=by simp
    rw [hsz3];obtain ⟨nb,hnb⟩:=zX (w3.heap.size + 1)
    rw [← hnb];have hA':Got w B w4 (.mk nb (.slice (some ⟨w3.heap.size,0,none⟩) 1 1) 35 ⟨#[]⟩ 0 [a]) (.mk 35 ⟨#[]⟩ 0 [t]):=by rw [hw4,hnb,HAB.out]; exact hA
    rw [← hw4] at hR4 hF4;obtain ⟨us1,hus1⟩:=zX us.tail
    have ST:Hid (∃ (g:Nat) (acc:List Tree) (vs:List Tok) (v:Value) (kids:List ATree),g≤G∧Z0g (Z0 g (.args acc) d vs) (fun n ts=>Z0 G (.postLoop n) d ts)=some r∧Got w B w4 (.mk nb v 35 ⟨#[]⟩ 0 kids) (.mk 35 ⟨#[]⟩ 0 acc)∧Rd w4 rb vs d∧RFr w w4 rb∧1≤acc.length∧acc.length≤9∧vs.length≤us1.length):=
     lh ⟨G,[t],us1,_,[a],Y5 _,by rw [hus1]; exact HQ2.out,hA',by rw [hus1]; exact hR4,hF4,by simp,by simp,Y5 _⟩
    have HUS1:=lh hus1;clear hw4 hsz3 hnb hA hA' hR4 hF4 hb2 HQ2 HN hus1;go_wp2_with fail
    go_loopw [] (fun wr=>∃ (g:Nat) (acc:List Tree) (vs:List Tok) (v:Value) (kids:List ATree),g≤G∧Z0g (Z0 g (.args acc) d vs) (fun n ts=>Z0 G (.postLoop n) d ts)=some r∧Got w B wr (.mk nb v 35 ⟨#[]⟩ 0 kids) (.mk 35 ⟨#[]⟩ 0 acc)∧Rd wr rb vs d∧RFr w wr rb∧1≤acc.length∧acc.length≤9∧vs.length≤us1.length) (fun wr=>leftOf wr rb)
    case atStart=>exact ST.out
    case round=>
     obtain ⟨g,acc,vs,v,kids,hgG,hq,hG,hR,hF,hl1,hl,hu⟩:=hrel;have GG:=lh hG;have RR':=lh hR;have FF:=lh hF;have RL:=lh hR.left;cases g with
     | zero=>cases hq
     | succ g=>
     have HB:=Z4f wr rb vs d Z0u hR;have hvt:vs.length≤ts.length:=by have e1:=HUS1.out; have e2:=HU.out; have e3:=Z1a us; rw [e1] at hu; omega
     by_cases hb:isT Z0u vs=true
     ·rw [hb] at HB;rw [Z0, Yb hb] at hq;have hq : Z0 G (.postLoop (.mk 35 ByteArray.empty 0 acc)) d vs.tail = some r := hq;have HQ := lh hq;have HB := lh HB;have HI := lh hb;unfold Z0u at HB;have HVU := lh hu;have HVT := lh hvt;clear hG hR hF hq hb ST hu hvt;go_wp2_with fail
      refine HB.out.mono ?_;rintro e w5 ⟨rfl,hB5⟩;have F5:=FF.out.trans (RFr.below (rb:=rb) hB5);have G5:=GG.out.rfr hlt (RFr.below (rb:=rb) hB5);have R5:=RR'.out.below hB5;have HC:=Z2e w5 rb vs d Z0u R5 HI.out;unfold Z0u at HC;have HC:=lh HC;have F5:=lh F5;have G5:=lh G5;clear hB5 R5 FF GG RR' HB;go_wp2_with fail
      refine HC.out.mono ?_;rintro e w6 ⟨rfl,hR6,hF6⟩;have R6:=lh hR6;have F6:=lh (F5.out.trans hF6);have G6:=lh (G5.out.rfr hlt hF6);clear hR6 hF6 HC F5 G5;go_wp2;go_roundw
      case rel=>exact ⟨G,vs.tail,_,_,by omega,rfl,HQ.out,G6.out,R6.out,F6.out,by have:=HVT.out; have:=Z1a vs; omega⟩
      case measure=>
       rw [R6.out.left,RLO.out];have e1:=HUS1.out; have h2:=HVU.out; rw [e1] at h2; have:=HPOS.out; have:=Z1a vs; omega
     ·have hb' : isT Z0u vs = false := by simpa using hb
      rw [hb'] at HB;rw [Zhn hb'] at hq;have HB:=lh HB;have HQ:=lh hq;unfold Z0u at HB;have hkl:kids.length=acc.length:=by
       have:=hG.tree;simp only [ATree.tree,Tree.mk.injEq,true_and] at this;rw [← this,Z27,Yv]
      have HKL:=lh hkl;clear hG hR hF hq hb hb' ST hkl;go_wp2_with fail
      refine HB.out.mono ?_;rintro e w5 ⟨rfl,hB5⟩;have F5:=FF.out.trans (RFr.below (rb:=rb) hB5);have G5:=GG.out.rfr hlt (RFr.below (rb:=rb) hB5);have R5:=RR'.out.below hB5;have P5:Pre w5 rb B d vs:=⟨R5,HP.out.deep,hlt,Ya HP.out.le F5.size,Ya hvt HP.out.few⟩
      obtain ⟨p,cp,rfl⟩:∃ p cp,v=.slice p kids.length cp:=by
       rcases Zq G5.at'.rowOf with ⟨h1,h2⟩ | ⟨g0,cap0,h1,_⟩
       ·simp only [ATree.v,ATree.kids] at h1 h2;exact ⟨none,0,by rw [h1,h2]⟩
       ·exact ⟨_,_,h1⟩
      have hblk:=G5.at'.blkOf;simp only [ATree.b,ATree.v,ATree.kind,ATree.text,ATree.n] at hblk;have n3:w5.cell? ⟨nb,3,none⟩=some (.slice p kids.length cp):=by simp [World.cell?,hblk]
      have F5:=lh F5;have G5:=lh G5;have P5:=lh P5;have HL:=lh hl;have HL1:=lh hl1;have HVU:=lh hu;have HVT:=lh hvt;clear hB5 R5 FF GG RR' HB hblk hl hl1 hu hvt;by_cases h0:1 < acc.length
      ·have a0 : decide (1 < (kids.length : Int)) = true := by have := HKL.out; simp; omega
       have hq1:=HQ.out;rw [Yb h0] at hq1;have H0:=lh h0;clear h0;by_cases hc:isT Z1b vs=true
       ·have hq2 : Zas g G d acc vs.tail = some r := by rw [Z1e, Yb hc] at hq1; exact hq1
        have HC:=Z2e w5 rb vs d Z1b P5.out.rd hc;unfold Z1b at HC;have HC:=lh HC;have HQ2:=lh hq2;clear hq1 hc HQ hq2;go_wp2_with fail
        refine HC.out.mono ?_;rintro e w4q ⟨rfl,hR4,hF4⟩;have PQ:=lh (show Pre w4q rb B d vs.tail∧vs.tail.length≤us1.length from ⟨P5.out.tail hR4 hF4,by have:=HVU.out; rw [List.length_tail]; omega⟩);have GQ:=lh (G5.out.rfr hlt hF4);have FQ:=lh (F5.out.trans hF4);have PL:=lh (show vs.tail.length≤vs.length by rw [List.length_tail]; omega);have hblk:=GQ.out.at'.blkOf;simp only [ATree.b,ATree.v,ATree.kind,ATree.text,ATree.n] at hblk;clear n3;have n3:w4q.cell? ⟨nb,3,none⟩=some (.slice p kids.length cp):=by simp [World.cell?,hblk]
        clear hR4 hF4 HC hblk F5 G5 P5;by_cases h8:8 < acc.length
        ·have n8 : decide (8 < (kids.length : Int)) = true := by have := HKL.out; simp; omega
         have hr:r=.error (4,(hdT vs.tail).at'):=by
          have h:=HQ2.out;unfold Zas at h;rw [Yb h8] at h;exact (Yk h).symm
         subst hr;have HF:=lh (Z34 w4q rb vs.tail d 4 PQ.out.1.rd);clear h8;go_wp2_with fail
         refine HF.out.mono ?_;rintro e w9 ⟨⟨b,rfl,h1,h2⟩,hB⟩;exact ⟨rfl,Z0r.err FQ.out ⟨b,rfl,h1,h2⟩ hB⟩
        ·have n8 : decide (8 < (kids.length : Int)) = false := by have := HKL.out; simp; omega
         have hq3:=HQ2.out;unfold Zas at hq3;rw [Y9 h8] at hq3;have H8:=lh h8;have H2:=lh hq3;clear h8 hq3;go_wp2_with fail
         refine Zf [0,2,4,6,8,10,13,15,17] [9,10,11] (fun W=>W.cell? ⟨nb,3,none⟩=some (.slice p kids.length cp)) n3 fun _=>?_;simp only [Zh,pD,zD,zE,zF,zG,zH,zI,zJ,zK]
         iterate 6
          first | refine Zb _ ?_ | refine Za ?_
          simp only [Act.put,zA,zB,zC]
         refine Z5 (fun K hK=>?_);go_simp
         have P7:Pre w4q.drew rb B d _:=PQ.out.1.below (Y8 _ _).drew;rw [Z89] at H2;rcases Z09 H2.out with ⟨⟨c,p⟩,hv,rfl⟩ | ⟨t,vs,hv,hq4⟩
         ·refine (HV.out g (by omega) w4q.drew rb B d _ _ P7 hv).mono ?_;rintro e w7 ⟨⟨b,rfl,h1,h2⟩,hF7⟩;exact ⟨rfl,Z0r.pre FQ.out.drew (r:=.error (c,p)) ⟨⟨b,rfl,h1,h2⟩,hF7⟩⟩
         ·have hvl := Z24 _ _ _ _ _ _ hv;have HQ4 := lh hq4;refine (HV.out g (by omega) w4q.drew rb B d _ _ P7 hv).mono ?_;rintro e w3 ⟨a, rfl, hA, hR3, hF3⟩;have hF63 : RFr w4q w3 rb := (RFr.refl w4q rb).drew.trans hF3;have hN3 := GQ.out.rfr hlt hF63;have hblk := hN3.at'.blkOf;simp only [ATree.b, ATree.v, ATree.kind, ATree.text, ATree.n] at hblk;have m3 : w3.cell? ⟨nb, 3, none⟩ = some (.slice p kids.length cp) := by simp [World.cell?, hblk]
          have mz:w3.frozen? ⟨nb,3,none⟩=false:=by simp [World.frozen?,hblk]
          have hnb3:nb < w3.heap.size:=(Y6.1 hblk).1;have hnd:=hN3.nodup;simp only [ATree.blocks,List.nodup_cons,List.mem_append,Option.mem_toList,not_or] at hnd;have hne:=hnd.1.1;have hk4:kids.length≤9:=by have:=HKL.out; have:=HL.out; omega
          have N3:=lh hN3;have A3:=lh hA;have R3:=lh hR3;have F3:=lh (FQ.out.trans hF63);have NE:=lh hne;have NA:=lh (show ∀ y∈(ATree.mk nb (.slice p kids.length cp) 35 ⟨#[]⟩ 0 kids).blocks,y < w4q.drew.heap.size from fun y hy=>(GQ.out.new y hy).2);have HVL:=lh hvl;refine hK _ _ m3 ?_;obtain ⟨i0,hi,hz0,hz1,hz2⟩:=info_parts Tryz.infoPtr;clear hK K hA hR3 hF63 hN3 hblk hnd hne n3 hF3 hv hq4 P7 hvl;refine Z5 (fun K hK=>?_);go_simp
          refine hK _ _ ((Z8 hnb3).trans m3) ?_;clear hK K;refine Z5 (fun K hK=>?_)
          refine step_append_lies _ (by rfl) (.tmp 47) (.tmp 50) 36 (by rfl) B 22 i0 _ 1 8 Tryz.underlying36 hi hz0 hz1 hz2 rfl (by decide) (.slice p kids.length cp) (kids).length ((kids).map ATree.ptr) (by rfl) (N3.out.at'.rowOf.alloc _) ⟨w3.heap.size,0,none⟩ 1 1 [a.ptr] (by rfl) rfl (Yi (cs:=#[a.ptr]) (t:=22) (fr:=(0,0)) (heap_alloc_new w3 _)) (by simp [ATree.ptr,Value.oneCell']) (by decide) (by unfold maxLen; omega) (by omega) (by simp; have:=F3.out.size; have:=HP.out.le; omega) (w3.heap.size + 1) (by simp) ?_;intro gg cap w4 hown4 hgrow4 hat4 hlt4
          have m4:w4.cell? ⟨nb,3,none⟩=some (.slice p kids.length cp):=(hgrow4.cell_far ⟨nb,3,none⟩ (by simp; omega) (fun e=>NE.out e.symm)).trans ((Z8 hnb3).trans m3);have mz4:w4.frozen? ⟨nb,3,none⟩=false:=(hgrow4.frozen_far ⟨nb,3,none⟩ (by simp; omega) (fun e=>NE.out e.symm)).trans ((Z0m hnb3).trans mz);refine hK _ _ m4 ?_;clear hK K;simp only [Act.put,zA,zB,zC]
          have hfin:=Got.push hlt HP.out.le N3.out (wA:=w4q.drew) NA.out A3.out F3.out R3.out ((Y8 _ _).alloc (Y5 _) _) hgrow4 hown4 (by rcases hat4 with h | h; (exact .inl h); (exact .inr (by omega))) hlt4;have FIN:=lh hfin;clear hgrow4 hown4 hat4 hlt4 hfin;refine Z6 ?_;go_wp2;go_roundw
          case rel=>
           refine ⟨g,acc ++ [t],vs,.slice (some ⟨gg,0,none⟩) (kids.length + 1) cap,kids ++ [a],by omega,HQ4.out,?_,FIN.out.2.2,FIN.out.2.1,by simp,by have:=HL.out; have:=H8.out; simp; omega,by have:=HVL.out; simp only [Job.least] at this; have:=PQ.out.2; omega⟩;have h1:=FIN.out.1;have h2:=GQ.out.tree;simp only [ATree.tree,Tree.mk.injEq,true_and] at h2;rw [h2] at h1;exact h1
          case measure=>
           rw [FIN.out.2.2.left,RL.out];have:=HVL.out; simp only [Job.least] at this; have:=PL.out;omega
       ·have hc' : isT Z1b vs = false := by simpa using hc
        have hr:r=.error (3,(hdT vs).at'):=by
         rw [Z1e,Y9 hc] at hq1;exact (Yk hq1).symm
        subst hr;have HC:=Z3m w5 rb vs d Z1b P5.out.rd hc';unfold Z1b at HC;have HC:=lh HC;clear hq1 hc hc' HQ;go_wp2_with fail
        refine HC.out.mono ?_;rintro e w9 ⟨⟨b,rfl,h1,h2⟩,hB⟩;exact ⟨rfl,Z0r.err F5.out ⟨b,rfl,h1,h2⟩ hB⟩
      ·have a0 : decide (1 < (kids.length : Int)) = false := by have := HKL.out; simp; omega
       have hq2:Zas g G d acc vs=some r:=by have h:=HQ.out; rw [Y9 h0] at h; exact h
       have PQ:=lh (show Pre w5 rb B d vs∧vs.length≤us1.length from ⟨P5.out,HVU.out⟩);have GQ:=G5;have FQ:=F5;have PL:=lh (Y5 vs.length);have HQ2:=lh hq2;have H0:=lh h0;clear HQ hq2 h0;by_cases h8:8 < acc.length
       ·have n8 : decide (8 < (kids.length : Int)) = true := by have := HKL.out; simp; omega
        have hr:r=.error (4,(hdT vs).at'):=by
         have h:=HQ2.out;unfold Zas at h;rw [Yb h8] at h;exact (Yk h).symm
        subst hr;have HF:=lh (Z34 w5 rb vs d 4 PQ.out.1.rd);clear h8;go_wp2_with fail
        refine HF.out.mono ?_;rintro e w9 ⟨⟨b,rfl,h1,h2⟩,hB⟩;exact ⟨rfl,Z0r.err FQ.out ⟨b,rfl,h1,h2⟩ hB⟩
       ·have n8 : decide (8 < (kids.length : Int)) = false := by have := HKL.out; simp; omega
        have hq3:=HQ2.out;unfold Zas at hq3;rw [Y9 h8] at hq3;have H8:=lh h8;have H2:=lh hq3;clear h8 hq3;go_wp2_with fail
        refine Zf [0,2,4,6,8,10,13,15,17] [9,10,11] (fun W=>W.cell? ⟨nb,3,none⟩=some (.slice p kids.length cp)) n3 fun _=>?_;simp only [Zh,pD,zD,zE,zF,zG,zH,zI,zJ,zK]
        iterate 6
         first | refine Zb _ ?_ | refine Za ?_
         simp only [Act.put,zA,zB,zC]
        refine Z5 (fun K hK=>?_);go_simp
        have P7:Pre w5.drew rb B d _:=PQ.out.1.below (Y8 _ _).drew;rw [Z89] at H2;rcases Z09 H2.out with ⟨⟨c,p⟩,hv,rfl⟩ | ⟨t,vs,hv,hq4⟩
        ·refine (HV.out g (by omega) w5.drew rb B d _ _ P7 hv).mono ?_;rintro e w7 ⟨⟨b,rfl,h1,h2⟩,hF7⟩;exact ⟨rfl,Z0r.pre FQ.out.drew (r:=.error (c,p)) ⟨⟨b,rfl,h1,h2⟩,hF7⟩⟩
        ·have hvl := Z24 _ _ _ _ _ _ hv;have HQ4 := lh hq4;refine (HV.out g (by omega) w5.drew rb B d _ _ P7 hv).mono ?_;rintro e w3 ⟨a, rfl, hA, hR3, hF3⟩;have hF63 : RFr w5 w3 rb := (RFr.refl w5 rb).drew.trans hF3;have hN3 := GQ.out.rfr hlt hF63;have hblk := hN3.at'.blkOf;simp only [ATree.b, ATree.v, ATree.kind, ATree.text, ATree.n] at hblk;have m3 : w3.cell? ⟨nb, 3, none⟩ = some (.slice p kids.length cp) := by simp [World.cell?, hblk]
         have mz:w3.frozen? ⟨nb,3,none⟩=false:=by simp [World.frozen?,hblk]
         have hnb3:nb < w3.heap.size:=(Y6.1 hblk).1;have hnd:=hN3.nodup;simp only [ATree.blocks,List.nodup_cons,List.mem_append,Option.mem_toList,not_or] at hnd;have hne:=hnd.1.1;have hk4:kids.length≤9:=by have:=HKL.out; have:=HL.out; omega
         have N3:=lh hN3;have A3:=lh hA;have R3:=lh hR3;have F3:=lh (FQ.out.trans hF63);have NE:=lh hne;have NA:=lh (show ∀ y∈(ATree.mk nb (.slice p kids.length cp) 35 ⟨#[]⟩ 0 kids).blocks,y < w5.drew.heap.size from fun y hy=>(GQ.out.new y hy).2);have HVL:=lh hvl;refine hK _ _ m3 ?_;obtain ⟨i0,hi,hz0,hz1,hz2⟩:=info_parts Tryz.infoPtr;clear hK K hA hR3 hF63 hN3 hblk hnd hne n3 hF3 hv hq4 P7 hvl;refine Z5 (fun K hK=>?_);go_simp
         refine hK _ _ ((Z8 hnb3).trans m3) ?_;clear hK K;refine Z5 (fun K hK=>?_)
         refine step_append_lies _ (by rfl) (.tmp 47) (.tmp 50) 36 (by rfl) B 22 i0 _ 1 8 Tryz.underlying36 hi hz0 hz1 hz2 rfl (by decide) (.slice p kids.length cp) (kids).length ((kids).map ATree.ptr) (by rfl) (N3.out.at'.rowOf.alloc _) ⟨w3.heap.size,0,none⟩ 1 1 [a.ptr] (by rfl) rfl (Yi (cs:=#[a.ptr]) (t:=22) (fr:=(0,0)) (heap_alloc_new w3 _)) (by simp [ATree.ptr,Value.oneCell']) (by decide) (by unfold maxLen; omega) (by omega) (by simp; have:=F3.out.size; have:=HP.out.le; omega) (w3.heap.size + 1) (by simp) ?_;intro gg cap w4 hown4 hgrow4 hat4 hlt4
         have m4:w4.cell? ⟨nb,3,none⟩=some (.slice p kids.length cp):=(hgrow4.cell_far ⟨nb,3,none⟩ (by simp; omega) (fun e=>NE.out e.symm)).trans ((Z8 hnb3).trans m3);have mz4:w4.frozen? ⟨nb,3,none⟩=false:=(hgrow4.frozen_far ⟨nb,3,none⟩ (by simp; omega) (fun e=>NE.out e.symm)).trans ((Z0m hnb3).trans mz);refine hK _ _ m4 ?_;clear hK K;simp only [Act.put,zA,zB,zC]
         have hfin:=Got.push hlt HP.out.le N3.out (wA:=w5.drew) NA.out A3.out F3.out R3.out ((Y8 _ _).alloc (Y5 _) _) hgrow4 hown4 (by rcases hat4 with h | h; (exact .inl h); (exact .inr (by omega))) hlt4;have FIN:=lh hfin;clear hgrow4 hown4 hat4 hlt4 hfin;refine Z6 ?_;go_wp2;go_roundw
         case rel=>
          refine ⟨g,acc ++ [t],vs,.slice (some ⟨gg,0,none⟩) (kids.length + 1) cap,kids ++ [a],by omega,HQ4.out,?_,FIN.out.2.2,FIN.out.2.1,by simp,by have:=HL.out; have:=H8.out; simp; omega,by have:=HVL.out; simp only [Job.least] at this; have:=PQ.out.2; omega⟩;have h1:=FIN.out.1;have h2:=GQ.out.tree;simp only [ATree.tree,Tree.mk.injEq,true_and] at h2;rw [h2] at h1;exact h1
         case measure=>
          rw [FIN.out.2.2.left,RL.out];have:=HVL.out; simp only [Job.least] at this; have:=PL.out;omega
   ·have hl' : isT Z0v us = false := by simpa using hl
    have hq:=HQ.out;rw [Y9 hl] at hq;have hr:=Yk hq;have HRr:=lh hr.symm;have HT:=Z22 w2 rb us d Z0v P2.out.rd hl';unfold Z0v at HT;have HT:=lh HT;clear hq hl hl' hr HQ;go_wp2_with fail
    refine HT.out.mono ?_;rintro e w3 ⟨rfl,hB3⟩;have R3:=lh (P2.out.rd.below hB3);have F3:=lh (F2.out.trans (RFr.below (rb:=rb) hB3));have G3:=lh (G2.out.rfr hlt (RFr.below (rb:=rb) hB3));clear hB3 HT;go_wp2;go_ret;rw [HRr.out,HAB.out];exact ⟨a,rfl,G3.out,R3.out,F3.out⟩
end Go.Proofs.YtmeiggjboakmpaaGreatDoor
namespace Go.Proofs.YtmeiggjboakmpaaGreatDoor
open Go Go.RowKit Go.Maps
set_option maxRecDepth 100000
set_option maxHeartbeats 20000000
def Z3i:List (ByteArray×Int):=[(Z45,19),(Z36,20),(Z4q,21),(Z1o,22)]
def Z5l:DataW Unit:=litD Z3i
theorem Zh1:Z5l=.map [(.string Z36.data.toList,.lit (.int .i64 20)),(.string Z4q.data.toList,.lit (.int .i64 21)),(.string Z45.data.toList,.lit (.int .i64 19)),(.string Z1o.data.toList,.lit (.int .i64 22))]:=by kernel_rfl
theorem Zbg {kl:Lit} (h:Maps.has Z5l kl=true):∃ x∈Z3i,kl=.string x.1.data.toList:=by
 rw [Zh1] at h;obtain ⟨p,hp,hk⟩:=List.any_eq_true.1 h;have e:=WideAt.sameKey_eq hk;simp only [List.mem_cons,List.not_mem_nil,or_false] at hp;rcases hp with rfl | rfl | rfl | rfl;·exact ⟨(Z36,20),by simp [Z3i],e.symm⟩
 ·exact ⟨(Z4q,21),by simp [Z3i],e.symm⟩
 ·exact ⟨(Z45,19),by simp [Z3i],e.symm⟩
 ·exact ⟨(Z1o,22),by simp [Z3i],e.symm⟩
theorem Z6j {x:ByteArray×Int} (h:x∈Z3i):Maps.has Z5l (.string x.1.data.toList)=true∧Z5l.atKey (.string x.1.data.toList) (.lit (.int .i64 0))=.lit (.int .i64 x.2):=by
 simp only [Z3i,List.mem_cons,List.not_mem_nil,or_false] at h;rcases h with rfl | rfl | rfl | rfl <;> exact ⟨by kernel_rfl,by kernel_rfl⟩
theorem Zgs {s:ByteArray} {ts:List Tok} (h:isT s ts=true):(hdT ts).text=s:=by
 simp only [isT,Bool.and_eq_true,Z15,decide_eq_true_eq] at h;exact h.2
theorem Z6w {s s':ByteArray} {ts:List Tok} (h:isT s ts=true) (hn:s≠s'):isT s' ts=false:=by
 have:=Zgs h;simp only [isT,this];have:Z15 s s'=false:=by simp [Z15,hn]
 simp [this]
theorem Zgo {x:ByteArray×Int} {ts:List Tok} (h:x∈Z3i) (hx:isT x.1 ts=true):Z3t ts=x.2∧x.2≠0:=by
 simp only [Z3i,List.mem_cons,List.not_mem_nil,or_false] at h;rcases h with rfl | rfl | rfl | rfl;·exact ⟨by unfold Z3t; rw [Yb hx],by decide⟩
 ·exact ⟨by unfold Z3t; rw [Z6w hx (s':=Z45) (by decide)]; simp only at hx; simp [hx],by decide⟩
 ·exact ⟨by unfold Z3t; rw [Z6w hx (s':=Z45) (by decide),Z6w hx (s':=Z36) (by decide)]; simp only at hx; simp [hx],by decide⟩
 ·exact ⟨by unfold Z3t; rw [Z6w hx (s':=Z45) (by decide),Z6w hx (s':=Z36) (by decide),Z6w hx (s':=Z4q) (by decide)]; simp only at hx; simp [hx],by decide⟩
theorem Zf3 {ts:List Tok} (h:∀ x∈Z3i,isT x.1 ts=false):Z3t ts=0:=by
 have h1:=h (Z45,19) (by simp [Z3i]); have h2:=h (Z36,20) (by simp [Z3i]); have h3:=h (Z4q,21) (by simp [Z3i]); have h4:=h (Z1o,22) (by simp [Z3i]);simp only at h1 h2 h3 h4;simp [Z3t,h1,h2,h3,h4]
theorem keyOf_string_inv {P:Program} {k:TypeId} (hk:P.underlying k=some .string) {key:Value} {kl:Lit} (h:keyOf P k key=some kl):∃ x:ByteArray,key=.string x∧kl=.string x.data.toList:=by
 unfold keyOf at h;rw [hk] at h;simp only at h;unfold mapKey at h;rw [hk] at h;cases key <;> simp at h
 obtain ⟨_,rfl⟩:=h;exact ⟨_,rfl,rfl⟩
theorem Zb7 (f:Nat) (hA:Says 79 rArg .around f)
 (hFn:∀ s,Says 77 (fun rb=>#[.pointer (some ⟨rb,0,none⟩),.int .i64 37,.string s]) (.func 37 s) f)
 (hO:Says 156 rArg (.object []) f):Says 147 rArg .primary (f + 1):=by
 intro w rb B d ts r hP hp;have HA:=lh hA;have HFN:=lh hFn;have HO:=lh hO;have HP:=lh hP;obtain ⟨tb,off,cap,h⟩:=hP.rd;have c0:=h.c0;have z0:=h.fz 0;have t0:=h.hd (j:=0) rfl;have t1:=h.hd (j:=1) rfl;have t2:=h.hd (j:=2) rfl;have t3:=h.hd (j:=3) rfl;have hps:=h.pos;have hm:=h.most;have hle:=h.le;unfold maxLen at hm;have HH:=lh h;obtain ⟨n,hn⟩:=zX ts.length
 rw [← hn] at c0 hps hle;have HN:=lh hn;have hlt0:=h.lt;have hrt:=h.rlt;have hlt:=hP.lt;simp only [Nat.add_zero] at t0;have HQ:=lh hp;obtain ⟨kd,hkd⟩:=zX ((hdT ts).kind)
 rw [← hkd] at t0;have HKD:=lh hkd;obtain ⟨w1,hw1⟩:=zX (w.alloc (.cells #[.int .i64 kd,.string (hdT ts).text,.int .i64 (hdT ts).n,.int .i64 (hdT ts).at'] 87))
 have hB1:Below w.heap.size w w1:=by rw [hw1]; exact (Y8 _ _).alloc (Y5 _) _
 have P1:=lh (hP.below hB1);have B1:=lh hB1;have F1:=lh (RFr.below (rb:=rb) hB1);have HW1:=lh hw1;clear hP hp h hn hkd hA hFn hO hB1 hw1;unfold rArg;by_cases k1:kd=1
 ·subst k1;have hq := HQ.out;rw [Z0, Yb HKD.out.symm] at hq;have hr := Yk hq;have HR := lh hr.symm;have HC := lh (Z44 w1 rb ts d P1.out.rd HKD.out.symm);clear hq hr;go_enter Tryz.func147, Tryz.ntmps147
  go_wp2_with fail
  rw [← HW1.out];refine HC.out.mono ?_;rintro e w2 ⟨rfl,hR2,hF2⟩;have F2:=lh (F1.out.trans hF2);have R2:=lh hR2;obtain ⟨s,hs⟩:=zX ((hdT ts).text)
  rw [← hs];have HS:=lh hs;have HN:=lh (Z14 w2 rb 23 s none 0 0);have G3:=lh (Got.leaf (k:=23) (t:=s) (n:=0) HP.out.le F2.out);clear hR2 hF2 HC hs;go_wp2_with fail
  refine HN.out.mono ?_;rintro e w3 ⟨rfl,hw3⟩;have hal:Below w2.heap.size w2 w3:=by rw [hw3]; exact (Y8 _ _).alloc (Y5 _) _
  have AL:=lh hal;have HW3:=lh hw3;clear hal hw3 HN;go_wp2;go_ret;rw [HR.out,← HS.out];exact ⟨_,rfl,by rw [HW3.out]; exact G3.out,R2.out.below AL.out,F2.out.trans (RFr.below AL.out)⟩
 have n1:(kd == 1)=false:=by simpa using k1
 have K1:=lh k1;clear k1;by_cases k3:kd=3
 ·subst k3;have hq := HQ.out;rw [Z0, Y9 (by rw [← HKD.out]; exact K1.out), Yb HKD.out.symm] at hq;have hr := Yk hq;have HR := lh hr.symm;have hd6 : (hdT ts).kind ≠ 6 := by rw [← HKD.out]; decide
  have h2:=HH.out.two hd6;rw [← HN.out] at h2;have HT:=lh (HH.out.tail hd6);clear hq hr hd6;go_enter Tryz.func147,Tryz.ntmps147
  go_wp2_with fail
  refine (Z14 _ rb 17 ⟨#[]⟩ none 0 0).mono ?_;rintro e w3 ⟨rfl,rfl⟩;go_wp2;go_ret;have h4:=HT.out;rw [← HN.out] at h4;have hb:∀ o,Below (w.setCell ⟨rb,0,none⟩ (.slice (some ⟨tb,off + 4,none⟩) (n - 1) (cap - 1))).heap.size (w.setCell ⟨rb,0,none⟩ (.slice (some ⟨tb,off + 4,none⟩) (n - 1) (cap - 1))) ((w.setCell ⟨rb,0,none⟩ (.slice (some ⟨tb,off + 4,none⟩) (n - 1) (cap - 1))).alloc o):=fun o=>(Y8 _ _).alloc (Y5 _) o;have F2:=fun o=>(((RFr.refl w rb).set 0 (.slice (some ⟨tb,off + 4,none⟩) (n - 1) (cap - 1))).trans (RFr.below (rb:=rb) (hb o)))
  have hb2:∀ (W:World) o,Below W.heap.size W (W.alloc o):=fun W o=>(Y8 _ _).alloc (Y5 _) o;rw [HR.out];refine ⟨_,?pt,Got.leaf (k:=17) (t:=⟨#[]⟩) (n:=(hdT ts).n) HP.out.le (F2 _),⟨tb,off + 4,cap - 1,(h4.below (hb _)).below (hb2 _ _)⟩,(F2 _).trans (RFr.below (hb2 _ _))⟩;case pt=>simp [ATree.b]
 have n3:(kd == 3)=false:=by simpa using k3
 have K3:=lh k3;clear k3;by_cases k4:kd=4
 ·subst k4;have hq := HQ.out;rw [Z0, Y9 (by rw [← HKD.out]; exact K1.out), Y9 (by rw [← HKD.out]; exact K3.out), Yb HKD.out.symm] at hq;have hr := Yk hq;have HR := lh hr.symm;have hd6 : (hdT ts).kind ≠ 6 := by rw [← HKD.out]; decide
  have h2:=HH.out.two hd6;rw [← HN.out] at h2;have HT:=lh (HH.out.tail hd6);clear hq hr hd6;go_enter Tryz.func147,Tryz.ntmps147
  go_wp2_with fail
  refine (Z14 _ rb 18 (hdT ts).text none 0 0).mono ?_;rintro e w3 ⟨rfl,rfl⟩;go_wp2;go_ret;have h4:=HT.out;rw [← HN.out] at h4;have hb:∀ o,Below (w.setCell ⟨rb,0,none⟩ (.slice (some ⟨tb,off + 4,none⟩) (n - 1) (cap - 1))).heap.size (w.setCell ⟨rb,0,none⟩ (.slice (some ⟨tb,off + 4,none⟩) (n - 1) (cap - 1))) ((w.setCell ⟨rb,0,none⟩ (.slice (some ⟨tb,off + 4,none⟩) (n - 1) (cap - 1))).alloc o):=fun o=>(Y8 _ _).alloc (Y5 _) o;have F2:=fun o=>(((RFr.refl w rb).set 0 (.slice (some ⟨tb,off + 4,none⟩) (n - 1) (cap - 1))).trans (RFr.below (rb:=rb) (hb o)))
  have hb2:∀ (W:World) o,Below W.heap.size W (W.alloc o):=fun W o=>(Y8 _ _).alloc (Y5 _) o;rw [HR.out];refine ⟨_,?pt,Got.leaf (k:=18) (t:=(hdT ts).text) (n:=0) HP.out.le (F2 _),⟨tb,off + 4,cap - 1,(h4.below (hb _)).below (hb2 _ _)⟩,(F2 _).trans (RFr.below (hb2 _ _))⟩;case pt=>simp [ATree.b]
 have n4:(kd == 4)=false:=by simpa using k4
 have K4:=lh k4;clear k4;have hq0:=HQ.out;rw [Z0,Y9 (by rw [← HKD.out]; exact K1.out),Y9 (by rw [← HKD.out]; exact K3.out),Y9 (by rw [← HKD.out]; exact K4.out)] at hq0;have HQ0:=lh hq0;clear hq0;have hmm:=@run_makeMap Tryz.prog;have h0:=World.ownsMap_made (H:=Unit) w1 Tryz.prog 9 (plainElem Tryz.prog 3);have hB0:Below w1.heap.size w1 (w1.alloc (.map #[] 0)):=(Y8 _ _).alloc (Y5 _) _;have HB0:=lh hB0;rw [HW1.out,World.size_alloc] at h0;clear hB0;go_enter Tryz.func147,Tryz.ntmps147
 go_wp2_with (first | (refine Z9 _ rfl _ _ _ 82 rfl 9 3 Tryz.keyedS Tryz.underlying82 _ _ 0 _ rfl h0 (by unfold maxLen; omega) _ _ _ rfl rfl (Yw Yr (by decide)) _ [] (plainElem_int Ys (by decide)) ?_; intro v1 h1 g1) | (refine Z9 _ rfl _ _ _ 82 rfl 9 3 Tryz.keyedS Tryz.underlying82 _ _ 1 _ rfl h1 (by unfold maxLen; omega) _ _ _ rfl rfl (Yw Yr (by decide)) _ [] (plainElem_int Ys (by decide)) ?_; intro v2 h2 g2) | (refine Z9 _ rfl _ _ _ 82 rfl 9 3 Tryz.keyedS Tryz.underlying82 _ _ 2 _ rfl h2 (by unfold maxLen; omega) _ _ _ rfl rfl (Yw Yr (by decide)) _ [] (plainElem_int Ys (by decide)) ?_; intro v3 h3 g3) | (refine Z9 _ rfl _ _ _ 82 rfl 9 3 Tryz.keyedS Tryz.underlying82 _ _ 3 _ rfl h3 (by unfold maxLen; omega) _ _ _ rfl rfl (Yw Yr (by decide)) _ [] (plainElem_int Ys (by decide)) ?_; intro v4 h4 g4) | (at_range; refine wpList_range_own _ rfl _ 82 rfl 9 3 Tryz.keyedS Tryz.underlying82 _ _ _ _ rfl h4 ?_; intro v5 hrg0 hg5 hs5))
 obtain ⟨mb,hmb⟩:=zX (w.heap.size + 1)
 have hz1:w1.heap.size=mb:=by rw [HW1.out,hmb]; simp
 obtain ⟨it,hit⟩:=zX v4.heap.size
 have B1':=Z00 HB0.out (by rw [← HW1.out] at g1; exact g1) (by omega) HB0.out.size;have B2:=Z00 B1' g2 (by omega) B1'.size;have B3:=Z00 B2 g3 (by omega) B2.size;have B4:=Z00 B3 g4 (by omega) B3.size;have B5:Below w1.heap.size w1 v5:=B4.grown hg5 B4.size (fun j hj=>by cases hj);have hitl:w1.heap.size≤it:=by rw [hit]; exact B4.size
 have hrg:v5.ranges Tryz.prog 9 (plainElem Tryz.prog 3) mb it 4 Z5l (Maps.has Z5l) (Maps.size Z5l):=by rw [hmb,hit]; exact hrg0
 have HRG:=lh hrg;have B5:=lh B5;rw [← hmb,← hit];have HMB:=lh hmb;have HIT:=lh hit;have HZ1:=lh hz1;have HITL:=lh hitl;clear hrg0 hg5 hs5 h0 h1 h2 h3 h4 g1 g2 g3 g4 B1' B2 B3 B4 hrg hmb hit hz1 hitl HB0 hmm
 go_loopw [] (fun wr=>∃ (left:Lit→Bool) (cnt:Nat),wr.ranges Tryz.prog 9 (plainElem Tryz.prog 3) mb it 4 Z5l left cnt∧Hid (∀ kl,left kl=true→Maps.has Z5l kl=true) ∧
  Hid (∀ s:ByteArray,Maps.has Z5l (.string s.data.toList)=true→left (.string s.data.toList)=false→isT s ts=false)∧Hid (Below w1.heap.size w1 wr)) (fun wr=>wr.rangeLeft mb it)
 case atStart=>exact ⟨_,_,HRG.out,lh (fun _ h=>h),lh (fun s h1 h2=>by rw [h1] at h2; cases h2),B5⟩
 case round=>
  obtain ⟨left,cnt,hrg,HLE,HNO,BW⟩:=hrel;go_wp2_with (at_next; refine wpList_next_ranges _ rfl _ rfl 9 Tryz.keyedS _ (fun x:ByteArray=>Value.string x) (fun c:Int=>Value.int .i64 c) (fun key kl h=>by obtain ⟨x,h,_⟩:=keyOf_string_inv Yr h; exact ⟨x,h⟩) (fun v y h=>by obtain ⟨c,h,_⟩:=plainElem_int_inv Ys h; exact ⟨c,h⟩) mb it 4 _ left cnt rfl hrg ?_ ?_)
  ·intro _ hl0;have hnone : Z3t ts = 0 := Zf3 fun x hx => HNO.out x.1 (Z6j hx).1 (hl0 _);have hq := HQ0.out;rw [Y9 (fun h => h hnone)] at hq;have HQ1 := lh hq;have P5 := lh (P1.out.below BW.out);have F5 := lh (F1.out.trans (RFr.below (rb := rb) BW.out));clear hl0 hnone hq hrg;by_cases h1 : isT Z0v ts = true
   ·have hq := HQ1.out;rw [Yb h1] at hq;have HB := Z4f wr rb ts d Z0v P5.out.rd;rw [h1] at HB;unfold Z0v at HB;have HB := lh HB;have HQ2 := lh hq;clear h1 hq;go_wp2_with fail
    refine HB.out.mono ?_;rintro e w2 ⟨rfl,hB2⟩;have HC:=HA.out w2 rb B d ts r (P5.out.below hB2) HQ2.out;unfold rArg at HC;have HC:=lh HC;have F2:=lh (F5.out.trans (RFr.below (rb:=rb) hB2));clear hB2 HB;go_wp2_with fail
    refine HC.out.mono ?_;rcases r with ⟨c,p⟩ | ⟨t,ts'⟩
    ·rintro e w3 ⟨⟨b,rfl,h1,h2⟩,hF⟩;exact ⟨rfl,Z0r.pre F2.out (r:=.error (c,p)) ⟨⟨b,rfl,h1,h2⟩,hF⟩⟩
    ·rintro e w3 ⟨a,rfl,hG,hR,hF⟩;have HG:=lh (hG.pre F2.out);have HR:=lh hR;have HF:=lh (F2.out.trans hF);clear hG hR hF HC;go_wp2;go_ret;exact ⟨a,rfl,HG.out,HR.out,HF.out⟩
   have h1':isT Z0v ts=false:=by simpa using h1
   have hq:=HQ1.out;rw [Y9 h1] at hq;have HQ2:=lh hq;have HB:=Z4f wr rb ts d Z0v P5.out.rd;rw [h1'] at HB;unfold Z0v at HB;have HB:=lh HB;clear h1 h1' hq;go_wp2_with fail
   refine HB.out.mono ?_;rintro e w2 ⟨rfl,hB2⟩;have P2:=lh (P5.out.below hB2);have F2:=lh (F5.out.trans (RFr.below (rb:=rb) hB2));clear hB2 HB;by_cases h2:isT Ze ts=true
   ·have hq := HQ2.out;rw [Yb h2] at hq;have HT := Z1g w2 rb ts d Ze P2.out.rd h2;unfold Ze at HT;have HT := lh HT;have HQ3 := lh hq;clear h2 hq;go_wp2_with fail
    refine HT.out.mono ?_;rintro e w3 ⟨rfl,hR3,hF3⟩;have P3:=lh (P2.out.tail hR3 hF3);have F3:=lh (F2.out.trans hF3);obtain ⟨tb2,off2,cap2,hh⟩:=hR3;have q0:=hh.c0;have q1:=hh.hd (j:=0) (x:=.int .i64 (hdT ts.tail).kind) rfl;rw [Nat.add_zero] at q1;have q2:=hh.pos;obtain ⟨n2,hn2⟩:=zX ts.tail.length
    rw [← hn2] at q0 q2;clear hh hF3 HT hn2;by_cases hk:(hdT ts.tail).kind=1
    ·have e1 : ((hdT ts.tail).kind == 1) = true := by simpa using hk
     have hq:=HQ3.out;rw [Yb hk] at hq;have HC:=lh (Z44 w3 rb ts.tail d P3.out.rd hk);obtain ⟨s,hs⟩:=zX ((hdT ts.tail).text)
     rw [← hs] at HC hq;have HQ4:=lh hq;clear hk hq hs;go_wp2_with fail
     refine HC.out.mono ?_;rintro e w4 ⟨rfl,hR4,hF4⟩;have HC2:=HFN.out s w4 rb B d _ r (P3.out.tail hR4 hF4) HQ4.out;simp only at HC2;have HC2:=lh HC2;have F4:=lh (F3.out.trans hF4);clear hR4 hF4 HC;go_wp2_with fail
     refine HC2.out.mono ?_;rcases r with ⟨c,p⟩ | ⟨t,ts'⟩
     ·rintro e w3 ⟨⟨b,rfl,h1,h2⟩,hF⟩;exact ⟨rfl,Z0r.pre F4.out (r:=.error (c,p)) ⟨⟨b,rfl,h1,h2⟩,hF⟩⟩
     ·rintro e w3 ⟨a,rfl,hG,hR,hF⟩;have HG:=lh (hG.pre F4.out);have HR:=lh hR;have HF:=lh (F4.out.trans hF);clear hG hR hF HC2;go_wp2;go_ret;exact ⟨a,rfl,HG.out,HR.out,HF.out⟩
    ·have e1 : ((hdT ts.tail).kind == 1) = false := by simpa using hk
     have hq:=HQ3.out;rw [Y9 hk] at hq;have HC2:=HFN.out ByteArray.empty w3 rb B d _ r P3.out hq;simp only at HC2;have HC2:Calls Tryz.prog 77 #[.pointer (some ⟨rb,0,none⟩),.int .i64 37,.string ⟨#[]⟩] w3 (Z0r w3 rb B d r):=HC2;have HC2:=lh HC2;clear hk hq;go_wp2_with fail
     refine HC2.out.mono ?_;rcases r with ⟨c,p⟩ | ⟨t,ts'⟩
     ·rintro e w4 ⟨⟨b,rfl,h1,h2⟩,hF⟩;exact ⟨rfl,Z0r.pre F3.out (r:=.error (c,p)) ⟨⟨b,rfl,h1,h2⟩,hF⟩⟩
     ·rintro e w4 ⟨a,rfl,hG,hR,hF⟩;have HG:=lh (hG.pre F3.out);have HR:=lh hR;have HF:=lh (F3.out.trans hF);clear hG hR hF HC2;go_wp2;go_ret;exact ⟨a,rfl,HG.out,HR.out,HF.out⟩
   have h2':isT Ze ts=false:=by simpa using h2
   have hq:=HQ2.out;rw [Y9 h2] at hq;have HQ3:=lh hq;have HT:=Z22 w2 rb ts d Ze P2.out.rd h2';unfold Ze at HT;have HT:=lh HT;clear h2 h2' hq;go_wp2_with fail
   refine HT.out.mono ?_;rintro e w3 ⟨rfl,hB3⟩;have P3:=lh (P2.out.below hB3);have F3:=lh (F2.out.trans (RFr.below (rb:=rb) hB3));clear hB3 HT;by_cases h3:isT Zi ts=true
   ·have hq := HQ3.out;rw [Yb h3] at hq;have HT := Z1g w3 rb ts d Zi P3.out.rd h3;unfold Zi at HT;have HT := lh HT;have HQ4 := lh hq;clear h3 hq;go_wp2_with fail
    refine HT.out.mono ?_;rintro e w4 ⟨rfl,hR4,hF4⟩;have HC:=HO.out w4 rb B d _ r (P3.out.tail hR4 hF4) HQ4.out;unfold rArg at HC;have HC:=lh HC;have F4:=lh (F3.out.trans hF4);clear hR4 hF4 HT;go_wp2_with fail
    refine HC.out.mono ?_;rcases r with ⟨c,p⟩ | ⟨t,ts'⟩
    ·rintro e w5 ⟨⟨b,rfl,h1,h2⟩,hF⟩;exact ⟨rfl,Z0r.pre F4.out (r:=.error (c,p)) ⟨⟨b,rfl,h1,h2⟩,hF⟩⟩
    ·rintro e w5 ⟨a,rfl,hG,hR,hF⟩;have HG:=lh (hG.pre F4.out);have HR:=lh hR;have HF:=lh (F4.out.trans hF);clear hG hR hF HC;go_wp2;go_ret;exact ⟨a,rfl,HG.out,HR.out,HF.out⟩
   have h3':isT Zi ts=false:=by simpa using h3
   have hq:=HQ3.out;rw [Y9 h3] at hq;obtain rfl:=Yk hq;have HT:=Z22 w3 rb ts d Zi P3.out.rd h3';unfold Zi at HT;have HT:=lh HT;clear h3 h3' hq;go_wp2_with fail
   refine HT.out.mono ?_;rintro e w4 ⟨rfl,hB4⟩;have HF:=lh (Z34 w4 rb ts d 3 (P3.out.rd.below hB4));have F4:=lh (F3.out.trans (RFr.below (rb:=rb) hB4));clear hB4 HT;go_wp2_with fail
   refine HF.out.mono ?_;rintro e w5 ⟨⟨b,rfl,h1,h2⟩,hB⟩;exact ⟨rfl,Z0r.err F4.out ⟨b,rfl,h1,h2⟩ hB⟩
  ·intro x c kl y ys w2 cnt2 hkx hlx hvx hat hrg2 hcnt hg2 hs2 hen;have hb2 : Below w1.heap.size w1 w2 := Z00 BW.out hg2 HITL.out BW.out.size;have B2 := lh hb2;obtain ⟨x', e, rfl⟩ := keyOf_string_inv Yr hkx;obtain rfl : x = x' := by cases e; rfl
   obtain ⟨z,hz,hzx⟩:=Zbg (HLE.out _ hlx);have hxz:x=z.1:=by
    have:x.data.toList=z.1.data.toList:=by simpa using hzx
    exact Z25 (by rw [Lib.toList_data,Lib.toList_data]; exact this)
   obtain ⟨c',e1,e2,_⟩:=plainElem_int_inv Ys hvx;obtain rfl:c=c':=by cases e1; rfl
   have hcz:c=z.2:=by
    have h1:=hat (.lit (.int .i64 0));simp only [Prod.mk.injEq] at e2;rw [hxz,(Z6j hz).2,e2.1] at h1;simpa using h1.symm
   have HZ:=lh hz;have HXZ:=lh hxz;have HCZ:=lh hcz;have HRG2:=lh hrg2;have HRG:=lh hrg;have HLT:=lh hcnt;have P2:=P1.out.below hb2;clear e hzx hxz e1 e2 hcz hz hb2 hrg2 hrg hlx hvx hat hkx hcnt hg2 hs2;by_cases hs:isT x ts=true
   ·have hh := Zgo HZ.out (ts := ts) (by rw [← HXZ.out]; exact hs);have hq := HQ0.out;rw [Yb (by rw [hh.1]; exact hh.2), hh.1] at hq;have hr := Yk hq;have HR := lh hr.symm;have HT := lh (Z1g w2 rb ts d x P2.rd hs);clear hs hh hq hr P2;go_wp2_with fail
    refine HT.out.mono ?_;rintro e w3 ⟨rfl,hR3,hF3⟩;have R3:=lh hR3;have F3:=lh ((F1.out.trans (RFr.below (rb:=rb) B2.out)).trans hF3);have HN:=lh (Z14 w3 rb c ⟨#[]⟩ none 0 0);have G3:=lh (Got.leaf (k:=c) (t:=⟨#[]⟩) (n:=0) HP.out.le F3.out);clear hR3 hF3 HT;go_wp2_with fail
    refine HN.out.mono ?_;rintro e w4 ⟨rfl,hw4⟩;have hal:Below w3.heap.size w3 w4:=by rw [hw4]; exact (Y8 _ _).alloc (Y5 _) _
    have AL:=lh hal;have HW4:=lh hw4;clear hal hw4 HN;go_wp2;go_ret;rw [HR.out,← HCZ.out];exact ⟨_,rfl,by rw [HW4.out]; exact G3.out,R3.out.below AL.out,F3.out.trans (RFr.below AL.out)⟩
   ·have hs' : isT x ts = false := by simpa using hs
    have HT:=lh (Z22 w2 rb ts d x P2.rd hs');have HS:=lh hs';clear hs hs' P2;go_wp2_with fail
    refine HT.out.mono ?_;rintro e w3 ⟨rfl,hB3⟩;have B3:=lh hB3;have hg3:w2.grownBy w3 none:=⟨hB3.os,hB3.tape,hB3.output,hB3.size,fun i hi _=>hB3.block i hi⟩
    have HRG3:=lh (HRG2.out.kept hg3 (by simp) (by simp));clear hB3 hg3;go_wp2;go_roundw
    case rel=>
     refine ⟨_,cnt2,HRG3.out,lh (fun kl hkl=>HLE.out kl (by simp only [Bool.and_eq_true] at hkl; exact hkl.1)),lh (fun s h1 h2=>?_),lh (B2.out.trans (B3.out.mono B2.out.size))⟩;by_cases hl:left (.string s.data.toList)=true
     ·rw [hl] at h2;simp only [Bool.true_and,Bool.not_eq_false'] at h2;have e:=WideAt.sameKey_eq h2;have:s=x:=Z25 (by rw [Lib.toList_data,Lib.toList_data]; simpa using e);rw [this]; exact HS.out
     ·exact HNO.out s h1 (by simpa using hl)
    case measure=>rw [HRG3.out.left_eq,HRG.out.left_eq]; exact HLT.out
end Go.Proofs.YtmeiggjboakmpaaGreatDoor
