/- Package tree: unary. -/
import Derived.Test.YtedopiahfejdfaaGreatDoorJ16
namespace Go.Proofs.YtedopiahfejdfaaGreatDoor
open Go Go.RowKit Go.Maps
set_option maxRecDepth 100000
set_option maxHeartbeats 20000000
set_option linter.unusedVariables false
def unL:List ByteArray:=[Z46,Z12,Z1a]
theorem Zfn {ts:List Tok} (h:∀ (i:Nat) (x:ByteArray),i < 3→unL[i]?=some x→isT x ts=false):Z0i ts=0:=by
 have h0:=h 0 Z46 (by omega) rfl; have h1:=h 1 Z12 (by omega) rfl; have h2:=h 2 Z1a (by omega) rfl;simp [Z0i,h0,h1,h2]
theorem Zfm {ts:List Tok} {k:Nat} {x:ByteArray} (hk:unL[k]?=some x) (hx:isT x ts=true) (h:∀ (i:Nat) (y:ByteArray),i < k→unL[i]?=some y→isT y ts=false):Z0i ts=32 + k∧x.size≤maxLen ∧
 (litD [(Z46,32),(Z12,33),(Z1a,34)]).atKey (.string x.data.toList) (.lit (.int .i64 0))=.lit (.int .i64 (32 + k)):=by
 match k with
 | 0 => obtain rfl : Z46 = x := by simpa [unL] using hk
        exact ⟨by simp [Z0i,hx],by decide,by kernel_rfl⟩
 | 1 => obtain rfl : Z12 = x := by simpa [unL] using hk
        have h0:=h 0 Z46 (by omega) rfl;exact ⟨by simp [Z0i,hx,h0],by decide,by kernel_rfl⟩
 | 2 => obtain rfl : Z1a = x := by simpa [unL] using hk
        have h0:=h 0 Z46 (by omega) rfl; have h1:=h 1 Z12 (by omega) rfl;exact ⟨by simp [Z0i,hx,h0,h1],by decide,by kernel_rfl⟩
 | k + 3=>simp [unL] at hk
theorem Z3o {P:Program} {ops:Array Oper} {Q:Exit→Act→World→Prop} {i:Nat} {o:Oper} {K:Act→World→Prop} {a:Act} {w:World} (hi:ops[i]?=some o)
 (h:if Region.wanted o (yielded ops a.tmps)=true then o.wp P a w K Q else K (a.put o.dst undef) w):wpOp P ops Q i K a w:=by
 unfold wpOp;simp only [hi];split;·rename_i hw; rw [Y5 hw] at h; exact .inl h
 ·rename_i hw; rw [Y3 hw] at h; exact h
theorem Z4h {H:Type} {P:Program} {w:World} {o:Oper} {a:Act} {K:Act→World→Prop} {Q:Exit→Act→World→Prop}
 (m x v:Operand) (t:TypeId) (hop:o.op=Op.insert t m x v)
 (k e:TypeId) (KK:Keyed P k) (ht:P.underlying t=some (.map k e)) (R:Value→Option (DataW H×List MemPlace)) (b n:Nat) (D:DataW H)
 (hm:a.eval m=.map (some b)) (hown:w.ownsMap P k R b n D) (hn:n < maxLen) (key val:Value) (kl:Lit) (hx:a.eval x=key) (hv:a.eval v=val) (hkey:keyOf P k key=some kl)
 (d:DataW H) (ps:List MemPlace) (hval:R val=some (d,ps))
 (hK:∀ w',w'.ownsMap P k R b (n + 1) (D.put kl d)→w.grownBy w' (some b)→K (a.put o.dst undef) w'):o.wp P a w K Q:=by
 obtain ⟨w',hrun,r1,r2⟩:=hown.update KK ht hn hkey hval;unfold Oper.wp;simp [execOp,hop,hm,hx,hv,hrun,Result.andThen];exact hK w' r1 r2
theorem Z5x {H:Type} {P:Program} {w:World} {o:Oper} {a:Act} {K:Act→World→Prop} {Q:Exit→Act→World→Prop}
 (m x:Operand) (t:TypeId) (hop:o.op=Op.lookup t m x false)
 (k e:TypeId) (q:IntKind) (KK:Keyed P k) (ht:P.underlying t=some (.map k e)) (he:P.underlying e=some (.int q)) (hz:(zeroValue e).run P w=.ok (.int q 0) w) (b n:Nat) (D:DataW H)
 (hm:a.eval m=.map (some b)) (hown:w.ownsMap P k (plainElem P e) b n D) (key:Value) (kl:Lit) (hx:a.eval x=key) (hkey:keyOf P k key=some kl)
 (hK:∀ c:Int,D.atKey kl (.lit (.int q 0))=.lit (.int q c)→K (a.put o.dst (.int q c)) w):o.wp P a w K Q:=by
 obtain ⟨c,hrun,hat,hwc⟩:=hown.lookup_int KK ht he hz hkey;unfold Oper.wp;simp [execOp,hop,hm,hx,hrun,Result.andThen];exact hK c hat
def unD (b2 b3 b4:Bool):DataW Unit:=litD ((if b2 then [(Z46,32)] else []) ++ (if b3 then [(Z12,33)] else []) ++ (if b4 then [(Z1a,34)] else []))
theorem Zg5 (b3 b4:Bool):(unD false b3 b4).put (.string [33]) (.lit (.int .i64 32))=unD true b3 b4:=by cases b3 <;> cases b4 <;> kernel_rfl
theorem Zg6 (b2 b4:Bool):(unD b2 false b4).put (.string [116,121,112,101,111,102]) (.lit (.int .i64 33))=unD b2 true b4:=by cases b2 <;> cases b4 <;> kernel_rfl
theorem Zfz (b2 b3:Bool):(unD b2 b3 false).put (.string [100,101,108,101,116,101]) (.lit (.int .i64 34))=unD b2 b3 true:=by cases b2 <;> cases b3 <;> kernel_rfl
def Zg3 (w0:World) (k:Nat) (b1 b2 b3 b4 b5 b7:Bool) (v15 v16 v18:Value) (w':World) (mb:Nat):Prop:=
 (b1 = true → v15 = .map (some mb) ∧ w0.heap.size ≤ mb ∧ mb < w'.heap.size ∧ ∃ n, n ≤ b2.toNat + b3.toNat + b4.toNat ∧ w'.ownsMap (H := Unit) Tryz.prog 9 (plainElem Tryz.prog 3) mb n (unD b2 b3 b4)) ∧ (b5 = true → v16 = .map (some mb) ∧ b1 = true ∧ b2 = true ∧ b3 = true ∧ b4 = true) ∧ (b7 = true → v18 = .int .i64 (32 + (k : Int))) ∧
  (b1=false→b2=false∧b3=false∧b4=false)
def Z5y (w0:World) (rb B d:Nat) (us:List Tok) (r:Except (Int×Nat) (Tree×List Tok)) (b1 b11 b12:Bool) (v22 v23:Value) (w':World) (mb:Nat):Prop:=
 (b11 = false → Pre w' rb B d us ∧ RFr w0 w' rb ∧ b12 = false) ∧ (b11 = true → ∃ (a : ATree) (t : Tree) (ts' : List Tok), r = .ok (t, ts') ∧ v22 = .pointer (some ⟨a.b, 0, none⟩) ∧ Got w0 B w' a t ∧ Rd w' rb ts' d ∧ RFr w0 w' rb ∧ (b1 = true → mb ∉ a.blocks) ∧
  (b12=true→∃ g,v23=.slice (some ⟨g,0,none⟩) 1 1∧(b1=true→g≠mb)∧g ∉ a.blocks∧w0.heap.size≤g∧w'.heap[g]?=some (.cells #[a.ptr] 22 (0,0))))
def UnSt (w0:World) (rb B d:Nat) (us:List Tok) (r:Except (Int×Nat) (Tree×List Tok)) (k:Nat) (b1 b2 b3 b4 b5 b7 b11 b12:Bool) (v15 v16 v18 v22 v23:Value) (w':World):Prop:=
 ∃ mb,Zg3 w0 k b1 b2 b3 b4 b5 b7 v15 v16 v18 w' mb∧Z5y w0 rb B d us r b1 b11 b12 v22 v23 w' mb∧rb < B∧B≤w0.heap.size∧w0.heap.size≤w'.heap.size
section
variable {w0 w' w'':World} {rb B d k mb:Nat} {us:List Tok} {r:Except (Int×Nat) (Tree×List Tok)} {v15 v16 v18 v22 v23:Value} {b1 b2 b3 b4 b5 b7 b11 b12:Bool}
theorem Z5y.keep (h:Z5y w0 rb B d us r b1 b11 b12 v22 v23 w' mb) (hr:rb < B) (hB:B≤w0.heap.size) (hs:w'.heap.size≤w''.heap.size) (ho:w''.os=w'.os) (ht:w''.tape=w'.tape) (hu:w''.output=w'.output) (hb:∀ x,x < w'.heap.size→x≠mb→w''.heap[x]?=w'.heap[x]?)
 {b1':Bool} (hm:w0.heap.size≤mb) (hp:b1=true∨w'.heap.size≤mb):Z5y w0 rb B d us r b1' b11 b12 v22 v23 w'' mb:=by
 have hRF:∀ {w0:World},w0.heap.size≤mb→RFr w0 w' rb→RFr w0 w'' rb:=fun hm h=>⟨ho.trans h.os,ht.trans h.tape,hu.trans h.output,Y4 h.size hs,fun x hx hn=>(hb x (Y7 hx h.size) (by omega)).trans (h.block x hx hn)⟩;refine ⟨fun hq=>?_,fun hq=>?_⟩
 ·obtain ⟨h1,h2,h3⟩:=h.1 hq;have:=h1.rd.rlt;exact ⟨⟨h1.rd.keep hs fun x hx=>hb x (by omega) (by omega),h1.deep,h1.lt,Y4 h1.le hs,h1.few⟩,hRF hm h2,h3⟩
 ·obtain ⟨a,t,ts',e1,e2,G,R,F,hn,h2⟩:=h.2 hq;have hn':mb ∉ a.blocks:=by
   rcases hp with hp | hp;·exact hn hp
   ·intro hx; have:=(G.new mb hx).2; omega
  have:=R.rlt;refine ⟨a,t,ts',e1,e2,⟨G.tree,G.at'.keepB fun x hx=>hb x (G.new x hx).2 (fun e=>hn' (e ▸ hx)),G.nodup,fun x hx=>⟨(G.new x hx).1,Y7 (G.new x hx).2 hs⟩⟩,R.keep hs fun x hx=>hb x (by omega) (by omega),hRF hm F,fun _=>hn',fun hq2=>?_⟩;obtain ⟨g,e3,hgm,hga,hg0,hgb⟩:=h2 hq2;have hgl:g < w'.heap.size:=(Y1.1 hgb).1;have hgm':g≠mb:=by
   rcases hp with hp | hp;·exact hgm hp
   ·omega
  exact ⟨g,e3,fun _=>hgm',hga,hg0,(hb g hgl hgm').trans hgb⟩
theorem Z5y.any (h:Z5y w0 rb B d us r b1 b11 b12 v22 v23 w' mb) (hp:b1=false) (mb':Nat):Z5y w0 rb B d us r b1 b11 b12 v22 v23 w' mb':=by
 refine ⟨h.1,fun hq=>?_⟩;obtain ⟨a,t,ts',e1,e2,G,R,F,hn,h2⟩:=h.2 hq;refine ⟨a,t,ts',e1,e2,G,R,F,fun h=>(by rw [hp] at h; cases h),fun hq2=>?_⟩;obtain ⟨g,e3,hgm,hrest⟩:=h2 hq2;exact ⟨g,e3,fun h=>(by rw [hp] at h; cases h),hrest⟩
theorem UnSt.make (h:UnSt w0 rb B d us r k false b2 b3 b4 b5 b7 b11 b12 v15 v16 v18 v22 v23 w'):UnSt w0 rb B d us r k true b2 b3 b4 b5 b7 b11 b12 (.map (some w'.heap.size)) v16 v18 v22 v23 (w'.alloc (.map #[] 0)):=by
 obtain ⟨mb,hm,hc,hr,hB,hs⟩:=h;obtain ⟨rfl,rfl,rfl⟩:=hm.2.2.2 rfl;have hal:Below w'.heap.size w' (w'.alloc (.map #[] 0)):=(Y2 _ _).alloc (Y0 _) _;refine ⟨w'.heap.size,⟨fun _=>⟨rfl,hs,by simp,0,by simp,World.ownsMap_made _ _ _ _⟩,fun h=>(by have:=(hm.2.1 h).2.1; cases this),hm.2.2.1,(fun h=>by cases h)⟩,(hc.any rfl w'.heap.size).keep hr hB hal.size hal.os hal.tape hal.output (fun x hx _=>hal.block x hx) hs (.inr (Y0 _)),hr,hB,Y4 hs hal.size⟩
theorem UnSt.ins2 (h:UnSt w0 rb B d us r k true false b3 b4 false b7 b11 b12 v15 v16 v18 v22 v23 w'):∃ mb n,v15=.map (some mb)∧n < 4∧w'.ownsMap (H:=Unit) Tryz.prog 9 (plainElem Tryz.prog 3) mb n (unD false b3 b4) ∧
 ∀ w'',w''.ownsMap (H:=Unit) Tryz.prog 9 (plainElem Tryz.prog 3) mb (n + 1) ((unD false b3 b4).put (.string [33]) (.lit (.int .i64 32)))→w'.grownBy w'' (some mb)→UnSt w0 rb B d us r k true true b3 b4 false b7 b11 b12 v15 v16 v18 v22 v23 w'':=by
 obtain ⟨mb,hm,hc,hr,hB,hs⟩:=h;obtain ⟨e,h1,h2,n,h4,h5⟩:=hm.1 rfl;have n4:n < 4:=by have:=Bool.toNat_le b3; have:=Bool.toNat_le b4; have:(false).toNat=0:=rfl; omega
 refine ⟨mb,n,e,n4,h5,fun w'' ho hg=>?_⟩;rw [Zg5] at ho;exact ⟨mb,⟨fun _=>⟨e,h1,Y7 h2 hg.size,_,by have:(false).toNat=0:=rfl; have:(true).toNat=1:=rfl; omega,ho⟩,(fun h=>by cases h),hm.2.2.1,(fun h=>by cases h)⟩,hc.keep hr hB hg.size hg.os hg.tape hg.output (fun x hx hn=>hg.block x hx (fun e=>hn (by cases e; rfl))) h1 (.inl rfl),hr,hB,Y4 hs hg.size⟩
theorem UnSt.ins3 (h:UnSt w0 rb B d us r k true b2 false b4 false b7 b11 b12 v15 v16 v18 v22 v23 w'):∃ mb n,v15=.map (some mb)∧n < 4∧w'.ownsMap (H:=Unit) Tryz.prog 9 (plainElem Tryz.prog 3) mb n (unD b2 false b4) ∧
 ∀ w'',w''.ownsMap (H:=Unit) Tryz.prog 9 (plainElem Tryz.prog 3) mb (n + 1) ((unD b2 false b4).put (.string [116,121,112,101,111,102]) (.lit (.int .i64 33)))→w'.grownBy w'' (some mb)→UnSt w0 rb B d us r k true b2 true b4 false b7 b11 b12 v15 v16 v18 v22 v23 w'':=by
 obtain ⟨mb,hm,hc,hr,hB,hs⟩:=h;obtain ⟨e,h1,h2,n,h4,h5⟩:=hm.1 rfl;have n4:n < 4:=by have:=Bool.toNat_le b2; have:=Bool.toNat_le b4; have:(false).toNat=0:=rfl; omega
 refine ⟨mb,n,e,n4,h5,fun w'' ho hg=>?_⟩;rw [Zg6] at ho;exact ⟨mb,⟨fun _=>⟨e,h1,Y7 h2 hg.size,_,by have:(false).toNat=0:=rfl; have:(true).toNat=1:=rfl; omega,ho⟩,(fun h=>by cases h),hm.2.2.1,(fun h=>by cases h)⟩,hc.keep hr hB hg.size hg.os hg.tape hg.output (fun x hx hn=>hg.block x hx (fun e=>hn (by cases e; rfl))) h1 (.inl rfl),hr,hB,Y4 hs hg.size⟩
theorem UnSt.ins4 (h:UnSt w0 rb B d us r k true b2 b3 false false b7 b11 b12 v15 v16 v18 v22 v23 w'):∃ mb n,v15=.map (some mb)∧n < 4∧w'.ownsMap (H:=Unit) Tryz.prog 9 (plainElem Tryz.prog 3) mb n (unD b2 b3 false) ∧
 ∀ w'',w''.ownsMap (H:=Unit) Tryz.prog 9 (plainElem Tryz.prog 3) mb (n + 1) ((unD b2 b3 false).put (.string [100,101,108,101,116,101]) (.lit (.int .i64 34)))→w'.grownBy w'' (some mb)→UnSt w0 rb B d us r k true b2 b3 true false b7 b11 b12 v15 v16 v18 v22 v23 w'':=by
 obtain ⟨mb,hm,hc,hr,hB,hs⟩:=h;obtain ⟨e,h1,h2,n,h4,h5⟩:=hm.1 rfl;have n4:n < 4:=by have:=Bool.toNat_le b2; have:=Bool.toNat_le b3; have:(false).toNat=0:=rfl; omega
 refine ⟨mb,n,e,n4,h5,fun w'' ho hg=>?_⟩;rw [Zfz] at ho;exact ⟨mb,⟨fun _=>⟨e,h1,Y7 h2 hg.size,_,by have:(false).toNat=0:=rfl; have:(true).toNat=1:=rfl; omega,ho⟩,(fun h=>by cases h),hm.2.2.1,(fun h=>by cases h)⟩,hc.keep hr hB hg.size hg.os hg.tape hg.output (fun x hx hn=>hg.block x hx (fun e=>hn (by cases e; rfl))) h1 (.inl rfl),hr,hB,Y4 hs hg.size⟩
theorem UnSt.move (h:UnSt w0 rb B d us r k true true true true false b7 b11 b12 v15 v16 v18 v22 v23 w'):UnSt w0 rb B d us r k true true true true true b7 b11 b12 v15 v15 v18 v22 v23 w':=by
 obtain ⟨mb,hm,hc,hr,hB,hs⟩:=h;exact ⟨mb,⟨hm.1,fun _=>⟨(hm.1 rfl).1,rfl,rfl,rfl,rfl⟩,hm.2.2.1,hm.2.2.2⟩,hc,hr,hB,hs⟩
theorem UnSt.look (h:UnSt w0 rb B d us r k b1 b2 b3 b4 true false b11 b12 v15 v16 v18 v22 v23 w'):(∃ mb n,v16=.map (some mb)∧w'.ownsMap (H:=Unit) Tryz.prog 9 (plainElem Tryz.prog 3) mb n (litD [(Z46,32),(Z12,33),(Z1a,34)]))∧UnSt w0 rb B d us r k b1 b2 b3 b4 true true b11 b12 v15 v16 (.int .i64 (32 + (k:Int))) v22 v23 w':=by
 obtain ⟨mb,hm,hc,hr,hB,hs⟩:=h;obtain ⟨e,rfl,rfl,rfl,rfl⟩:=hm.2.1 rfl;obtain ⟨e1,h1,h2,n,h4,h5⟩:=hm.1 rfl;exact ⟨⟨mb,n,e,h5⟩,mb,⟨hm.1,hm.2.1,fun _=>rfl,hm.2.2.2⟩,hc,hr,hB,hs⟩
theorem UnSt.pre (h:UnSt w0 rb B d us r k b1 b2 b3 b4 b5 b7 false b12 v15 v16 v18 v22 v23 w'):Pre w' rb B d us∧RFr w0 w' rb:=by
 obtain ⟨mb,hm,hc,hr,hB,hs⟩:=h;exact ⟨(hc.1 rfl).1,(hc.1 rfl).2.1⟩
theorem UnSt.call (h:UnSt w0 rb B d us r k b1 b2 b3 b4 b5 b7 false b12 v15 v16 v18 v22 v23 w') {a:ATree} {t:Tree} {ts':List Tok} (hr:r=.ok (t,ts')) (G:Got w' B w'' a t) (R:Rd w'' rb ts' d) (F:RFr w' w'' rb) :
 UnSt w0 rb B d us r k b1 b2 b3 b4 b5 b7 true b12 v15 v16 v18 (.pointer (some ⟨a.b,0,none⟩)) v23 w'':=by
 obtain ⟨mb,hm,hc,hrb,hB,hs⟩:=h;obtain ⟨P1,F1,rfl⟩:=hc.1 rfl;refine ⟨mb,⟨fun hp=>?_,hm.2.1,hm.2.2.1,hm.2.2.2⟩,⟨(fun h=>by cases h),fun _=>⟨a,t,ts',hr,rfl,G.pre F1,R,F1.trans F,fun hp=>?_,(fun h=>by cases h)⟩⟩,hrb,hB,Y4 hs F.size⟩
 ·obtain ⟨e,h1,h2,n,h4,h5⟩:=hm.1 hp;have:=P1.rd.rlt;have hbb:w''.heap[mb]?=w'.heap[mb]?:=F.block mb h2 (by omega);refine ⟨e,h1,Y7 h2 F.size,n,h4,?_⟩;obtain ⟨es,clock,hb,hx⟩:=h5;exact ⟨es,clock,hbb.trans hb,hx⟩
 ·obtain ⟨e,h1,h2,_⟩:=hm.1 hp;intro hx;have:=(G.new mb hx).1;omega
theorem UnSt.ptr (h:UnSt w0 rb B d us r k b1 b2 b3 b4 b5 b7 true b12 v15 v16 v18 v22 v23 w'):∃ pb,v22=.pointer (some ⟨pb,0,none⟩):=by
 obtain ⟨mb,hm,hc,hrb,hB,hs⟩:=h;obtain ⟨a,t,ts',e1,e2,_⟩:=hc.2 rfl;exact ⟨_,e2⟩
theorem UnSt.box (h:UnSt w0 rb B d us r k b1 b2 b3 b4 b5 b7 true false v15 v16 v18 v22 v23 w'):UnSt w0 rb B d us r k b1 b2 b3 b4 b5 b7 true true v15 v16 v18 v22 (.slice (some ⟨w'.heap.size,0,none⟩) 1 1) (w'.alloc (.cells #[v22] 22)):=by
 obtain ⟨mb,hm,hc,hrb,hB,hs⟩:=h;have hal:Below w'.heap.size w' (w'.alloc (.cells #[v22] 22)):=(Y2 _ _).alloc (Y0 _) _;obtain ⟨a,t,ts',e1,rfl,G,R,F,hn,_⟩:=hc.2 rfl;refine ⟨mb,⟨fun hp=>?_,hm.2.1,hm.2.2.1,hm.2.2.2⟩,⟨(fun h=>by cases h),fun _=>⟨a,t,ts',e1,rfl,G.rfr hrb (RFr.below hal),R.below hal,F.trans (RFr.below hal),hn,fun _=>⟨w'.heap.size,rfl,fun hp=>?_,fun hx=>?_,hs,heap_alloc_new w' _⟩⟩⟩,hrb,hB,Y4 hs hal.size⟩
 ·obtain ⟨e,h1,h2,n,h4,h5⟩:=hm.1 hp;have hbb:=hal.block mb h2;refine ⟨e,h1,Y7 h2 hal.size,n,h4,?_⟩;obtain ⟨es,clock,hb,hx⟩:=h5;exact ⟨es,clock,hbb.trans hb,hx⟩
 ·obtain ⟨e,h1,h2,_⟩:=hm.1 hp;omega
 ·have:=(G.new _ hx).2;omega
theorem UnSt.fin (h:UnSt w0 rb B d us r k b1 b2 b3 b4 b5 true true true v15 v16 v18 v22 v23 w'):∃ (a:ATree) (t:Tree) (ts':List Tok) (g:Nat),r=.ok (t,ts')∧v18=.int .i64 (32 + (k:Int))∧v23=.slice (some ⟨g,0,none⟩) 1 1∧RFr w0 w' rb∧Rd w' rb ts' d ∧
 Got w0 B (w'.alloc (.cells #[.int .i64 (32 + (k:Int)),.string ⟨#[]⟩,.int .i64 0,.slice (some ⟨g,0,none⟩) 1 1] 37)) (.mk w'.heap.size (.slice (some ⟨g,0,none⟩) 1 1) (32 + (k:Int)) ⟨#[]⟩ 0 [a]) (.mk (32 + (k:Int)) ⟨#[]⟩ 0 [t]):=by
 obtain ⟨mb,hm,hc,hrb,hB,hs⟩:=h;obtain ⟨a,t,ts',e1,rfl,G,R,F,hn,h2⟩:=hc.2 rfl;obtain ⟨g,rfl,hgm,hga,hg0,hgb⟩:=h2 rfl;have hal:Below w'.heap.size w' (w'.alloc (.cells #[.int .i64 (32 + (k:Int)),.string ⟨#[]⟩,.int .i64 0,.slice (some ⟨g,0,none⟩) 1 1] 37)):=(Y2 _ _).alloc (Y0 _) _;have hgl:g < w'.heap.size:=(Y1.1 hgb).1;refine ⟨a,t,ts',g,e1,hm.2.2.1 rfl,rfl,F,R,⟨by simp [ATree.tree,Zp,G.tree],?_,?_,?_⟩⟩
 ·refine TreeAt.new (Y4 hB hs) ⟨by simp,.inr ⟨g,1,#[a.ptr],rfl,by omega,hgb,by simp,by unfold maxLen; omega,by simp,by simp⟩⟩ fun x hx=>?_;simp only [List.mem_singleton] at hx;subst hx;exact G.at'
 ·simp only [ATree.blocks,Value.ownBlock,Option.toList,Zs,List.append_nil,List.nodup_cons,List.cons_append,List.nil_append,List.mem_cons,not_or];exact ⟨⟨by omega,fun hx=>by have:=(G.new _ hx).2; omega⟩,hga,G.nodup⟩
 ·intro x hx;simp only [ATree.blocks, Value.ownBlock, Option.toList, Zs, List.append_nil, List.cons_append, List.nil_append, List.mem_cons] at hx;have := hal.size;rcases hx with rfl | rfl | hx;·exact ⟨hs, by simp⟩
  ·exact ⟨hg0,by omega⟩
  ·have:=G.new x hx; omega
end
def Zg0 (w0:World) (rb B d:Nat) (us:List Tok) (r:Except (Int×Nat) (Tree×List Tok)) (k:Nat) (FR:Value→Value→Value→Value→Value→Act) (m:Array Bool) (a':Act) (w':World):Prop:=
 ∃ v15 v16 v18 v22 v23,a'=FR v15 v16 v18 v22 v23∧UnSt w0 rb B d us r k (m.getD 1 false) (m.getD 2 false) (m.getD 3 false) (m.getD 4 false) (m.getD 5 false) (m.getD 7 false) (m.getD 11 false) (m.getD 12 false) v15 v16 v18 v22 v23 w'
theorem Zb4 (f:Nat) (hU:Says 108 rArg .unary f) (hPo:Says 110 rArg .postfix_ f):Says 108 rArg .unary (f + 1):=by
 intro w rb B d ts r hP hp;have hw:(if Z0i ts=0 then Z0 f .postfix_ d ts else Zh (Zj d ts.tail (Z0 f .unary (d + 1) ts.tail)) fun x ts'=>okT (.mk (Z0i ts) ByteArray.empty 0 [x]) ts')=some r:=hp;have HP:=lh hP;have HU:=lh hU;have HPO:=lh hPo;have H1:=lh hw;obtain ⟨ub,hub⟩:=zX w.heap.size
 obtain ⟨w1,hw1⟩:=zX (w.alloc (.cells #[.string Z46,.string Z12,.string Z1a] 9))
 have hB1:Below w.heap.size w w1:=by rw [hw1]; exact (Y2 _ _).alloc (Y0 _) _
 have hub1:ub < w1.heap.size:=by rw [hw1,hub]; simp
 have hcs:∀ (i:Nat) (x:ByteArray),unL[i]?=some x→w1.cell? ⟨ub,i,none⟩=some (.string x):=by
  intro i x hx;have hb:w1.heap[ub]?=some (.cells #[.string Z46,.string Z12,.string Z1a] 9 (0,0)):=by rw [hw1,hub]; exact heap_alloc_new w _
  match i,hx with
  | 0, hx => obtain rfl : Z46 = x := by simpa [unL] using hx
             simp [World.cell?,hb]
  | 1, hx => obtain rfl : Z12 = x := by simpa [unL] using hx
             simp [World.cell?,hb]
  | 2, hx => obtain rfl : Z1a = x := by simpa [unL] using hx
             simp [World.cell?,hb]
  | i + 3,hx=>simp [unL] at hx
 have HCS:=lh hcs;have B1:=lh hB1;unfold Z46 Z12 Z1a at hw1;have hmf:∀ (fn:Fn) (first cap:Array Value) (w:World),(Instr.makeFunc fn first cap).run Tryz.prog w=.ok (.func fn first cap) w:=fun _ _ _ _=>rfl;have HMF:=lh hmf;clear hP hp hw hU hPo hcs hB1 hmf;unfold rArg;go_enter Tryz.func108,Tryz.ntmps108
 go_wp2_with fail
 rw [← hw1,← hub];have HUB:=lh hub;have HW1:=lh hw1;clear hw1 hub;go_loopw [7] (fun i wr=>∃ k:Nat,k≤3∧i=.int .i64 k∧Hid (∀ (j:Nat) (y:ByteArray),j < k→unL[j]?=some y→isT y ts=false)∧Hid (Below w1.heap.size w1 wr)) (fun i _=>3 - (intOf i).toNat)
 case atStart=>exact ⟨0,by omega,rfl,lh (fun j y hj=>by omega),lh (Y2 _ _)⟩
 case round=>
  obtain ⟨k,hk,rfl,NO,BW⟩:=hrel;have P2:=(HP.out.below B1.out).below BW.out;have F2:=lh ((RFr.below (rb:=rb) B1.out).trans (RFr.below BW.out));by_cases hkn:k < 3
  ·obtain ⟨x, hx⟩ : ∃ x, unL[k]? = some x := ⟨_, Y6 hkn⟩
   have cx:=(BW.out.cell (p:=⟨ub,k,none⟩) hub1).trans (HCS.out k x hx);have HX:=lh hx;clear hx;by_cases hs:isT x ts=true
   ·have hus:=Zfm HX.out hs (fun j y hj hy=>NO.out j y hj hy);have HT:=lh (Z05 wr rb ts d x P2.rd hs);have HPO:=Zg hs;have P2:=lh P2;have US:=lh hus;have hw2:Zh (Zj d ts.tail (Z0 f .unary (d + 1) ts.tail)) (fun x ts'=>okT (.mk (Z0i ts) ByteArray.empty 0 [x]) ts')=some r:=by
     have h:=H1.out;rw [Y3 (by rw [hus.1]; omega)] at h;exact h
    rw [hus.1] at hw2;have H2:=lh hw2;clear hs hus hw2;go_wp2_with fail
    refine HT.out.mono ?_;rintro e w2 ⟨rfl,hR2,hF2⟩;have P3:=P2.out.tail hR2 hF2;have F3:=F2.out.trans hF2;have P3:=lh P3;have F3:=lh F3;clear hR2 hF2 HT;go_wp2_with fail
    obtain ⟨r',hr',HE,HK⟩:∃ r',Zj d ts.tail (Z0 f .unary (d + 1) ts.tail)=some r'∧Hid (∀ e,r'=.error e→r=.error e)∧Hid (∀ t vs,r'=.ok (t,vs)→r=.ok (.mk (32 + (k:Int)) ByteArray.empty 0 [t],vs)):=by
     rcases Zb H2.out with ⟨e,he,rfl⟩ | ⟨t,vs,he,h2⟩;·exact ⟨_,he,lh (fun e' h=>by cases h; rfl),lh (fun t vs h=>by cases h)⟩
     ·exact ⟨_,he,lh (fun e' h=>by cases h),lh (fun t' vs' h=>by cases h; exact (Yc h2).symm)⟩
    have HR':=lh hr';have hmm:=@run_makeMap Tryz.prog;clear hr'
    refine Z87 [0,6,8,9,10] [1,2,3,4,5,7,11,12] [13,14] (by kernel_rfl) (by kernel_rfl) (fun _ _ d _ _ h=>by cases d <;> exact h)
     (Zg0 w2 rb B d ts.tail r' k fun v15 v16 v18 v22 v23=>{ tmps:=#[.pointer (some ⟨rb,0,none⟩),undef,u2,undef,.string x,.slice (some ⟨ub,0,none⟩) 3 3,.int .i64 3,.int .i64 k,.bool true,.pointer (some ⟨ub,k,none⟩),.string x,.pointer (some ⟨rb,0,none⟩),.string x,.bool true,.pointer (some ⟨rb,0,none⟩),v15,v16,.string x,v18,.pointer (some ⟨rb,0,none⟩),.pointer (some ⟨rb,0,none⟩),.func (.func 108) #[.pointer (some ⟨rb,0,none⟩)] #[],v22,v23,u24,u25,undef,undef],defers:=[] }) ?_ ?_ ?_
    ·have ST:Hid (∀ v15 v16 v18 v22 v23,UnSt w2 rb B d ts.tail r' k false false false false false false false false v15 v16 v18 v22 v23 w2.drew):=lh fun _ _ _ _ _=>
      ⟨0,⟨(fun h=>by cases h),(fun h=>by cases h),(fun h=>by cases h),fun _=>⟨rfl,rfl,rfl⟩⟩,⟨fun _=>⟨P3.out.below (Y2 _ _).drew,(RFr.refl w2 rb).drew,rfl⟩,(fun h=>by cases h)⟩,P3.out.lt,P3.out.le,Y0 _⟩
     simp only [List.filterMap_cons,List.filterMap_nil,List.getElem?_toArray,List.getElem?_cons_zero,List.getElem?_cons_succ];have hmf:=HMF.out;iterate 5 (refine Zb3 ?_ (by rfl) (fun w' _=>?_) ?_; rotate_left; (go_simp; first | done | with_reducible rfl); simp only [Act.put,zA,zB,zC])
     exact ⟨_,_,_,_,_,rfl,ST.out _ _ _ _ _⟩
    ·intro m i a' w3 hm hi _ h0 hd hI;obtain ⟨v15,v16,v18,v22,v23,rfl,hS⟩:=hI;have HS:=lh hS;clear hS;have hm:m.size=15:=hm;simp only [List.mem_cons,List.not_mem_nil,or_false] at hi;have n5':∀ j,(j=2∨j=3∨j=4)→m.getD j false=false→m.getD 5 false=false:=fun j hj hf=>by
      cases h5:m.getD 5 false with
      | false=>rfl
      | true =>
        obtain ⟨mb,hm,_⟩:=HS.out;obtain ⟨_,_,e2,e3,e4⟩:=hm.2.1 h5;rcases hj with rfl | rfl | rfl;·rw [hf] at e2; cases e2
        ·rw [hf] at e3; cases e3
        ·rw [hf] at e4; cases e4
     rcases hi with rfl | rfl | rfl | rfl | rfl | rfl | rfl | rfl
     ·have hS := HS.out;rw [h0] at hS;refine Z3o (by rfl) ?_;go_simp
      refine ⟨_,_,_,_,_,rfl,?_⟩;simp only [Z1r (show 1 < m.size by rw [hm]; decide)];simp only [Nat.reduceEqDiff,if_true,if_false];exact hS.make
     ·have n5 := n5' 2 (.inl rfl) h0;have d1 := hd 1 (by kernel_rfl);have hS := HS.out;rw [d1, h0, n5] at hS;obtain ⟨mb, n, rfl, hn, hown, hK⟩ := hS.ins2;refine Z3o (by rfl) ?_;rw [Y5 (by rfl)];refine Z4h _ _ _ 166 rfl 9 3 Tryz.keyedS Tryz.underlying166 _ mb n _ rfl hown (by unfold maxLen; omega) _ _ _ rfl rfl (Yn Yj (by decide)) _ [] (plainElem_int Yk (by decide)) fun w4 h4 g4 => ?_;refine ⟨_, _, _, _, _, rfl, ?_⟩;simp only [Z1r (show 2 < m.size by rw [hm]; decide)];simp only [Nat.reduceEqDiff, if_true, if_false];rw [d1, n5]
      exact hK w4 h4 g4
     ·have n5 := n5' 3 (.inr (.inl rfl)) h0;have d1 := hd 1 (by kernel_rfl);have hS := HS.out;rw [d1, h0, n5] at hS;obtain ⟨mb, n, rfl, hn, hown, hK⟩ := hS.ins3;refine Z3o (by rfl) ?_;rw [Y5 (by rfl)];refine Z4h _ _ _ 166 rfl 9 3 Tryz.keyedS Tryz.underlying166 _ mb n _ rfl hown (by unfold maxLen; omega) _ _ _ rfl rfl (Yn Yj (by decide)) _ [] (plainElem_int Yk (by decide)) fun w4 h4 g4 => ?_;refine ⟨_, _, _, _, _, rfl, ?_⟩;simp only [Z1r (show 3 < m.size by rw [hm]; decide)];simp only [Nat.reduceEqDiff, if_true, if_false];rw [d1, n5]
      exact hK w4 h4 g4
     ·have n5 := n5' 4 (.inr (.inr rfl)) h0;have d1 := hd 1 (by kernel_rfl);have hS := HS.out;rw [d1, h0, n5] at hS;obtain ⟨mb, n, rfl, hn, hown, hK⟩ := hS.ins4;refine Z3o (by rfl) ?_;rw [Y5 (by rfl)];refine Z4h _ _ _ 166 rfl 9 3 Tryz.keyedS Tryz.underlying166 _ mb n _ rfl hown (by unfold maxLen; omega) _ _ _ rfl rfl (Yn Yj (by decide)) _ [] (plainElem_int Yk (by decide)) fun w4 h4 g4 => ?_;refine ⟨_, _, _, _, _, rfl, ?_⟩;simp only [Z1r (show 4 < m.size by rw [hm]; decide)];simp only [Nat.reduceEqDiff, if_true, if_false];rw [d1, n5]
      exact hK w4 h4 g4
     ·have d1 := hd 1 (by kernel_rfl);have d2 := hd 2 (by kernel_rfl);have d3 := hd 3 (by kernel_rfl);have d4 := hd 4 (by kernel_rfl);have hS := HS.out;rw [d1, d2, d3, d4, h0] at hS;refine Z3o (by rfl) ?_;go_simp
      refine ⟨_,_,_,_,_,rfl,?_⟩;simp only [Z1r (show 5 < m.size by rw [hm]; decide)];simp only [Nat.reduceEqDiff,if_true,if_false];rw [d1,d2,d3,d4];exact hS.move
     ·have d5:=hd 5 (by kernel_rfl);have hS:=HS.out;rw [d5,h0] at hS;obtain ⟨⟨mb,n,rfl,hown⟩,hK⟩:=hS.look;refine Z3o (by rfl) ?_;rw [Y5 (by rfl)];refine Z5x _ _ 166 rfl 9 3 .i64 Tryz.keyedS Tryz.underlying166 Yk (Tryz.zeroI _) mb n _ rfl hown _ _ rfl (Yn Yj US.out.2.1) fun c hc=>?_;obtain rfl:32 + (k:Int)=c:=by
       have e:=US.out.2.2.symm.trans hc;simpa using e
      refine ⟨_,_,_,_,_,rfl,?_⟩;simp only [Z1r (show 7 < m.size by rw [hm]; decide)];simp only [Nat.reduceEqDiff,if_true,if_false];rw [d5];exact hK
     ·have hS := HS.out;rw [h0] at hS;obtain ⟨P4, F4⟩ := hS.pre;have HC := Z8x w3 rb B ts.tail d _ r' P4.rd (by have := P4.deep; omega) P4.lt HR'.out fun hd h1 w4 hR hs => HU.out w4 rb B (d + 1) ts.tail r' ⟨hR, hd, P4.lt, by have := P4.le; omega, P4.few⟩ h1;have HC := lh HC;have F4 := lh F4;have HS2 := lh hS;clear P4 hS;refine Z3o (by rfl) ?_;go_simp
      refine HC.out.mono ?_;rcases r' with ⟨c,p⟩ | ⟨t,ts'⟩
      ·rintro e w4 ⟨⟨b,rfl,h1,h2⟩,hF⟩;obtain rfl:=HE.out _ rfl;exact ⟨rfl,Zo.pre (F3.out.trans F4.out) (r:=.error (c,p)) ⟨⟨b,rfl,h1,h2⟩,hF⟩⟩
      ·rintro e w4 ⟨a,rfl,hG,hR,hF⟩;refine ⟨_,_,_,_,_,rfl,?_⟩;simp only [Z1r (show 11 < m.size by rw [hm]; decide)];simp only [Nat.reduceEqDiff,if_true,if_false];exact HS2.out.call rfl hG hR hF
     ·have d11 := hd 11 (by kernel_rfl);have hS := HS.out;rw [d11, h0] at hS;obtain ⟨pb, rfl⟩ := hS.ptr;refine Z3o (by rfl) ?_;go_simp
      refine ⟨_,_,_,_,_,rfl,?_⟩;simp only [Z1r (show 12 < m.size by rw [hm]; decide)];simp only [Nat.reduceEqDiff,if_true,if_false];rw [d11];exact hS.box
    ·rintro m a' w3 hall ⟨v15, v16, v18, v22, v23, rfl, hS⟩;rw [hall 7 (by decide), hall 11 (by decide), hall 12 (by decide)] at hS;obtain ⟨a, t, ts', g, e1, rfl, rfl, hF, hR, hG⟩ := hS.fin;simp only [List.filterMap_cons, List.filterMap_nil, List.getElem?_toArray, List.getElem?_cons_zero, List.getElem?_cons_succ];obtain rfl := HK.out _ _ e1;have HG := lh hG;have HR := lh hR;have HF := lh (F3.out.trans hF);clear hG hR hF hS e1 hall;go_wp2_with fail
     refine (Zw w3 rb (32 + (k:Int)) ⟨#[]⟩ (some ⟨g,0,none⟩) 1 1).mono ?_;rintro e w7 ⟨rfl,hw7⟩;have hal:Below w3.heap.size w3 w7:=by rw [hw7]; exact (Y2 _ _).alloc (Y0 _) _
     have HW7:=lh hw7;have HAL:=lh hal;clear hw7 hal;go_wp2;go_ret;refine ⟨_,?pt,(by rw [HW7.out]; exact HG.out.pre F3.out),HR.out.below HAL.out,HF.out.trans (RFr.below HAL.out)⟩;case pt=>simp [ATree.b]
   ·have hs' : isT x ts = false := by simpa using hs
    have HT:=lh (Z0m wr rb ts d x P2.rd hs');have HS:=lh hs';have P2:=lh P2;clear hs hs';go_wp2_with fail
    refine HT.out.mono ?_;rintro e w2 ⟨rfl,hB2⟩;have B2:=lh hB2;clear hB2;go_wp2;go_roundw
    case rel=>exact ⟨k + 1,by omega,by go_num,lh (fun j y hj hy=>by
     by_cases e:j=k;·subst e; obtain rfl:=Yc (HX.out.symm.trans hy); exact HS.out
     ·exact NO.out j y (by omega) hy),lh (BW.out.trans (B2.out.mono BW.out.size))⟩
    case measure=>simp [intOf]; omega
  ·have h3 : k = 3 := by omega
   subst h3;have hn:=Zfn fun i y hi hy=>NO.out i y hi hy;have hq:=H1.out;rw [Y5 hn] at hq;have HC:=HPO.out wr rb B d ts r P2 hq;unfold rArg at HC;have HC:=lh HC;clear hn hq P2;go_wp2_with fail
   refine HC.out.mono ?_;rcases r with ⟨c,p⟩ | ⟨t,ts'⟩
   ·rintro e w2 ⟨⟨b,rfl,h1,h2⟩,hF⟩;exact ⟨rfl,Zo.pre F2.out (r:=.error (c,p)) ⟨⟨b,rfl,h1,h2⟩,hF⟩⟩
   ·rintro e w2 ⟨a,rfl,hG,hR,hF⟩;have HG:=lh (hG.pre F2.out);have HR:=lh hR;have HF:=lh (F2.out.trans hF);clear hG hR hF HC;go_wp2;go_ret;exact ⟨a,rfl,HG.out,HR.out,HF.out⟩
end Go.Proofs.YtedopiahfejdfaaGreatDoor
