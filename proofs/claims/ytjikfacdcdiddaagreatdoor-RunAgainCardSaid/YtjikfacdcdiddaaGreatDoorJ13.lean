/- Package tree: unary. -/
import Derived.Test.YtjikfacdcdiddaaGreatDoorJ12
set_option linter.unusedSimpArgs false
set_option maxRecDepth 100000
set_option maxHeartbeats 20000000
set_option linter.unusedVariables false
namespace Go.Proofs.YtjikfacdcdiddaaGreatDoor
open Go Go.RowKit Go.Maps
def NY:List ByteArray:=[Q',Sa,Su]
theorem Zrr{ts:List Tok}(h:∀(i:Nat) (x:ByteArray),i<3->NY[i]?=some x->aa x ts=false):K6 ts=0:=by
 have g:=h 0 Q' O' rfl;have m:=h 1 Sa O' rfl;have o:=h 2 Su O' rfl;simp[K6,g,m,o]
theorem Zq2 {ts:List Tok} {k:Nat} {x:ByteArray} (hk:NY[k]?=some x) (hx:aa x ts=true) (h:∀ (i:Nat) (y:ByteArray),i < k→NY[i]?=some y→aa y ts=false):K6 ts=32 + k∧x.size≤maxLen ∧
 (SR [(Q',32),(Sa,33),(Su,34)]).atKey (.string x.data.toList) (.lit (.int .i64 0))=.lit (.int .i64 (32+k)):=by
 match k with
 | 0 => obtain rfl : Q' = x := by simpa [NY] using hk
        exact⟨by simp[K6,hx],by decide,by kernel_rfl⟩
 | 1 => obtain rfl : Sa = x := by simpa [NY] using hk
        have g:=h 0 Q' O' rfl;exact⟨by simp[K6,hx,g],by decide,by kernel_rfl⟩
 | 2 => obtain rfl : Su = x := by simpa [NY] using hk
        have g:=h 0 Q' O' rfl;have m:=h 1 Sa O' rfl;exact⟨by simp[K6,hx,g,m],by decide,by kernel_rfl⟩
 |k+3=>simp[NY]at hk
theorem UK{P:Program}{ah:Array Oper}{Q:Exit->Act->World->Prop}{i:Nat}{o:Oper}{K:Act->World->Prop}{a:Act}{w:World}(hi:ah[i]?=some o)
 (h:if Region.wanted o (yielded ah a.tmps)=true then o.wp P a w K Q else K (a.put o.dst undef) w):wpOp P ah Q i K a w:=by
 unfold wpOp;simp only[hi];split;·rename_i g;rw[Y5 g]at h;exact .inl h
 .rename_i g;rw[Y3 g]at h;exact h
theorem Z7d{H:Type}{P:Program}{w:World}{o:Oper}{a:Act}{K:Act->World->Prop}{Q:Exit->Act->World->Prop}
 (m x v:Operand)(t:TypeId)(u:o.op=Op.insert t m x v)
 (k e:TypeId)(y:Keyed P k)(ht:P.underlying t=some (.map k e))(R:Value->Option (DataW H×List MemPlace))(b n:Nat)(D:DataW H)
 (E:a.eval m=.map (some b))(F:w.ownsMap P k R b n D)(hn:n<maxLen)(g val:Value)(p:Lit)(hx:a.eval x=g)(G:a.eval v=val)(I:keyOf P k g=some p)
 (d:DataW H)(ps:List MemPlace)(J:R val=some (d,ps))
 (O:∀w',w'.ownsMap P k R b (n+1) (D.put p d)->w.grownBy w' (some b)->K (a.put o.dst undef) w'):o.wp P a w K Q:=by
 obtain⟨w',U,X,Y⟩:=F.update y ht hn I J;unfold Oper.wp;simp[execOp,u,E,hx,G,U,Result.andThen];exact O w' X Y
theorem Z9q{H:Type}{P:Program}{w:World}{o:Oper}{a:Act}{K:Act->World->Prop}{Q:Exit->Act->World->Prop}
 (m x:Operand)(t:TypeId)(u:o.op=Op.lookup t m x false)
 (k e:TypeId)(q:IntKind)(y:Keyed P k)(ht:P.underlying t=some (.map k e))(he:P.underlying e=some (.int q))(E:(zeroValue e).run P w=.ok (.int q 0) w)(b n:Nat)(D:DataW H)
 (F:a.eval m=.map (some b))(G:w.ownsMap P k (plainElem P e) b n D)(g:Value)(p:Lit)(hx:a.eval x=g)(I:keyOf P k g=some p)
 (J:∀c:Int,D.atKey p (.lit (.int q 0))=.lit (.int q c)->K (a.put o.dst (.int q c)) w):o.wp P a w K Q:=by
 obtain⟨c,O,U,X⟩:=G.lookup_int y ht he E I;unfold Oper.wp;simp[execOp,u,F,hx,O,Result.andThen];exact J c U
def Sl(b2 b3 b4:Bool):DataW Unit:=SR ((if b2 then[(Q',32)]else[])++(if b3 then[(Sa,33)]else[])++(if b4 then[(Su,34)]else[]))
theorem Zxd(b3 b4:Bool):(Sl false b3 b4).put (.string [33]) (.lit (.int .i64 32))=Sl true b3 b4:=by cases b3<;>cases b4<;>kernel_rfl
theorem Zxl(b2 b4:Bool):(Sl b2 false b4).put (.string [116,121,112,101,111,102]) (.lit (.int .i64 33))=Sl b2 true b4:=by cases b2<;>cases b4<;>kernel_rfl
theorem Zxe(b2 b3:Bool):(Sl b2 b3 false).put (.string [100,101,108,101,116,101]) (.lit (.int .i64 34))=Sl b2 b3 true:=by cases b2<;>cases b3<;>kernel_rfl
def Zxh(w0:World)(k:Nat)(b1 b2 b3 b4 b5 b7:Bool)(fP gG gH:Value)(w':World)(mb:Nat):Prop:=
 (b1 = true → fP = .map (some mb) ∧ w0.heap.size ≤ mb ∧ mb < w'.heap.size ∧ ∃ n, n ≤ b2.toNat + b3.toNat + b4.toNat ∧ w'.ownsMap (H := Unit) Tryz.prog 9 (plainElem Tryz.prog 3) mb n (Sl b2 b3 b4)) ∧ (b5 = true → gG = .map (some mb) ∧ b1 = true ∧ b2 = true ∧ b3 = true ∧ b4 = true) ∧ (b7 = true → gH = (vI (32 + (k : Int)))) ∧
  (b1=false->b2=false∧b3=false∧b4=false)
def UY(w0:World)(rb B d:Nat)(us:List Tok)(r:Except (Int×Nat) (Tree×List Tok))(b1 jR gI:Bool)(ft fF:Value)(w':World)(mb:Nat):Prop:=
 (jR = false → Pre w' rb B d us ∧ RFr w0 w' rb ∧ gI = false) ∧ (jR = true → ∃ (a : ATree) (t : Tree) (ts' : List Tok), r = .ok (t, ts') ∧ ft = (vP a.b) ∧ Got w0 B w' a t ∧ Rd w' rb ts' d ∧ RFr w0 w' rb ∧ (b1 = true → mb ∉ a.blocks) ∧
  (gI=true->∃g,fF=.slice (some ⟨g,0,none⟩) 1 1∧(b1=true->g≠mb)∧g∉a.blocks∧w0.heap.size<=g∧w'.heap[g]?=some (.cells #[a.ptr] 22 (0,0))))
def gC(w0:World)(rb B d:Nat)(us:List Tok)(r:Except (Int×Nat) (Tree×List Tok))(k:Nat)(b1 b2 b3 b4 b5 b7 jR gI:Bool)(fP gG gH ft fF:Value)(w':World):Prop:=
 ∃mb,Zxh w0 k b1 b2 b3 b4 b5 b7 fP gG gH w' mb∧UY w0 rb B d us r b1 jR gI ft fF w' mb∧rb<B∧B<=w0.heap.size∧w0.heap.size<=w'.heap.size
section
variable {w0 w' dQ:World}{rb B d k mb:Nat}{us:List Tok}{r:Except (Int×Nat) (Tree×List Tok)}{fP gG gH ft fF:Value}{b1 b2 b3 b4 b5 b7 jR gI:Bool}
theorem UY.keep(h:UY w0 rb B d us r b1 jR gI ft fF w' mb)(hr:rb<B)(hB:B<=w0.heap.size)(hs:w'.heap.size<=dQ.heap.size)(ho:dQ.os=w'.os)(ht:dQ.tape=w'.tape)(J:dQ.output=w'.output)(hb:∀x,x<w'.heap.size->x≠mb->dQ.heap[x]?=w'.heap[x]?)
 {O:Bool}(o:w0.heap.size<=mb)(hp:b1=true∨w'.heap.size<=mb):UY w0 rb B d us r O jR gI ft fF dQ mb:=by
 have u:∀{w0:World},w0.heap.size<=mb->RFr w0 w' rb->RFr w0 dQ rb:=λo h=>⟨ho.trans h.os,ht.trans h.tape,J.trans h.output,Y4 h.size hs,λx hx hn=>(hb x (Y7 hx h.size) O').trans (h.block x hx hn)⟩;refine⟨λhq=>?_,λhq=>?_⟩
 .obtain⟨m,p,U⟩:=h.1 hq;have:=m.rd.rlt;exact⟨⟨m.rd.keep hs λx hx=>hb x O' O',m.deep,m.lt,Y4 m.le hs,m.few⟩,u o p,U⟩
 .obtain⟨a,t,ts',X,Y,G,R,F,hn,p⟩:=h.2 hq;have y:mb∉a.blocks:=by
   rcases hp with hp|hp;·exact hn hp
   .intro hx;have:=(G.new mb hx).2;omega
  have:=R.rlt;refine⟨a,t,ts',X,Y,⟨G.tree,G.at'.keepB λx hx=>hb x (G.new x hx).2 (λe=>y (e▸hx)),G.nodup,λx hx=>⟨(G.new x hx).1,Y7 (G.new x hx).2 hs⟩⟩,R.keep hs λx hx=>hb x O' O',u o F,λ_=>y,λZ=>?_⟩;obtain⟨g,e3,vm,y9,rl,E⟩:=p Z;have cY:g<w'.heap.size:=(Y1.1 E).1;have I:g≠mb:=by
   rcases hp with hp|hp;·exact vm hp
   .omega
  exact⟨g,e3,λ_=>I,y9,rl,(hb g cY I).trans E⟩
theorem UY.any(h:UY w0 rb B d us r b1 jR gI ft fF w' mb)(hp:b1=false)(m:Nat):UY w0 rb B d us r b1 jR gI ft fF w' m:=by
 refine⟨h.1,λhq=>?_⟩;obtain⟨a,t,ts',o,p,G,R,F,hn,u⟩:=h.2 hq;refine⟨a,t,ts',o,p,G,R,F,λh=>(by rw[hp]at h;cases h),λy=>?_⟩;obtain⟨g,E,J,I⟩:=u y;exact⟨g,E,λh=>(by rw[hp]at h;cases h),I⟩
theorem gC.make(h:gC w0 rb B d us r k false b2 b3 b4 b5 b7 jR gI fP gG gH ft fF w'):gC w0 rb B d us r k true b2 b3 b4 b5 b7 jR gI (.map (some w'.heap.size)) gG gH ft fF (w'.alloc (.map #[] 0)):=by
 obtain⟨mb,m,hc,hr,o,hs⟩:=h;obtain⟨rfl,rfl,rfl⟩:=m.2.2.2 rfl;have g:Below w'.heap.size w' (w'.alloc (.map #[] 0)):=(Y2 _ _).alloc (Y0 _) _;refine⟨w'.heap.size,⟨λ_=>⟨rfl,hs,by simp,0,by simp,World.ownsMap_made _ _ _ _⟩,λh=>(by have:=(m.2.1 h).2.1;cases this),m.2.2.1,(λh=>by cases h)⟩,(hc.any rfl w'.heap.size).keep hr o g.size g.os g.tape g.output (λx hx _=>g.block x hx) hs (.inr (Y0 _)),hr,o,Y4 hs g.size⟩
theorem gC.ins2(h:gC w0 rb B d us r k true false b3 b4 false b7 jR gI fP gG gH ft fF w'):∃mb n,fP=.map (some mb)∧n<4∧w'.ownsMap (H:=Unit) Tryz.prog 9 (plainElem Tryz.prog 3) mb n (Sl false b3 b4)∧
 ∀dQ,dQ.ownsMap (H:=Unit) Tryz.prog 9 (plainElem Tryz.prog 3) mb (n+1) ((Sl false b3 b4).put (.string [33]) (.lit (.int .i64 32)))->w'.grownBy dQ (some mb)->gC w0 rb B d us r k true true b3 b4 false b7 jR gI fP gG gH ft fF dQ:=by
 obtain⟨mb,hm,hc,hr,hB,hs⟩:=h;obtain⟨e,h1,h2,n,m,h5⟩:=hm.1 rfl;have g:n<4:=by have:=Bool.toNat_le b3;have:=Bool.toNat_le b4;have:(false).toNat=0:=rfl;omega
 refine⟨mb,n,e,g,h5,λdQ ho hg=>?_⟩;rw[Zxd]at ho;exact Vl
theorem gC.ins3(h:gC w0 rb B d us r k true b2 false b4 false b7 jR gI fP gG gH ft fF w'):∃mb n,fP=.map (some mb)∧n<4∧w'.ownsMap (H:=Unit) Tryz.prog 9 (plainElem Tryz.prog 3) mb n (Sl b2 false b4)∧
 ∀dQ,dQ.ownsMap (H:=Unit) Tryz.prog 9 (plainElem Tryz.prog 3) mb (n+1) ((Sl b2 false b4).put (.string [116,121,112,101,111,102]) (.lit (.int .i64 33)))->w'.grownBy dQ (some mb)->gC w0 rb B d us r k true b2 true b4 false b7 jR gI fP gG gH ft fF dQ:=by
 obtain⟨mb,hm,hc,hr,hB,hs⟩:=h;obtain⟨e,h1,h2,n,m,h5⟩:=hm.1 rfl;have g:n<4:=by have:=Bool.toNat_le b2;have:=Bool.toNat_le b4;have:(false).toNat=0:=rfl;omega
 refine⟨mb,n,e,g,h5,λdQ ho hg=>?_⟩;rw[Zxl]at ho;exact Vl
theorem gC.ins4(h:gC w0 rb B d us r k true b2 b3 false false b7 jR gI fP gG gH ft fF w'):∃mb n,fP=.map (some mb)∧n<4∧w'.ownsMap (H:=Unit) Tryz.prog 9 (plainElem Tryz.prog 3) mb n (Sl b2 b3 false)∧
 ∀dQ,dQ.ownsMap (H:=Unit) Tryz.prog 9 (plainElem Tryz.prog 3) mb (n+1) ((Sl b2 b3 false).put (.string [100,101,108,101,116,101]) (.lit (.int .i64 34)))->w'.grownBy dQ (some mb)->gC w0 rb B d us r k true b2 b3 true false b7 jR gI fP gG gH ft fF dQ:=by
 obtain⟨mb,hm,hc,hr,hB,hs⟩:=h;obtain⟨e,h1,h2,n,m,h5⟩:=hm.1 rfl;have g:n<4:=by have:=Bool.toNat_le b2;have:=Bool.toNat_le b3;have:(false).toNat=0:=rfl;omega
 refine⟨mb,n,e,g,h5,λdQ ho hg=>?_⟩;rw[Zxe]at ho;exact Vl
theorem gC.move(h:gC w0 rb B d us r k true true true true false b7 jR gI fP gG gH ft fF w'):gC w0 rb B d us r k true true true true true b7 jR gI fP fP gH ft fF w':=by
 obtain⟨mb,g,hc,hr,m,hs⟩:=h;exact⟨mb,⟨g.1,λ_=>⟨(g.1 rfl).1,rfl,rfl,rfl,rfl⟩,g.2.2.1,g.2.2.2⟩,hc,hr,m,hs⟩
theorem gC.look(h:gC w0 rb B d us r k b1 b2 b3 b4 true false jR gI fP gG gH ft fF w'):(∃mb n,gG=.map (some mb)∧w'.ownsMap (H:=Unit) Tryz.prog 9 (plainElem Tryz.prog 3) mb n (SR [(Q',32),(Sa,33),(Su,34)]))∧gC w0 rb B d us r k b1 b2 b3 b4 true true jR gI fP gG (vI (32+(k:Int))) ft fF w':=by
 obtain⟨mb,g,hc,hr,m,hs⟩:=h;obtain⟨e,rfl,rfl,rfl,rfl⟩:=g.2.1 rfl;obtain⟨o,p,u,n,y,h5⟩:=g.1 rfl;exact⟨⟨mb,n,e,h5⟩,mb,⟨g.1,g.2.1,λ_=>rfl,g.2.2.2⟩,hc,hr,m,hs⟩
theorem gC.pre(h:gC w0 rb B d us r k b1 b2 b3 b4 b5 b7 false gI fP gG gH ft fF w'):Pre w' rb B d us∧RFr w0 w' rb:=by
 obtain⟨mb,g,hc,hr,m,hs⟩:=h;exact⟨(hc.1 rfl).1,(hc.1 rfl).2.1⟩
theorem gC.call(h:gC w0 rb B d us r k b1 b2 b3 b4 b5 b7 false gI fP gG gH ft fF w'){a:ATree}{t:Tree}{ts':List Tok}(hr:r=.ok (t,ts'))(G:Got w' B dQ a t)(R:Rd dQ rb ts' d)(F:RFr w' dQ rb) :
 gC w0 rb B d us r k b1 b2 b3 b4 b5 b7 true gI fP gG gH (vP a.b) fF dQ:=by
 obtain⟨mb,g,hc,u,y,hs⟩:=h;obtain⟨E,o,rfl⟩:=hc.1 rfl;refine⟨mb,⟨λhp=>?_,g.2.1,g.2.2.1,g.2.2.2⟩,⟨(λh=>by cases h),λ_=>⟨a,t,ts',hr,rfl,G.pre o,R,o.trans F,λhp=>?_,(λh=>by cases h)⟩⟩,u,y,Y4 hs F.size⟩
 .obtain⟨e,p,m,n,I,h5⟩:=g.1 hp;have:=E.rd.rlt;have J:dQ.heap[mb]?=w'.heap[mb]?:=F.block mb m O';refine⟨e,p,Y7 m F.size,n,I,?_⟩;obtain⟨O,U,hb,hx⟩:=h5;exact⟨O,U,J.trans hb,hx⟩
 .obtain⟨e,p,m,_⟩:=g.1 hp;intro hx;have:=(G.new mb hx).1;omega
theorem gC.ptr(h:gC w0 rb B d us r k b1 b2 b3 b4 b5 b7 true gI fP gG gH ft fF w'):∃pb,ft=(vP pb):=by
 obtain⟨mb,m,hc,o,p,hs⟩:=h;obtain⟨a,t,ts',u,g,_⟩:=hc.2 rfl;exact⟨_,g⟩
theorem gC.box(h:gC w0 rb B d us r k b1 b2 b3 b4 b5 b7 true false fP gG gH ft fF w'):gC w0 rb B d us r k b1 b2 b3 b4 b5 b7 true true fP gG gH ft (.slice (some ⟨w'.heap.size,0,none⟩) 1 1) (w'.alloc (.cells #[ft] 22)):=by
 obtain⟨mb,m,hc,p,y,hs⟩:=h;have g:Below w'.heap.size w' (w'.alloc (.cells #[ft] 22)):=(Y2 _ _).alloc (Y0 _) _;obtain⟨a,t,ts',E,rfl,G,R,F,hn,_⟩:=hc.2 rfl;refine⟨mb,⟨λhp=>?_,m.2.1,m.2.2.1,m.2.2.2⟩,⟨(λh=>by cases h),λ_=>⟨a,t,ts',E,rfl,G.rfr p (RFr.below g),R.below g,F.trans (RFr.below g),hn,λ_=>⟨w'.heap.size,rfl,λhp=>?_,λhx=>?_,hs,heap_alloc_new w' _⟩⟩⟩,p,y,Y4 hs g.size⟩
 .obtain⟨e,u,o,n,I,h5⟩:=m.1 hp;have J:=g.block mb o;refine⟨e,u,Y7 o g.size,n,I,?_⟩;obtain⟨O,U,hb,hx⟩:=h5;exact⟨O,U,J.trans hb,hx⟩
 .obtain⟨e,u,o,_⟩:=m.1 hp;omega
 .have:=(G.new _ hx).2;omega
theorem gC.fin(h:gC w0 rb B d us r k b1 b2 b3 b4 b5 true true true fP gG gH ft fF w'):∃(a:ATree) (t:Tree) (ts':List Tok) (g:Nat),r=.ok (t,ts')∧gH=(vI (32+(k:Int)))∧fF=.slice (some ⟨g,0,none⟩) 1 1∧RFr w0 w' rb∧Rd w' rb ts' d∧
 Got w0 B (w'.alloc (.cells #[vI (32+(k:Int)),.string ⟨#[]⟩,vI 0,.slice (some ⟨g,0,none⟩) 1 1] 42)) (.mk w'.heap.size (.slice (some ⟨g,0,none⟩) 1 1) (32+(k:Int)) ⟨#[]⟩ 0 [a]) (.mk (32+(k:Int)) ⟨#[]⟩ 0 [t]):=by
 obtain⟨mb,o,hc,O,p,hs⟩:=h;obtain⟨a,t,ts',u,rfl,G,R,F,hn,y⟩:=hc.2 rfl;obtain⟨g,rfl,U,E,I,m⟩:=y rfl;have J:Below w'.heap.size w' (w'.alloc (.cells #[vI (32+(k:Int)),.string ⟨#[]⟩,vI 0,.slice (some ⟨g,0,none⟩) 1 1] 42)):=(Y2 _ _).alloc (Y0 _) _;have X:g<w'.heap.size:=(Y1.1 m).1;refine⟨a,t,ts',g,u,o.2.2.1 rfl,rfl,F,R,⟨by simp[ATree.tree,fs,G.tree],?_,?_,?_⟩⟩
 .refine TreeAt.new (Y4 p hs) ⟨by simp,.inr ⟨g,1,#[a.ptr],rfl,by omega,m,by simp,by unfold maxLen;omega,by simp,by simp⟩⟩ λx hx=>?_;simp only[List.mem_singleton]at hx;subst hx;exact G.at'
 .simp only[ATree.blocks,Value.ownBlock,Option.toList,Zl,List.append_nil,List.nodup_cons,List.cons_append,List.nil_append,List.mem_cons,not_or];exact⟨⟨by omega,λhx=>by have:=(G.new _ hx).2;omega⟩,E,G.nodup⟩
 .intro x hx;simp only[ATree.blocks,Value.ownBlock,Option.toList,Zl,List.append_nil,List.cons_append,List.nil_append,List.mem_cons]at hx;have :=J.size;rcases hx with rfl|rfl|hx;·exact⟨hs,by simp⟩
  .exact⟨I,by omega⟩
  .have:=G.new x hx;omega
end
def Zx3(w0:World)(rb B d:Nat)(us:List Tok)(r:Except (Int×Nat) (Tree×List Tok))(k:Nat)(g:Value->Value->Value->Value->Value->Act)(m:Array Bool)(a':Act)(w':World):Prop:=
 ∃fP gG gH ft fF,a'=g fP gG gH ft fF∧gC w0 rb B d us r k (m.getD 1 false) (m.getD 2 false) (m.getD 3 false) (m.getD 4 false) (m.getD 5 false) (m.getD 7 false) (m.getD 11 false) (m.getD 12 false) fP gG gH ft fF w'
theorem Zhv (f:Nat) (hU:c9 149 cQ .unary f) (IF:c9 162 cQ .postfix_ f):c9 149 cQ .unary (f + 1):=by
 intro w rb B d ts r hP hp;have hw:(if K6 ts=0 then Z3 f .postfix_ d ts else Zr (vX d ts.tail (Z3 f .unary (d+1) ts.tail)) λx ts'=>iy (.mk (K6 ts) ByteArray.empty 0 [x]) ts')=some r:=hp;have HP:=lh hP;have HU:=lh hU;have IG:=lh IF;have H1:=lh hw;obtain⟨X,Z⟩:=zX w.heap.size
 obtain⟨w1,eh⟩:=zX (w.alloc (.cells #[.string Q',.string Sa,.string Su] 9))
 have aL:Below w.heap.size w w1:=Qi
 have Eg:X<w1.heap.size:=by rw[eh,Z];simp
 have iF:∀(i:Nat) (x:ByteArray),NY[i]?=some x->w1.cell? ⟨X,i,none⟩=some (.string x):=by
  intro i x hx;have hb:w1.heap[X]?=some (.cells #[.string Q',.string Sa,.string Su] 9 (0,0)):=by rw[eh,Z];exact heap_alloc_new w _
  match i,hx with
  | 0, hx => obtain rfl : Q' = x := by simpa [NY] using hx
             simp[vC,World.cell?,hb]
  | 1, hx => obtain rfl : Sa = x := by simpa [NY] using hx
             simp[vC,World.cell?,hb]
  | 2, hx => obtain rfl : Su = x := by simpa [NY] using hx
             simp[vC,World.cell?,hb]
  |i+3,hx=>simp[NY]at hx
 have D':=lh iF;have B1:=lh aL;unfold Q' Sa Su at eh;refine Dz ?_;intro iV;have LE:=lh iV;clear hP hp hw hU IF iF aL iV;unfold cQ;go_enter Tryz.func149,Tryz.ntmps149
 go_wp2_with fail
 rw[<-eh,<-Z];have Oh:=lh Z;have nW:=lh eh;clear eh Z;go_loopw [7] (λi wr=>∃k:Nat,k<=3∧i=(vI k)∧Hid (∀(j:Nat) (y:ByteArray),j<k->NY[j]?=some y->aa y ts=false)∧Hid (Below w1.heap.size w1 wr)) (λi _=>3-(intOf i).toNat)
 case atStart=>exact⟨0,by omega,rfl,lh (λj y hj=>by omega),lh (Y2 _ _)⟩
 case round=>
  obtain⟨k,hk,rfl,NO,BW⟩:=hrel;have I:=(HP.o.below B1.o).below BW.o;have F2:=lh ((RFr.below (rb:=rb) B1.o).trans (RFr.below BW.o));by_cases bV:k<3
  .obtain⟨x,hx⟩:∃x,NY[k]? =some x:=⟨_,Y6 bV⟩
   have cx:=(BW.o.cell (p:=⟨X,k,none⟩) Eg).trans (D'.o k x hx);have HX:=lh hx;clear hx;by_cases hs:aa x ts=true
   .have jM:=Zq2 HX.o hs (λj y hj Y=>NO.o j y hj Y);have HT:=lh (wR wr rb ts d x I.rd hs);have IG:=Zm hs;have I:=lh I;have US:=lh jM;have cw:Zr (vX d ts.tail (Z3 f .unary (d+1) ts.tail)) (λx ts'=>iy (.mk (K6 ts) ByteArray.empty 0 [x]) ts')=some r:=by
     have h:=H1.o;rw[Y3 (by rw[jM.1];omega)]at h;exact h
    rw[jM.1]at cw;have H2:=lh cw;clear hs jM cw;go_wp2_with fail
    refine HT.o.mono ?_;rintro e w2⟨rfl,am,aq⟩;have P3:=I.o.tail am aq;have F3:=F2.o.trans aq;have P3:=lh P3;have F3:=lh F3;clear am aq HT;go_wp2_with fail
    obtain⟨J,se,HE,HK⟩:∃J,vX d ts.tail (Z3 f .unary (d+1) ts.tail)=some J∧Hid (∀e,J=.error e->r=.error e)∧Hid (∀t vs,J=.ok (t,vs)->r=.ok (.mk (32+(k:Int)) ByteArray.empty 0 [t],vs)):=by
     rcases Zf H2.o with⟨e,he,rfl⟩|⟨t,vs,he,h2⟩;·exact⟨_,he,lh (λe' h=>by cases h;rfl),lh (λt vs h=>by cases h)⟩
     .exact⟨_,he,lh (λe' h=>by cases h),lh (λt' pO h=>by cases h;exact(Yc h2).symm)⟩
    have LF:=lh se;have mm:=@run_makeMap Tryz.prog;clear se
    refine Zby [0,6,8,9,10] [1,2,3,4,5,7,11,12] [13,14] Pb Pb (λ_ _ d _ _ h=>by cases d<;>exact h)
     (Zx3 w2 rb B d ts.tail J k λfP gG gH ft fF=>{tmps:=#[vP rb,undef,u2,undef,.string x,.slice (some ⟨X,0,none⟩) 3 3,vI 3,vI k,.bool true,.pointer (some ⟨X,k,none⟩),.string x,vP rb,.string x,.bool true,vP rb,fP,gG,.string x,gH,vP rb,vP rb,.func (.func 149) #[vP rb] #[],ft,fF,u24,u25,undef,undef],defers:=[]}) ?_ ?_ ?_
    .have ST:Hid (∀fP gG gH ft fF,gC w2 rb B d ts.tail J k false false false false false false false false fP gG gH ft fF w2.drew):=lh λ_ _ _ _ _=>
      ⟨0,⟨(λh=>by cases h),(λh=>by cases h),(λh=>by cases h),λ_=>⟨rfl,rfl,rfl⟩⟩,⟨λ_=>⟨P3.o.below (Y2 _ _).drew,(RFr.refl w2 rb).drew,rfl⟩,(λh=>by cases h)⟩,P3.o.lt,P3.o.le,Y0 _⟩
     simp only[List.filterMap_cons,List.filterMap_nil,List.getElem?_toArray,List.getElem?_cons_zero,List.getElem?_cons_succ];have iV:=LE.o;iterate 5 (refine Ziu ?_ Po (λw' _=>?_) ?_;rotate_left;(go_simp;first|done|with_reducible rfl);simp only[Act.put,zA,zB,zC])
     exact⟨_,_,_,_,_,rfl,ST.o _ _ _ _ _⟩
    .intro m i a' w3 u hi _ E hd hI;obtain⟨fP,gG,gH,ft,fF,rfl,o⟩:=hI;have F:=lh o;clear o;have u:m.size=15:=u;simp only[List.mem_cons,List.not_mem_nil,or_false]at hi;have Eh:∀j,(j=2∨j=3∨j=4)->m.getD j false=false->m.getD 5 false=false:=λj hj hf=>by
      cases h5:m.getD 5 false with
      |false=>rfl
      | true =>
        obtain⟨mb,u,_⟩:=F.o;obtain⟨_,_,e2,e3,e4⟩:=u.2.1 h5;rcases hj with rfl|rfl|rfl;·rw[hf]at e2;cases e2
        .rw[hf]at e3;cases e3
        .rw[hf]at e4;cases e4
     rcases hi with rfl|rfl|rfl|rfl|rfl|rfl|rfl|rfl
     .have o:=F.o;rw[E]at o;refine UK Po ?_;go_simp
      refine⟨_,_,_,_,_,rfl,?_⟩;simp only[Uq (show 1<m.size by rw[u];decide)];simp only[Nat.reduceEqDiff,if_true,if_false];exact o.make
     .have n5:=Eh 2 (.inl rfl) E;have d1:=hd 1 Pb;have o:=F.o;rw[d1,E,n5]at o;obtain⟨mb,n,rfl,hn,O,hK⟩:=o.ins2;refine UK Po ?_;rw[Y5 Po];refine Z7d _ _ _ 237 rfl 9 3 Tryz.keyedS Tryz.underlying237 _ mb n _ rfl O Pc _ _ _ rfl rfl (Yo Yj Pa) _ [] (plainElem_int Yk Pa) λw4 h4 g4=>?_;refine⟨_,_,_,_,_,rfl,?_⟩;simp only[Uq (show 2<m.size by rw[u];decide)];exact Zpr
     .have n5:=Eh 3 (.inr (.inl rfl)) E;have d1:=hd 1 Pb;have o:=F.o;rw[d1,E,n5]at o;obtain⟨mb,n,rfl,hn,O,hK⟩:=o.ins3;refine UK Po ?_;rw[Y5 Po];refine Z7d _ _ _ 237 rfl 9 3 Tryz.keyedS Tryz.underlying237 _ mb n _ rfl O Pc _ _ _ rfl rfl (Yo Yj Pa) _ [] (plainElem_int Yk Pa) λw4 h4 g4=>?_;refine⟨_,_,_,_,_,rfl,?_⟩;simp only[Uq (show 3<m.size by rw[u];decide)];exact Zpr
     .have n5:=Eh 4 (.inr (.inr rfl)) E;have d1:=hd 1 Pb;have o:=F.o;rw[d1,E,n5]at o;obtain⟨mb,n,rfl,hn,O,hK⟩:=o.ins4;refine UK Po ?_;rw[Y5 Po];refine Z7d _ _ _ 237 rfl 9 3 Tryz.keyedS Tryz.underlying237 _ mb n _ rfl O Pc _ _ _ rfl rfl (Yo Yj Pa) _ [] (plainElem_int Yk Pa) λw4 h4 g4=>?_;refine⟨_,_,_,_,_,rfl,?_⟩;simp only[Uq (show 4<m.size by rw[u];decide)];exact Zpr
     .have d1:=hd 1 Pb;have d2:=hd 2 Pb;have d3:=hd 3 Pb;have d4:=hd 4 Pb;have o:=F.o;rw[d1,d2,d3,d4,E]at o;refine UK Po ?_;go_simp
      refine⟨_,_,_,_,_,rfl,?_⟩;simp only[Uq (show 5<m.size by rw[u];decide)];simp only[Nat.reduceEqDiff,if_true,if_false];rw[d1,d2,d3,d4];exact o.move
     .have d5:=hd 5 Pb;have o:=F.o;rw[d5,E]at o;obtain⟨⟨mb,n,rfl,O⟩,hK⟩:=o.look;refine UK Po ?_;rw[Y5 Po];refine Z9q _ _ 237 rfl 9 3 .i64 Tryz.keyedS Tryz.underlying237 Yk (Tryz.zeroI _) mb n _ rfl O _ _ rfl (Yo Yj US.o.2.1) λc hc=>?_;obtain rfl:32+(k:Int)=c:=by
       have e:=US.o.2.2.symm.trans hc;simpa using e
      refine⟨_,_,_,_,_,rfl,?_⟩;simp only[Uq (show 7<m.size by rw[u];decide)];simp only[Nat.reduceEqDiff,if_true,if_false];rw[d5];exact hK
     .have o:=F.o;rw[E]at o;obtain⟨U,F4⟩:=o.pre;have HC:=Ze9 w3 rb B ts.tail d _ J U.rd (by have :=U.deep;omega) U.lt LF.o λhd h1 w4 hR hs=>HU.o w4 rb B (d+1) ts.tail J ⟨hR,hd,U.lt,by have :=U.le;omega,U.few⟩ h1;have HC:=lh HC;have F4:=lh F4;have cD:=lh o;clear U o;refine UK Po ?_;go_simp
      refine HC.o.mono ?_;rcases J with⟨c,p⟩|⟨t,ts'⟩
      .rintro e w4⟨⟨b,rfl,h1,h2⟩,hF⟩;obtain rfl:=HE.o _ rfl;exact⟨rfl,ll.pre (F3.o.trans F4.o) (r:=.error (c,p)) ⟨⟨b,rfl,h1,h2⟩,hF⟩⟩
      .rintro e w4⟨a,rfl,hG,hR,hF⟩;refine⟨_,_,_,_,_,rfl,?_⟩;simp only[Uq (show 11<m.size by rw[u];decide)];simp only[Nat.reduceEqDiff,if_true,if_false];exact cD.o.call rfl hG hR hF
     .have II:=hd 11 Pb;have o:=F.o;rw[II,E]at o;obtain⟨pb,rfl⟩:=o.ptr;refine UK Po ?_;go_simp
      refine⟨_,_,_,_,_,rfl,?_⟩;simp only[Uq (show 12<m.size by rw[u];decide)];simp only[Nat.reduceEqDiff,if_true,if_false];rw[II];exact o.box
    .rintro m a' w3 an⟨fP,gG,gH,ft,fF,rfl,o⟩;rw[an 7 Pa,an 11 Pa,an 12 Pa]at o;obtain⟨a,t,ts',g,e1,rfl,rfl,hF,hR,hG⟩:=o.fin;simp only[List.filterMap_cons,List.filterMap_nil,List.getElem?_toArray,List.getElem?_cons_zero,List.getElem?_cons_succ];obtain rfl:=HK.o _ _ e1;have HG:=lh hG;have HR:=lh hR;have HF:=lh (F3.o.trans hF);clear hG hR hF o e1 an;go_wp2_with fail
     refine(Zv w3 rb (32+(k:Int)) ⟨#[]⟩ (some ⟨g,0,none⟩) 1 1).mono ?_;rintro e w7⟨rfl,Ei⟩;have cP:Below w3.heap.size w3 w7:=by rw[Ei];exact(Y2 _ _).alloc (Y0 _) _
     have yl:=lh Ei;have rW:=lh cP;clear Ei cP;go_wp2;go_ret;refine⟨_,?pt,(by rw[yl.o];exact HG.o.pre F3.o),HR.o.below rW.o,HF.o.trans (RFr.below rW.o)⟩;case pt=>simp[ATree.b]
   .have dZ:aa x ts=false:=by simpa using hs
    have HT:=lh (xk wr rb ts d x I.rd dZ);have F:=lh dZ;have I:=lh I;clear hs dZ;go_wp2_with fail
    refine HT.o.mono ?_;rintro e w2⟨rfl,au⟩;have B2:=lh au;clear au;go_wp2;go_roundw
    case rel=>exact⟨k+1,by omega,by go_num,lh (λj y hj Y=>by
     by_cases e:j=k;·subst e;obtain rfl:=Yc (HX.o.symm.trans Y);exact F.o
     .exact NO.o j y O' Y),lh (BW.o.trans (B2.o.mono BW.o.size))⟩
    case measure=>simp[intOf];omega
  .have h3:k=3:=by omega
   subst h3;have hn:=Zrr λi y hi Y=>NO.o i y hi Y;have hq:=H1.o;rw[Y5 hn]at hq;have HC:=IG.o wr rb B d ts r I hq;unfold cQ at HC;have HC:=lh HC;clear hn hq I;go_wp2_with fail
   refine HC.o.mono ?_;rcases r with⟨c,p⟩|⟨t,ts'⟩
   .rintro e w2⟨⟨b,rfl,h1,h2⟩,hF⟩;exact⟨rfl,ll.pre F2.o (r:=.error (c,p)) ⟨⟨b,rfl,h1,h2⟩,hF⟩⟩
   .rintro e w2⟨a,rfl,hG,hR,hF⟩;exact U'
end Go.Proofs.YtjikfacdcdiddaaGreatDoor
namespace Go.Proofs.YtjikfacdcdiddaaGreatDoor
open Go Go.RowKit
def nextO(g d:Nat)(m:List Tree)(us:List Tok):PR:=if m.length=8 then vg 4 us else wc us λs ts=>iB UA ts λts=>Zr (Z3 g .value d ts) λv ts=>Z3 g (.object (m++[.mk 39 s 0 [v]])) d ts
theorem Zfz (F:Nat) (hV:∀ g,g < F→c9 102 cQ .value g) :
 c9 166 cQ (.object []) F:=by
 intro w rb B d ts r Z hp;have HP:=lh Z;have HV:=lh hV;have O:=lh hp;have HN:=lh (Zv w rb 38 ⟨#[]⟩ none 0 0);obtain⟨nb,dw⟩:=zX w.heap.size
 have G0:=Got.leaf (k:=38) (t:=⟨#[]⟩) (n:=0) Z.le (RFr.refl w rb);have cP:Below w.heap.size w (w.alloc (.cells #[vI 38,.string ⟨#[]⟩,vI 0,.slice none 0 0] 42)):=(Y2 _ _).alloc (Y0 _) _;have R0:=Z.rd.below cP;have F0:RFr w (w.alloc (.cells #[vI 38,.string ⟨#[]⟩,vI 0,.slice none 0 0] 42)) rb:=RFr.below cP;rw[<-dw]at G0 HN;unfold cQ;clear Z hp hV cP;go_enter Tryz.func166,Tryz.ntmps166
 go_wp2_with fail
 refine HN.o.mono ?_;rintro e w2⟨rfl,cw⟩;rw[<-cw]at G0 R0 F0;have hst:∃(g:Nat) (m:List Tree) (us:List Tok) (v:Value) (kids:List ATree),g<=F∧Z3 g (.object m) d us=some r∧Got w B w2 (.mk nb v 38 ⟨#[]⟩ 0 kids) (.mk 38 ⟨#[]⟩ 0 m)∧Rd w2 rb us d∧RFr w w2 rb∧m.length<=8∧us.length<=ts.length:=
  ⟨F,[],ts,_,[],Y0 _,O.o,G0,R0,F0,by simp,Y0 _⟩
 have ST:=lh hst;have th:=lh dw;clear hst cw G0 R0 F0 HN dw O;go_wp2_with fail
 go_loopw [] (λwr=>∃(g:Nat) (m:List Tree) (us:List Tok) (v:Value) (kids:List ATree),g<=F∧Z3 g (.object m) d us=some r∧Got w B wr (.mk nb v 38 ⟨#[]⟩ 0 kids) (.mk 38 ⟨#[]⟩ 0 m)∧Rd wr rb us d∧RFr w wr rb∧m.length<=8∧us.length<=ts.length) (λwr=>leftOf wr rb)
 case atStart=>exact ST.o
 case round=>
  obtain⟨g,m,us,v,kids,hg,hq,hG,U,hF,hl,hu⟩:=hrel;have G:=lh hG;have R:=lh U;have FF:=lh hF;have RL:=lh U.left;cases g with
  |zero=>cases hq
  |succ g=>
  rw[Z3]at hq;have u:=LI wr rb us d Zp U;have aA:=HP.o.lt;by_cases hb:aa Zp us=true
  .rw[hb]at u;rw[Y5 hb]at hq;have hr:=Yc hq;have tC:=lh hr.symm;have u:=lh u;have HI:=lh hb;unfold Zp at u;clear hG U hF hq hr hb ST;go_wp2_with fail
   refine u.o.mono ?_;rintro e w3⟨rfl,aB⟩;have F3:=FF.o.trans (RFr.below (rb:=rb) aB);have G3:=G.o.rfr aA (RFr.below (rb:=rb) aB);have R3:=R.o.below aB;have HC:=Hb w3 rb us d Zp R3 HI.o;unfold Zp at HC;have HC:=lh HC;have F3:=lh F3;have G3:=lh G3;clear aB R3 FF G R u;go_wp2_with fail
   refine HC.o.mono ?_;rintro e w4⟨rfl,eZ,bh⟩;have R4:=lh eZ;have F4:=lh (F3.o.trans bh);have G4:=lh (G3.o.rfr aA bh);clear eZ bh HC F3 G3;go_wp2;go_ret;rw[tC.o];exact⟨_,rfl,G4.o,R4.o,F4.o⟩
  ·have dB : aa Zp us = false := by simpa using hb
   rw[dB]at u;rw[Y3 hb]at hq;have u:=lh u;have HQ:=lh hq;unfold Zp at u;have ba:kids.length=m.length:=by
    have:=hG.tree;exact TH
   have fL:=lh ba;clear hG U hF hq hb dB ST ba;go_wp2_with fail
   refine u.o.mono ?_;rintro e w3⟨rfl,aB⟩;refine U2 ?_;intro F3 G3 R3 P3;obtain⟨p,cp,rfl⟩:∃p cp,v=.slice p kids.length cp:=by
    exact Zvw
   refine Zvx ?_;intro ac n3 F3 G3 P3 HU HL;clear aB R3 FF G R u ac hu hl;by_cases h0:m.length=0
   ·have a0 : decide (0 < kids.length) = false := by have := fL.o; simp; exact List.eq_nil_of_length_eq_zero O'
    have X:nextO g d m us=some r:=QD
    have PQ:=lh (show Pre w3 rb B d us∧us.length<=ts.length from⟨P3.o,HU.o⟩);have GQ:=G3;have FQ:=F3;have PL:=lh (Y0 us.length);have cC:=lh X;have H0:=lh h0;clear HQ X h0;by_cases h8:m.length=8
    .have n8:((kids.length:Int)==8)=true:=by have :=fL.o;simp;omega
     have hr:r=.error (4,(bL us).at'):=by
      exact Zuu
     subst hr;have HF:=lh (S7 w3 rb us d 4 PQ.o.1.rd);clear h8;go_wp2_with fail
     refine HF.o.mono ?_;exact yR
    .have n8:((kids.length:Int)==8)=false:=by have :=fL.o;simp;omega
     have E:=cC.o;unfold nextO at E;rw[Y3 h8]at E;have H8:=lh h8;clear h8;rcases V5 E with⟨hk,h1⟩|⟨hk,rfl⟩
     .have HC:=lh (Tj w3 rb us d PQ.o.1.rd hk);obtain⟨s,hs⟩:=zX ((bL us).text)
      rw[<-hs]at HC h1;have O:=lh h1;have kH:=lh (Z9m hk);clear E hk h1 hs;go_wp2_with fail
      refine HC.o.mono ?_;rintro e w5⟨rfl,Y,I⟩;have P5:=lh (PQ.o.1.tail Y I);have F5:=lh (FQ.o.trans I);have G5:=lh (GQ.o.rfr aA I);clear Y I HC;rcases Sy O.o with⟨hs,h2⟩|⟨hs,rfl⟩
      .have HC:=Hb w5 rb _ d UA P5.o.rd hs;unfold UA at HC;have HC:=lh HC;have H2:=lh h2;clear hs h2;go_wp2_with fail
       refine Ztx ?_;intro w6 jJ fM P6 F6 G6 ac;clear n3;have n3:vC w6 nb 3 (.slice p kids.length cp):=Pd
       have P6:=lh P6;have F6:=lh F6;have G6:=lh G6;clear jJ fM ac HC P5 F5 G5;go_wp2_with fail
       refine Z8 [0,2,4,6,8,10,12,14,17,19,21,23,25] [13,14,15] (λW=>vC W nb 3 (.slice p kids.length cp)) n3 λ_=>?_;refine dW ?_
       iterate 8
        refine dV ?_
       refine Z6 (λK hK=>?_);go_simp
       have P7:Pre w6.drew rb B d _:=P6.o.below (Y2 _ _).drew;rcases Zf H2.o with⟨⟨c,p⟩,hv,rfl⟩|⟨t,vs,hv,fY⟩;·exact Zsy
       .have dA:=RX hv;refine Zul ?_;intro fw w7 x hX lU dK fd kr ac m3;clear hK K;refine S5 ?_;intro K hK ai;refine hK _ _ ((ai.cell (p:=⟨nb,3,none⟩) (Y1.1 ac).1).trans m3) ?_;clear hK K;refine Z6 (λK hK=>?_);go_simp
        have hA:=Got.one (w0:=w6.drew) (w:=w7) (rb:=rb) (k:=39) (t:=s) (Y4 HP.o.le F6.o.size) dK hX;refine ZR ?_;intro ax dD dl hA;rw[<-dl]at ax;refine Zpo ?_;intro eM bK dy;clear ac m3 dl ai;refine sJ ?_;intro ac;refine Znu ?_;intro m3;refine BS ?_;intro mz de dJ aK;have gz:kids.length<=8:=PI
        refine XS ?_;intro gd;rw[gd];obtain⟨a,ha⟩:∃a:ATree,a=.mk (w7.heap.size+1) (.slice (some ⟨w7.heap.size,0,none⟩) 1 1) 39 s 0 [x]:=⟨_,rfl⟩
        rw[<-ha]at hA;refine ZO ?_;intro jy;rw[show vP _=_ from jy];clear ha jy gd;refine Ztp ?_;intro N3 A3 R3 jd NE NA fX;refine s5 ?_;intro i0 hi aD bo bT;clear hK K hA bK dy eM ac dJ aK n3 hX lU dK fd kr ax hv fY dA P7;refine ta ?_;intro K hK;refine ZY ?_;intro gg cap w4 aT aC bX cg;refine RJ ?_;intro m4;refine RF ?_;clear hK K;intro lT;have aj:=Got.push aA HP.o.le N3.o (wA:=w6.drew) NA.o A3.o jd.o R3.o ((Below.refl _ _).alloc (Nat.le_refl _) _) aC aT (bX.imp id λh=>by omega) cg;have ca:=lh aj;clear aj;refine Z0 ?_;clear aC aT bX cg;go_wp2;go_roundw
        case rel=>
         refine⟨g,m++[.mk 39 s 0 [t]],vs,.slice (some ⟨gg,0,none⟩) (kids.length+1) cap,kids++[a],by omega,fw.o,?_,ca.o.2.2,ca.o.2.1,by have:=HL.o;have:=H8.o;simp;omega,by have:=fX.o;have:=PQ.o.2;have:=Zu us;have:=Zu (us).tail;omega⟩;have h1:=ca.o.1;have h2:=GQ.o.tree;exact y8
        case measure=>
         rw[ca.o.2.2.left,RL.o];have e:(us).tail.length=(us).length-1:=List.length_tail;have:=fX.o;have:=kH.o;have:=PL.o;have:=Zu (us).tail;omega
      .exact X'
     .have HC:=lh (UU w3 rb us d PQ.o.1.rd hk);clear E hk;go_wp2_with fail
      refine HC.o.mono ?_;exact yR
   ·have a0 : decide (0 < kids.length) = true := by have := fL.o; simp; omega
    have J:=HQ.o;rw[Y5 O']at J;have H0:=lh h0;clear h0;by_cases hc:aa wJ us=true
    ·have X : nextO g d m us.tail = some r := by rw [iB, Y5 hc] at J; exact J
     have HC:=Hb w3 rb us d wJ P3.o.rd hc;unfold wJ at HC;have HC:=lh HC;have cC:=lh X;clear J hc HQ X;go_wp2_with fail
     refine Zt7 ?_;intro iE eZ bh PQ GQ FQ PL ac;clear n3;have n3:vC iE nb 3 (.slice p kids.length cp):=Pd
     clear eZ bh HC ac F3 G3 P3;by_cases h8:m.length=8
     .have n8:((kids.length:Int)==8)=true:=by have :=fL.o;simp;omega
      have hr:r=.error (4,(bL us.tail).at'):=by
       exact Zuu
      subst hr;have HF:=lh (S7 iE rb us.tail d 4 PQ.o.1.rd);clear h8;go_wp2_with fail
      refine HF.o.mono ?_;exact yR
     .have n8:((kids.length:Int)==8)=false:=by have :=fL.o;simp;omega
      have E:=cC.o;unfold nextO at E;rw[Y3 h8]at E;have H8:=lh h8;clear h8;rcases V5 E with⟨hk,h1⟩|⟨hk,rfl⟩
      .have HC:=lh (Tj iE rb us.tail d PQ.o.1.rd hk);obtain⟨s,hs⟩:=zX ((bL us.tail).text)
       rw[<-hs]at HC h1;have O:=lh h1;have kH:=lh (Z9m hk);clear E hk h1 hs;go_wp2_with fail
       refine HC.o.mono ?_;rintro e w5⟨rfl,Y,I⟩;have P5:=lh (PQ.o.1.tail Y I);have F5:=lh (FQ.o.trans I);have G5:=lh (GQ.o.rfr aA I);clear Y I HC;rcases Sy O.o with⟨hs,h2⟩|⟨hs,rfl⟩
       .have HC:=Hb w5 rb _ d UA P5.o.rd hs;unfold UA at HC;have HC:=lh HC;have H2:=lh h2;clear hs h2;go_wp2_with fail
        refine Ztx ?_;intro w6 jJ fM P6 F6 G6 ac;clear n3;have n3:vC w6 nb 3 (.slice p kids.length cp):=Pd
        have P6:=lh P6;have F6:=lh F6;have G6:=lh G6;clear jJ fM ac HC P5 F5 G5;go_wp2_with fail
        refine Z8 [0,2,4,6,8,10,12,14,17,19,21,23,25] [13,14,15] (λW=>vC W nb 3 (.slice p kids.length cp)) n3 λ_=>?_;refine dW ?_
        iterate 8
         refine dV ?_
        refine Z6 (λK hK=>?_);go_simp
        have P7:Pre w6.drew rb B d _:=P6.o.below (Y2 _ _).drew;rcases Zf H2.o with⟨⟨c,p⟩,hv,rfl⟩|⟨t,vs,hv,fY⟩;·exact Zsy
        .have dA:=RX hv;refine Zul ?_;intro fw w7 x hX lU dK fd kr ac m3;clear hK K;refine S5 ?_;intro K hK ai;refine hK _ _ ((ai.cell (p:=⟨nb,3,none⟩) (Y1.1 ac).1).trans m3) ?_;clear hK K;refine Z6 (λK hK=>?_);go_simp
         have hA:=Got.one (w0:=w6.drew) (w:=w7) (rb:=rb) (k:=39) (t:=s) (Y4 HP.o.le F6.o.size) dK hX;refine ZR ?_;intro ax dD dl hA;rw[<-dl]at ax;refine Zpo ?_;intro eM bK dy;clear ac m3 dl ai;refine sJ ?_;intro ac;refine Znu ?_;intro m3;refine BS ?_;intro mz de dJ aK;have gz:kids.length<=8:=PI
         refine XS ?_;intro gd;rw[gd];obtain⟨a,ha⟩:∃a:ATree,a=.mk (w7.heap.size+1) (.slice (some ⟨w7.heap.size,0,none⟩) 1 1) 39 s 0 [x]:=⟨_,rfl⟩
         rw[<-ha]at hA;refine ZO ?_;intro jy;rw[show vP _=_ from jy];clear ha jy gd;refine Ztp ?_;intro N3 A3 R3 jd NE NA fX;refine s5 ?_;intro i0 hi aD bo bT;clear hK K hA bK dy eM ac dJ aK n3 hX lU dK fd kr ax hv fY dA P7;refine ta ?_;intro K hK;refine ZY ?_;intro gg cap w4 aT aC bX cg;refine RJ ?_;intro m4;refine RF ?_;clear hK K;intro lT;have aj:=Got.push aA HP.o.le N3.o (wA:=w6.drew) NA.o A3.o jd.o R3.o ((Below.refl _ _).alloc (Nat.le_refl _) _) aC aT (bX.imp id λh=>by omega) cg;have ca:=lh aj;clear aj;refine Z0 ?_;clear aC aT bX cg;go_wp2;go_roundw
         case rel=>
          refine⟨g,m++[.mk 39 s 0 [t]],vs,.slice (some ⟨gg,0,none⟩) (kids.length+1) cap,kids++[a],by omega,fw.o,?_,ca.o.2.2,ca.o.2.1,by have:=HL.o;have:=H8.o;simp;omega,by have:=fX.o;have:=PQ.o.2;have:=Zu us.tail;have:=Zu (us.tail).tail;omega⟩;have h1:=ca.o.1;have h2:=GQ.o.tree;exact y8
         case measure=>
          rw[ca.o.2.2.left,RL.o];have e:(us.tail).tail.length=(us.tail).length-1:=List.length_tail;have:=fX.o;have:=kH.o;have:=PL.o;have:=Zu (us.tail).tail;omega
       .exact X'
      .have HC:=lh (UU iE rb us.tail d PQ.o.1.rd hk);clear E hk;go_wp2_with fail
       refine HC.o.mono ?_;exact yR
    .have mL:aa wJ us=false:=by simpa using hc
     have hr:r=.error (3,(bL us).at'):=by
      rw[iB,Y3 hc]at J;exact(Yc J).symm
     subst hr;have HC:=RG w3 rb us d wJ P3.o.rd mL;unfold wJ at HC;have HC:=lh HC;clear J hc mL HQ;exact Zsw
theorem Z8t{p:PR}{k m:Tree->List Tok->PR}:Zr (Zr p k) m=Zr p λt ts=>Zr (k t ts) m:=by
 rcases p with _|e|⟨t,ts⟩<;>rfl
theorem Zer{s:ByteArray}{ts:List Tok}{k:List Tok->PR}{m:Tree->List Tok->PR}:Zr (iB s ts k) m=iB s ts λts=>Zr (k ts) m:=by
 unfold iB;by_cases h:aa s ts=true;·rw[Y5 h,Y5 h]
 .rw[Y3 h,Y3 h];rfl
def Ux(g G d:Nat)(m:List Tree)(us:List Tok):PR:=if 8<m.length then vg 4 us else Zr (Zr (Z3 g .value d us) λv ts=>Z3 g (.args (m++[v])) d ts) λn ts=>Z3 G (.postLoop n) d ts
theorem Zly{g G d:Nat}{m:List Tree}{us:List Tok}(h:aa sg us=false) :
 Zr (Z3 (g+1) (.args m) d us) (λn ts=>Z3 G (.postLoop n) d ts)=(if 1<m.length then iB wJ us else λk=>k us) λus=>Ux g G d m us:=by
 have o:∀us,Zr (if 8<m.length then vg 4 us else Zr (Z3 g .value d us) λv ts=>Z3 g (.args (m++[v])) d ts) (λn ts=>Z3 G (.postLoop n) d ts)=Ux g G d m us:=by
  intro us;unfold Ux;by_cases h:8<m.length;·rw[Y5 h,Y5 h];rfl
  .rw[Y3 h,Y3 h]
 rw[Z3,Y3 (by rw[h];simp)];by_cases p:1<m.length
 .simp only[if_pos p];rw[Zer];simp only[o]
 .simp only[if_neg p];exact o us
theorem Zdw(F:Nat)(IJ:c9 164 cQ .primary F)(hV:∀g,g<F->c9 102 cQ .value g) :
 c9 162 cQ .postfix_ (F+1):=by
 intro w rb B d ts r hP hp;have hw:Zr (Z3 F .primary d ts) (λx ts=>Z3 F (.postLoop x) d ts)=some r:=hp;have HP:=lh hP;have HV:=lh hV;have H1:=lh hw;have Cd:=lh IJ;have E:=hP.lt;clear hP hp hV IJ hw;rcases Zf H1.o with⟨⟨c,p⟩,u,rfl⟩|⟨t,B9,u,h2⟩
 .have HC:=Cd.o w rb B d _ _ HP.o u;unfold cQ at HC ⊢;have HC:=lh HC;clear u;go_enter Tryz.func162,Tryz.ntmps162
  exact Zsm
 have HC:=Cd.o w rb B d _ _ HP.o u;have rp:=RX u;unfold cQ at HC ⊢;have HC:=lh HC;have H2:=lh h2;clear u h2;go_enter Tryz.func162,Tryz.ntmps162
 go_wp2_with fail
 refine HC.o.mono ?_;rintro e w1⟨a0,rfl,zh,dF,dm⟩;have ST:Hid (∃(G:Nat) (us:List Tok) (a:ATree) (t:Tree),G<=F∧Value.pointer (some ⟨a0.b,0,none⟩)=(vP a.b)∧Z3 G (.postLoop t) d us=some r∧Got w B w1 a t∧Rd w1 rb us d∧RFr w w1 rb∧us.length<=ts.length):=
  lh ⟨F,B9,a0,t,Y0 _,rfl,H2.o,zh,dF,dm,rp⟩
 clear zh dF dm rp HC H2;go_wp2_with fail
 go_loopw [3] (λv3 wr=>∃(G:Nat) (us:List Tok) (a:ATree) (t:Tree),G<=F∧v3=(vP a.b)∧Z3 G (.postLoop t) d us=some r∧Got w B wr a t∧Rd wr rb us d∧RFr w wr rb∧us.length<=ts.length) (λ_ wr=>leftOf wr rb)
 case atStart=>exact ST.o
 case round=>
  obtain⟨G,us,a,t,Oi,rfl,hq,hG,Z,hF,hu⟩:=hrel;obtain⟨wo,rfl⟩:∃wo:World,wo=wr:=⟨_,rfl⟩
  obtain⟨ab,bY⟩:=zX a.b
  have sr:=lh bY;rw[<-bY];have G1:=lh hG;have F1:=lh hF;have IK:=lh Z.left;have P1:Pre wo rb B d us:=⟨Z,HP.o.deep,E,Y4 HP.o.le hF.size,Y4 hu HP.o.few⟩
  have P1:=lh P1;have HU:=lh hu;clear hG hF Z hu ST bY;cases G with
  |zero=>cases hq
  |succ G=>
  rw[Z3]at hq;by_cases hd:aa Vi us=true
  .rw[Y5 hd]at hq;have m:=wR wo rb us d Vi P1.o.rd hd;unfold Vi at m;have m:=lh m;have kH:=lh (Zm hd);have J:=lh hq;clear hq hd;go_wp2_with fail
   refine m.o.mono ?_;rintro e w2⟨rfl,am,aq⟩;have P2:=lh (P1.o.tail am aq);have F2:=lh (F1.o.trans aq);have G2:=lh (G1.o.rfr E aq);clear am aq m;rcases V5 J.o with⟨hk,h1⟩|⟨hk,rfl⟩
   .have HC:=lh (Tj w2 rb us.tail d P2.o.rd hk);obtain⟨s,hs⟩:=zX ((bL us.tail).text)
    rw[<-hs]at HC h1;have H3:=lh h1;clear hk h1 hs;go_wp2_with fail
    refine HC.o.mono ?_;rintro e w3⟨rfl,bK,O⟩;have F3:=F2.o.trans O;have G3:=G2.o.rfr E O;have ai:Below w3.heap.size w3 (w3.alloc (.cells #[vP ab] 22)):=(Y2 _ _).alloc (Y0 _) _;have ax:Below w3.heap.size w3 ((w3.alloc (.cells #[vP ab] 22)).alloc (.cells #[vI 36,.string s,vI 0,.slice (some ⟨w3.heap.size,0,none⟩) 1 1] 42)):=ai.alloc Pg _;have hA:=Got.one (k:=36) (t:=s) HP.o.le F3 G3;have HA:=lh hA;have R4:=lh (bK.below ax)
    have F4:=lh (F3.trans (RFr.below (rb:=rb) ax));clear bK O F3 G3 ai ax hA HC;go_wp2_with fail
    refine(Zv _ rb 36 s _ 1 1).mono ?_;rintro e w7⟨rfl,rfl⟩;go_wp2;go_roundw
    case rel=>
     refine⟨G,us.tail.tail,.mk (w3.heap.size+1) (.slice (some ⟨w3.heap.size,0,none⟩) 1 1) 36 s 0 [a],.mk 36 s 0 [t],by omega,by simp[ATree.b],H3.o,?_,R4.o,F4.o,by have:=HU.o;have:=Zu us;have:=Zu us.tail;omega⟩;rw[sr.o];exact HA.o
    case measure=>
     rw[R4.o.left,IK.o];have:=kH.o;have:=Zu us.tail;omega
   .have HC:=lh (UU w2 rb us.tail d P2.o.rd hk);exact Zvr
  ·have rO : aa Vi us = false := by simpa using hd
   rw[Y3 hd]at hq;have m:=xk wo rb us d Vi P1.o.rd rO;unfold Vi at m;have m:=lh m;have J:=lh hq;clear hq hd rO;go_wp2_with fail
   refine m.o.mono ?_;rintro e w2⟨rfl,au⟩;have P2:=lh (P1.o.below au);have F2:=lh (F1.o.trans (RFr.below (rb:=rb) au));have G2:=lh (G1.o.rfr E (RFr.below (rb:=rb) au));clear au m;by_cases hl:aa ub us=true
   ·have hq := J.o;rw [Y5 hl] at hq;have cC := lh hq;have m := wR w2 rb us d ub P2.o.rd hl;unfold ub at m;have m := lh m;have kH := lh (Zm hl);clear hq hl J;go_wp2_with fail
    refine m.o.mono ?_;rintro e w3⟨rfl,bK,O⟩;have F3:=F2.o.trans O;have G3:=G2.o.rfr E O;have ai:Below w3.heap.size w3 (w3.alloc (.cells #[vP ab] 22)):=(Y2 _ _).alloc (Y0 _) _;have ax:Below w3.heap.size w3 ((w3.alloc (.cells #[vP ab] 22)).alloc (.cells #[vI 35,.string ⟨#[]⟩,vI 0,.slice (some ⟨w3.heap.size,0,none⟩) 1 1] 42)):=ai.alloc Pg _;have hA:=Got.one (k:=35) (t:=⟨#[]⟩) HP.o.le F3 G3;have eZ:=bK.below ax;have bh:=F3.trans (RFr.below (rb:=rb) ax)
    have HN:=lh (Zv (w3.alloc (.cells #[vP ab] 22)) rb 35 ⟨#[]⟩ (some ⟨w3.heap.size,0,none⟩) 1 1);clear bK O F3 G3 ai m;go_wp2_with fail
    refine HN.o.mono ?_;rintro e w4⟨rfl,ew⟩;have zi:(w3.alloc (.cells #[vP ab] 22)).heap.size=w3.heap.size+1:=Pg
    rw[zi];obtain⟨nb,dw⟩:=zX (w3.heap.size+1)
    rw[<-dw];have IL:Got w B w4 (.mk nb (.slice (some ⟨w3.heap.size,0,none⟩) 1 1) 35 ⟨#[]⟩ 0 [a]) (.mk 35 ⟨#[]⟩ 0 [t]):=by rw[ew,dw,sr.o];exact hA
    rw[<-ew]at eZ bh;obtain⟨zj,ss⟩:=zX us.tail
    have ST:Hid (∃(g:Nat) (ao:List Tree) (vs:List Tok) (v:Value) (kids:List ATree),g<=G∧Zr (Z3 g (.args ao) d vs) (λn ts=>Z3 G (.postLoop n) d ts)=some r∧Got w B w4 (.mk nb v 35 ⟨#[]⟩ 0 kids) (.mk 35 ⟨#[]⟩ 0 ao)∧Rd w4 rb vs d∧RFr w w4 rb∧1<=ao.length∧ao.length<=9∧vs.length<=zj.length):=
     lh ⟨G,[t],zj,_,[a],Y0 _,by rw[ss];exact cC.o,IL,by rw[ss];exact eZ,bh,by simp,by simp,Y0 _⟩
    have zk:=lh ss;clear ew zi dw hA IL eZ bh ax cC HN ss;go_wp2_with fail
    go_loopw [] (λwr=>∃(g:Nat) (ao:List Tree) (vs:List Tok) (v:Value) (kids:List ATree),g<=G∧Zr (Z3 g (.args ao) d vs) (λn ts=>Z3 G (.postLoop n) d ts)=some r∧Got w B wr (.mk nb v 35 ⟨#[]⟩ 0 kids) (.mk 35 ⟨#[]⟩ 0 ao)∧Rd wr rb vs d∧RFr w wr rb∧1<=ao.length∧ao.length<=9∧vs.length<=zj.length) (λwr=>leftOf wr rb)
    case atStart=>exact ST.o
    case round=>
     obtain⟨g,ao,vs,v,kids,Oj,hq,hG,Z,hF,ku,hl,hu⟩:=hrel;have GG:=lh hG;have Ce:=lh Z;have FF:=lh hF;have RL:=lh Z.left;cases g with
     |zero=>cases hq
     |succ g=>
     have U:=LI wr rb vs d sg Z;have zl:vs.length<=ts.length:=by have e1:=zk.o;have e2:=HU.o;have e3:=Zu us;rw[e1]at hu;omega
     by_cases hb:aa sg vs=true
     .rw[hb]at U;rw[Z3,Y5 hb]at hq;have hq:Z3 G (.postLoop (.mk 35 ByteArray.empty 0 ao)) d vs.tail=some r:=hq;have J:=lh hq;have U:=lh U;have HI:=lh hb;unfold sg at U;have Cf:=lh hu;have IM:=lh zl;clear hG Z hF hq hb ST hu zl;go_wp2_with fail
      refine U.o.mono ?_;rintro e I⟨rfl,eS⟩;have F5:=FF.o.trans (RFr.below (rb:=rb) eS);have X:=GG.o.rfr E (RFr.below (rb:=rb) eS);have R5:=Ce.o.below eS;have HC:=Hb I rb vs d sg R5 HI.o;unfold sg at HC;have HC:=lh HC;have F5:=lh F5;have X:=lh X;clear eS R5 FF GG Ce U;go_wp2_with fail
      refine HC.o.mono ?_;rintro e w6⟨rfl,jJ,fM⟩;have R6:=lh jJ;have F6:=lh (F5.o.trans fM);have G6:=lh (X.o.rfr E fM);clear jJ fM HC F5 X;go_wp2;go_roundw
      case rel=>exact⟨G,vs.tail,_,_,by omega,rfl,J.o,G6.o,R6.o,F6.o,by have:=IM.o;have:=Zu vs;omega⟩
      case measure=>
       rw[R6.o.left,IK.o];have e1:=zk.o;have h2:=Cf.o;rw[e1]at h2;have:=kH.o;have:=Zu vs;omega
     .have dB:aa sg vs=false:=by simpa using hb
      rw[dB]at U;rw[Zly dB]at hq;have U:=lh U;have J:=lh hq;unfold sg at U;have ba:kids.length=ao.length:=by
       have:=hG.tree;exact TH
      have fL:=lh ba;clear hG Z hF hq hb dB ST ba;go_wp2_with fail
      refine U.o.mono ?_;rintro e I⟨rfl,eS⟩;have F5:=FF.o.trans (RFr.below (rb:=rb) eS);have X:=GG.o.rfr E (RFr.below (rb:=rb) eS);have R5:=Ce.o.below eS;have P5:Pre I rb B d vs:=⟨R5,HP.o.deep,E,Y4 HP.o.le F5.size,Y4 zl HP.o.few⟩
      obtain⟨p,cp,rfl⟩:∃p cp,v=.slice p kids.length cp:=by
       rcases Z4 X.at'.rowOf with⟨h1,h2⟩|⟨g0,gf,h1,_⟩
       .simp only[ATree.v,ATree.kids]at h1 h2;exact⟨none,0,by rw[h1,h2]⟩
       .exact⟨_,_,h1⟩
      have ac:=X.at'.blkOf;simp only[ATree.b,ATree.v,ATree.kind,ATree.text,ATree.n]at ac;have n3:vC I nb 3 (.slice p kids.length cp):=Pd
      have F5:=lh F5;have X:=lh X;have P5:=lh P5;have HL:=lh hl;have j7:=lh ku;have Cf:=lh hu;have IM:=lh zl;clear eS R5 FF GG Ce U ac hl ku hu zl;by_cases h0:1<ao.length
      .have a0:decide (1<(kids.length:Int))=true:=by have :=fL.o;simp;omega
       have cT:=J.o;rw[Y5 h0]at cT;have H0:=lh h0;clear h0;by_cases hc:aa wJ vs=true
       .have iS:Ux g G d ao vs.tail=some r:=by rw[iB,Y5 hc]at cT;exact cT
        have HC:=Hb I rb vs d wJ P5.o.rd hc;unfold wJ at HC;have HC:=lh HC;have cC:=lh iS;clear cT hc J iS;go_wp2_with fail
        refine HC.o.mono ?_;rintro e Y⟨rfl,eZ,bh⟩;have PQ:=lh (show Pre Y rb B d vs.tail∧vs.tail.length<=zj.length from⟨P5.o.tail eZ bh,by have:=Cf.o;rw[List.length_tail];omega⟩);have GQ:=lh (X.o.rfr E bh);have FQ:=lh (F5.o.trans bh);have PL:=lh (show vs.tail.length<=vs.length by rw[List.length_tail];omega);have ac:=GQ.o.at'.blkOf;simp only[ATree.b,ATree.v,ATree.kind,ATree.text,ATree.n]at ac;clear n3;have n3:vC Y nb 3 (.slice p kids.length cp):=Pd
        clear eZ bh HC ac F5 X P5;by_cases h8:8<ao.length
        .have n8:decide (8<(kids.length:Int))=true:=by have :=fL.o;simp;omega
         have hr:r=.error (4,(bL vs.tail).at'):=by
          exact Zv5
         subst hr;have HF:=lh (S7 Y rb vs.tail d 4 PQ.o.1.rd);clear h8;go_wp2_with fail
         refine HF.o.mono ?_;exact yR
        .have n8:decide (8<(kids.length:Int))=false:=by have :=fL.o;simp;omega
         have gV:=cC.o;unfold Ux at gV;rw[Y3 h8]at gV;have H8:=lh h8;have H2:=lh gV;clear h8 gV;go_wp2_with fail
         refine Z8 [0,2,4,6,8,10,13,15,17] [9,10,11] (λW=>vC W nb 3 (.slice p kids.length cp)) n3 λ_=>?_;refine dW ?_
         iterate 6
          refine dV ?_
         refine Z6 (λK hK=>?_);go_simp
         have P7:Pre Y.drew rb B d _:=PQ.o.1.below (Y2 _ _).drew;rw[Z8t]at H2;rcases Zf H2.o with⟨⟨c,p⟩,u,rfl⟩|⟨t,vs,u,fY⟩
         .refine(HV.o g O' Y.drew rb B d _ _ P7 u).mono ?_;exact SJ
         .have dA:=Ut _ _ _ _ _ _ u;have fw:=lh fY;refine(HV.o g O' Y.drew rb B d _ _ P7 u).mono ?_;rintro e w3⟨a,rfl,hA,bK,O⟩;have dy:RFr Y w3 rb:=(RFr.refl Y rb).drew.trans O;have eM:=GQ.o.rfr E dy;refine sJ ?_;intro ac;have m3:vC w3 nb 3 (.slice p kids.length cp):=by simp[vC,World.cell?,ac]
          refine SY ?_;intro mz de;refine Ue ?_;intro dJ;refine Zsx ?_;intro aK gz N3 A3 R3 F3 NE;have NA:=lh (show∀y∈(ATree.mk nb (.slice p kids.length cp) 35 ⟨#[]⟩ 0 kids).blocks,y<Y.drew.heap.size from λy hy=>(GQ.o.new y hy).2);have fX:=lh dA;refine s5 ?_;intro i0 hi aD bo bT;clear hK K hA bK dy eM ac dJ aK n3 O u fY P7 dA;refine ta ?_;intro K hK;refine Aae ?_;intro gg cap w4 aT aC bX cg;refine RJ ?_;intro m4;refine RF ?_;clear hK K;intro lT
          have aj:=Got.push E HP.o.le N3.o (wA:=Y.drew) NA.o A3.o F3.o R3.o ((Y2 _ _).alloc (Y0 _) _) aC aT Pk cg;exact tr6
       .have mL:aa wJ vs=false:=by simpa using hc
        have hr:r=.error (3,(bL vs).at'):=by
         rw[iB,Y3 hc]at cT;exact(Yc cT).symm
        subst hr;have HC:=RG I rb vs d wJ P5.o.rd mL;unfold wJ at HC;have HC:=lh HC;clear cT hc mL J;exact Yt
      .have a0:decide (1<(kids.length:Int))=false:=by have :=fL.o;simp;omega
       have iS:Ux g G d ao vs=some r:=by have h:=J.o;rw[Y3 h0]at h;exact h
       have PQ:=lh (show Pre I rb B d vs∧vs.length<=zj.length from⟨P5.o,Cf.o⟩);have GQ:=X;have FQ:=F5;have PL:=lh (Y0 vs.length);have cC:=lh iS;have H0:=lh h0;clear J iS h0;by_cases h8:8<ao.length
       .have n8:decide (8<(kids.length:Int))=true:=by have :=fL.o;simp;omega
        have hr:r=.error (4,(bL vs).at'):=by
         exact Zv5
        subst hr;have HF:=lh (S7 I rb vs d 4 PQ.o.1.rd);clear h8;go_wp2_with fail
        refine HF.o.mono ?_;exact yR
       .have n8:decide (8<(kids.length:Int))=false:=by have :=fL.o;simp;omega
        have gV:=cC.o;unfold Ux at gV;rw[Y3 h8]at gV;have H8:=lh h8;have H2:=lh gV;clear h8 gV;go_wp2_with fail
        refine Z8 [0,2,4,6,8,10,13,15,17] [9,10,11] (λW=>vC W nb 3 (.slice p kids.length cp)) n3 λ_=>?_;refine dW ?_
        iterate 6
         refine dV ?_
        refine Z6 (λK hK=>?_);go_simp
        have P7:Pre I.drew rb B d _:=PQ.o.1.below (Y2 _ _).drew;rw[Z8t]at H2;rcases Zf H2.o with⟨⟨c,p⟩,u,rfl⟩|⟨t,vs,u,fY⟩
        .refine(HV.o g O' I.drew rb B d _ _ P7 u).mono ?_;exact SJ
        .have dA:=Ut _ _ _ _ _ _ u;have fw:=lh fY;refine(HV.o g O' I.drew rb B d _ _ P7 u).mono ?_;rintro e w3⟨a,rfl,hA,bK,O⟩;have dy:RFr I w3 rb:=(RFr.refl I rb).drew.trans O;have eM:=GQ.o.rfr E dy;refine sJ ?_;intro ac;have m3:vC w3 nb 3 (.slice p kids.length cp):=by simp[vC,World.cell?,ac]
         refine SY ?_;intro mz de;refine Ue ?_;intro dJ;refine Zsx ?_;intro aK gz N3 A3 R3 F3 NE;have NA:=lh (show∀y∈(ATree.mk nb (.slice p kids.length cp) 35 ⟨#[]⟩ 0 kids).blocks,y<I.drew.heap.size from λy hy=>(GQ.o.new y hy).2);have fX:=lh dA;refine s5 ?_;intro i0 hi aD bo bT;clear hK K hA bK dy eM ac dJ aK n3 O u fY P7 dA;refine ta ?_;intro K hK;refine Aae ?_;intro gg cap w4 aT aC bX cg;refine RJ ?_;intro m4;refine RF ?_;clear hK K;intro lT
         have aj:=Got.push E HP.o.le N3.o (wA:=I.drew) NA.o A3.o F3.o R3.o ((Y2 _ _).alloc (Y0 _) _) aC aT Pk cg;exact tr6
   .have IN:aa ub us=false:=by simpa using hl
    have hq:=J.o;rw[Y3 hl]at hq;have hr:=Yc hq;have tC:=lh hr.symm;have m:=xk w2 rb us d ub P2.o.rd IN;unfold ub at m;have m:=lh m;clear hq hl IN hr J;go_wp2_with fail
    refine m.o.mono ?_;rintro e w3⟨rfl,aB⟩;have R3:=lh (P2.o.rd.below aB);have F3:=lh (F2.o.trans (RFr.below (rb:=rb) aB));have G3:=lh (G2.o.rfr E (RFr.below (rb:=rb) aB));clear aB m;go_wp2;go_ret;rw[tC.o,sr.o];exact⟨a,rfl,G3.o,R3.o,F3.o⟩
