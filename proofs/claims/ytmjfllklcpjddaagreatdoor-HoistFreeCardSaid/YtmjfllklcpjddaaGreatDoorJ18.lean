/- The document's Free: its walk. -/
import Derived.Test.YtmjfllklcpjddaaGreatDoorJ17
import Derived.Shelf.Sort.Plain
import Derived.Shelf.Slices.In.SortNone
import Derived.Shelf.Slices.In.SortNone2
namespace Go.Proofs.YtmjfllklcpjddaaGreatDoor
open Go Go.RowKit
set_option maxRecDepth 100000
set_option maxHeartbeats 20000000
set_option linter.unusedVariables false
set_option linter.unusedSimpArgs false
structure ZS (w0:World) (fb kb mb:Nat) (l:List ByteArray) (w:World):Prop where
 lo:w0.heap.size≤mb
 bel:Below w0.heap.size w0 w
 f:w.heap[fb]?=some (.cells #[.map (some mb)] 42 (0,0))
 k:w.heap[kb]?=some (.cells #[(.func (.func 13) #[] #[.pointer (some ⟨fb,0,none⟩),.pointer (some ⟨kb,0,none⟩)])] 43 (0,0))
 map:SMap w mb (hasV l)
structure ZFar (mb:Nat) (w w':World):Prop where
 size:w.heap.size≤w'.heap.size
 blk:∀ k,k < w.heap.size→k≠mb→w'.heap[k]?=w.heap[k]?
theorem ZFar.trans {mb:Nat} {w w' w2:World} (h:ZFar mb w w') (g:ZFar mb w' w2):ZFar mb w w2:=
 ⟨Ya h.size g.size,fun k hk hn=>(g.blk k (Ye hk h.size) hn).trans (h.blk k hk hn)⟩
theorem ZFar.below {mb:Nat} {w w':World} (h:Below w.heap.size w w'):ZFar mb w w':=⟨h.size,fun k hk _=>h.block k hk⟩
theorem ZS.below {w0 w w':World} {fb kb mb:Nat} {l:List ByteArray} (h:ZS w0 fb kb mb l w) (g:Below w.heap.size w w'):ZS w0 fb kb mb l w':=
 ⟨h.lo,h.bel.trans (g.mono h.bel.size),(g.block fb (Y6.1 h.f).1).trans h.f,(g.block kb (Y6.1 h.k).1).trans h.k,h.map.bel g⟩
theorem ZS.notMap {w0 w:World} {fb kb mb:Nat} {l:List ByteArray} (h:ZS w0 fb kb mb l w) {g:Nat} {c:Array Value} {t:TypeId} {z:Nat×Nat} (hg:w.heap[g]?=some (.cells c t z)):g≠mb:=by
 intro e;obtain ⟨es,clock,hm,_⟩:=h.map;rw [e,hm] at hg;cases hg
theorem ZS.cells {w0 w:World} {fb kb mb:Nat} {l:List ByteArray} (h:ZS w0 fb kb mb l w):w.cell? ⟨fb,0,none⟩=some (.map (some mb))∧w.cell? ⟨kb,0,none⟩=some (.func (.func 13) #[] #[.pointer (some ⟨fb,0,none⟩),.pointer (some ⟨kb,0,none⟩)]):=by
 have h1:=h.f;have h2:=h.k;simp [World.cell?,h1,h2]
theorem ZS.put {w0 w w':World} {fb kb mb:Nat} {l:List ByteArray} {s:ByteArray} (h:ZS w0 fb kb mb l w) (hm:SMap w' mb (fun x=>if x=s then some (Value.bool true) else hasV l x)) (hg:w.grownBy w' (some mb)):ZS w0 fb kb mb (l ++ [s]) w'∧ZFar mb w w':=by
 have hl:=h.lo;have hb:∀ k,k < w.heap.size→k≠mb→w'.heap[k]?=w.heap[k]?:=fun k hk hn=>hg.block k hk (fun e=>hn (by cases e; rfl));rw [Zjf] at hm;refine ⟨⟨hl,⟨hg.os.trans h.bel.os,hg.tape.trans h.bel.tape,hg.output.trans h.bel.output,Ya h.bel.size hg.size,fun k hk=>(hb k (Ye hk h.bel.size) (by omega)).trans (h.bel.block k hk)⟩,?_,?_,hm⟩,⟨hg.size,hb⟩⟩;·exact (hb fb (Y6.1 h.f).1 (h.notMap h.f)).trans h.f
 ·exact (hb kb (Y6.1 h.k).1 (h.notMap h.k)).trans h.k
theorem Zp.rfar {w0 w w':World} {fb kb mb B:Nat} {l K:List ByteArray} {v:Value} (h:Zp w B v K) (r:ZS w0 fb kb mb l w) (f:ZFar mb w w'):Zp w' B v K:=by
 refine Zh h fun g hg=>f.blk g (Yh h g hg).2 ?_;rcases h.2 with ⟨e,_⟩ | ⟨g',cap,cur,e,_,hc,_⟩;·rw [e] at hg; cases hg
 ·have e2 : g' = g := by rw [e] at hg; simpa [Value.ownBlock] using hg
  subst e2;exact r.notMap hc
theorem tlow {w:World} {B B':Nat} {v:Value} {K:List ByteArray} (h:Zp w B' v K) (hb:B≤B'):Zp w B v K:=Zan h hb
theorem zone {w:World} {B:Nat} (hB:B≤w.heap.size) (s:ByteArray):Zp (w.alloc (.cells #[.string s] 9)) B (.slice (some ⟨w.heap.size,0,none⟩) 1 1) [s]:=by
 refine ⟨rfl,.inr ⟨w.heap.size,1,#[.string s],rfl,hB,heap_alloc_new w _,Y5 _,by unfold maxLen; omega,rfl,rfl⟩⟩
theorem Zbk (w:World) (B:Nat) (ty:TypeId) {v kv:Value} {N K:List ByteArray} (h:Zp w B v N) (hk:Zp w 0 kv K) (hB:B≤w.heap.size) (hl:N.length + K.length≤3000000000000) :
 ∃ v2 w2,(Builtin.append_ #[26,26] ty #[v,kv]).run Tryz.prog w=.ok v2 w2∧Zp w2 B v2 (N ++ K)∧Below B w w2:=by
 obtain ⟨i0,hi,hz0,hz1,hz2⟩:=info_parts Tryz.infoStr;by_cases hK:K=[]
 ·subst hK;obtain ⟨p,c,rfl⟩:∃ p c,kv=.slice p 0 c:=by
   rcases hk.form with ⟨h1,_⟩ | ⟨g,cap,h1,_⟩;·exact ⟨_,_,h1⟩
   ·exact ⟨_,_,h1⟩
  refine ⟨v,w,Z5s w B 26 ty 9 i0 1 Tryz.underlying26 hi v _ _ h p c,by rw [List.append_nil]; exact h,Y8 _ _⟩
 ·obtain ⟨g,cap,rfl,_⟩:∃ g cap,kv=.slice (some ⟨g,0,none⟩) K.length cap∧True:=by
   rcases hk.form with ⟨_,h1⟩ | ⟨g,cap,h1,_⟩;·exact absurd h1 hK
   ·exact ⟨_,_,h1,trivial⟩
  obtain ⟨v',w',hrun,r1,r2,_⟩:=run_append_own (P:=Tryz.prog) w B 26 ty 9 i0 (.string ByteArray.empty) 1 16 Tryz.underlying26 hi hz0 hz1 hz2 rfl (by decide) v _ _ h ⟨g,0,none⟩ K.length cap (K.map Value.string) (by rw [Yv,Nat.mul_one]) (fun j u hu=>by
   obtain ⟨s,hs,rfl⟩:=Zav hu;rw [Z57];exact hk.cells rfl hs) (Zfm K) (by unfold maxLen; omega) (by omega) hB
  exact ⟨v',w',hrun,Z51 r1 rfl,(Y8 _ _).grown r2 hB fun j hj=>(Yh h j hj).1⟩
theorem Z0q (w:World) (B:Nat) {ops:Array Oper} {rest:List Oper} {o:Oper} {a:Act} {Q:Exit→Act→World→Prop} (hgd:o.guard=none) (s x:Operand)
 (hop:o.op=Op.call { callee:=Callee.builtin Builtin.append,args:=#[s,x],argTypes:=#[26,26] })
 {v kv:Value} {N K:List ByteArray} (h:Zp w B v N) (hs:a.eval s=v) (hk:Zp w 0 kv K) (hx:a.eval x=kv) (hB:B≤w.heap.size) (hl:N.length + K.length≤3000000000000)
 (hK:∀ v2 w2,Zp w2 B v2 (N ++ K)→Below B w w2→wpList Tryz.prog ops Q rest (a.put o.dst v2) w2):wpList Tryz.prog ops Q (o :: rest) a w:=by
 refine wpList_plain hgd fun KK hK'=>?_;obtain ⟨v2,w2,hrun,h1,h2⟩:=Zbk w B o.type h hk hB hl;unfold Oper.wp;simp [execOp,hop,resolve,invoke,builtin,hs,hx,hrun,Result.andThen];exact hK' _ _ (hK v2 w2 h1 h2)
theorem Zeo (l:List ATree) (x:ATree) (K:List ByteArray):Z2j (l ++ [x]) K=Z2j l K ++ Z2h x K:=by
 induction l with
 | nil=>simp [Z2j]
 | cons a l ih=>simp [Z2j,ih]
theorem Zch {l:List ATree} {k:Nat} {x:ATree} (h:l[k]?=some x) (K:List ByteArray):Z2j (l.take (k + 1)) K=Z2j (l.take k) K ++ Z2h x K:=by
 obtain ⟨hk,he⟩:=List.getElem?_eq_some_iff.1 h;rw [List.take_succ_eq_append_getElem hk,he,Zeo]
def Zkm (w0:World) (fb kb mb:Nat) (l r:List ByteArray) (w:World) (e:Ending) (w':World):Prop:=
 e=.returned (.tuple #[])∧ZS w0 fb kb mb (l ++ r) w'∧ZFar mb w w'
def Zjm (w0:World) (fb kb mb B m:Nat):Prop:=
 ∀ (a : ATree) (w : World) (kv : Value) (l K : List ByteArray), a.many ≤ m → a.many ≤ 100000 → WA a → TreeAt w0 B a → ZS w0 fb kb mb l w → Zp w 0 kv K → K.length + a.many * 1000000 ≤ 1000000000000 →
   Calls Tryz.prog 13 #[a.ptr,kv,.pointer (some ⟨fb,0,none⟩),.pointer (some ⟨kb,0,none⟩)] w (Zkm w0 fb kb mb l (Z2h a K) w)
theorem Zet {w0:World} {fb kb mb B m:Nat} (ih:Zjm w0 fb kb mb B m):Zjm w0 fb kb mb B (m + 1):=by
 intro a w kv l K hm hmx hA hT hR hK hKb;have hTw:=hT.bel hR.bel;have c0:=hTw.c0;have c1:=hTw.c1;have hnt:=Z5l true a;have hnf:=Z5l false a;have hself:=hA.self
 obtain ⟨o,K2,pre,hdef,hcase,hol,hoT,hoA,hKl⟩:∃ (o:ATree) (K2 pre:List ByteArray),Z2h a K=pre ++ Z2j o.kids K2 ∧
  (a.kind = 23 ∧ o = a ∧ K2 = K ∧ pre = (if Lib.containsS K a.text then [] else [a.text]) ∨
   a.kind=1∧o=a∧K2=Z1k true a ++ K∧pre=[]∨a.kind=6∧o=a∧K2=Z1k false a ++ K∧pre=[]∨a.kind=13∧o=a∧K2=[a.text] ++ K∧pre=[] ∨
   (a.kind=5∨a.kind=37)∧(∃ ps,a.kids=[ps,o]∧K2=Za7 K a.kind a.text ps o)∧pre=[] ∨
   (a.kind≠23∧a.kind≠1∧a.kind≠6∧a.kind≠13∧a.kind≠5∧a.kind≠37)∧o=a∧K2=K∧pre=[])∧o.many≤a.many∧TreeAt w0 B o∧WA o∧K2.length≤K.length + 900000:=by
  by_cases h5:a.kind=5∨a.kind=37
  ·obtain ⟨ps, bd, hk⟩ := Zj8 (hself.two (by omega));have mp : ps ∈ a.kids := by rw [hk]; simp
   have mb:bd∈a.kids:=by rw [hk]; simp
   have h1:=Z1t mp;have h2:=Z1t mb;have h3:=Z5l true bd;have h4:=Z1m [] ps.kids;have h6:=Z22 ps;refine ⟨bd,Za7 K a.kind a.text ps bd,[],?_,.inr (.inr (.inr (.inr (.inl ⟨h5,⟨ps,hk,rfl⟩,rfl⟩)))),by omega,hT.kid mb,hA.kid mb,?_⟩
   ·obtain ⟨b,vv,k,t,n,ks⟩:=a;obtain ⟨b2,v2,k2,t2,n2,bks⟩:=bd;simp only [ATree.kind] at h5;simp only [ATree.kids] at hk;subst hk;rw [Z2h.eq_def];simp only [];rw [Y9 (by omega),Y9 (by omega),Y9 (by omega),Y9 (by omega),Yb h5];rfl
   ·unfold Za7;simp only [List.length_append,List.length_nil,Nat.zero_add] at h4 ⊢;split <;> simp <;> omega
  have hE:∀ K2 pre,Z2h a K=pre ++ Z2j a.kids K2→Z2h a K=pre ++ Z2j a.kids K2:=fun _ _ h=>h;by_cases h23:a.kind=23
  ·refine ⟨a,K,_,?_,.inl ⟨h23,rfl,rfl,rfl⟩,Y5 _,hT,hA,by omega⟩;obtain ⟨b,vv,k,t,n,ks⟩:=a;simp only [ATree.kind] at h23;rw [Z2h.eq_def];simp only [];rw [Yb h23];rfl
  by_cases h1:a.kind=1
  ·refine ⟨a,_,[],?_,.inr (.inl ⟨h1,rfl,rfl,rfl⟩),Y5 _,hT,hA,by rw [Yq]; omega⟩;obtain ⟨b,vv,k,t,n,ks⟩:=a;simp only [ATree.kind] at h1;rw [Z2h.eq_def];simp only [];rw [Y9 (by omega),Yb h1];rfl
  by_cases h6:a.kind=6
  ·refine ⟨a,_,[],?_,.inr (.inr (.inl ⟨h6,rfl,rfl,rfl⟩)),Y5 _,hT,hA,by rw [Yq]; omega⟩;obtain ⟨b,vv,k,t,n,ks⟩:=a;simp only [ATree.kind] at h6;rw [Z2h.eq_def];simp only [];rw [Y9 (by omega),Y9 (by omega),Yb h6];rfl
  by_cases h13:a.kind=13
  ·refine ⟨a,_,[],?_,.inr (.inr (.inr (.inl ⟨h13,rfl,rfl,rfl⟩))),Y5 _,hT,hA,by rw [Yq,List.length_singleton]; omega⟩;obtain ⟨b,vv,k,t,n,ks⟩:=a;simp only [ATree.kind] at h13;rw [Z2h.eq_def];simp only [];rw [Y9 (by omega),Y9 (by omega),Y9 (by omega),Yb h13];rfl
  refine ⟨a,K,[],?_,.inr (.inr (.inr (.inr (.inr ⟨⟨h23,h1,h6,h13,fun h=>h5 (.inl h),fun h=>h5 (.inr h)⟩,rfl,rfl,rfl⟩)))),Y5 _,hT,hA,by omega⟩;obtain ⟨b,vv,k,t,n,ks⟩:=a;simp only [ATree.kind] at h23 h1 h6 h13 h5;rw [Z2h.eq_def];simp only [];rw [Y9 h23,Y9 h1,Y9 h6,Y9 h13,Y9 h5];rfl
 rw [hdef];have HIH:=lh (fun (x:ATree) (hx:x∈o.kids) (W:World) (kv2:Value) (l1:List ByteArray) (r1:ZS w0 fb kb mb l1 W) (k1:Zp W 0 kv2 K2)=>
  ih x W kv2 l1 K2 (by have:=Z1t hx; omega) (by have:=Z1t hx; omega) (hoA.kid hx) (hoT.kid hx) r1 k1 (by have:=Z1t hx; omega))
 obtain ⟨p,cp,hv,hge,hcp⟩:=hoT.vOf;have HTR:=lh (fun W (h:Below w0.heap.size w0 W)=>hoT.bel h);have HC3:=lh (fun W (h:Below w0.heap.size w0 W)=>show W.cell? ⟨o.b,3,none⟩=some (.slice p o.kids.length cp) from by rw [← hv]; exact (hoT.bel h).c3);have HNT:=lh (fun W (h:Below w0.heap.size w0 W)=>Z8q W B a (hT.bel h) hmx);have HNF:=lh (fun W (h:Below w0.heap.size w0 W)=>Zc2 W B a (hT.bel h) hmx);have HIN:=lh (fun W (h:Below w0.heap.size w0 W)=>Z6c W B a (hT.bel h));have HHA:=lh (fun s=>Zg4 hK s);have hin:Z2q a=(a.kind == 5 || a.kind == 37):=rfl
 rw [hin] at HIN;have HR:=lh hR;have HK:=lh hK;have HV:=lh hv;have HFP:=lh (fun (ps:ATree) (hk:a.kids=[ps,o])=>Zja hTw hk);have HPA:=lh (fun (ps:ATree) (hk:a.kids=[ps,o]) W (h:Below w0.heap.size w0 W)=>Zdi W B a ps o (hT.bel h) hk hmx);have HNO:=lh (fun W (h:Below w0.heap.size w0 W)=>Z8q W B o (hoT.bel h) (by omega));obtain ⟨NT,hNT⟩:=zX (Z1k true a)
 obtain ⟨NF,hNF⟩:=zX (Z1k false a)
 rw [← hNT] at HNT hcase hnt;rw [← hNF] at HNF hcase hnf;obtain ⟨tx,htx⟩:=zX a.text
 rw [← htx] at c1 hcase;obtain ⟨kd,hkd⟩:=zX a.kind
 rw [← hkd] at c0 hcase HIN;obtain ⟨n,hn⟩:=zX o.kids.length
 rw [← hn] at hge HV HC3;have HN:=lh hn;have hnm:n≤100000:=by have:=Z22 o; omega
 have hKb2:K.length≤1000000000000:=by omega
 have hl1:NT.length + K.length≤3000000000000:=by omega
 have hl2:NF.length + K.length≤3000000000000:=by omega
 have hlo:(Z1k true o).length≤300000:=by have:=Z5l true o; omega
 have hpm:∀ ps,a.kids=[ps,o]→(Z0o [] ps.kids).length≤100000:=fun ps hk=>by
  have h1:ps∈a.kids:=by rw [hk]; simp
  have h2:=Z1t h1;have h3:=Z22 ps;have h4:=Z1m [] ps.kids;simp at h4;omega
 have HPM:=lh hpm;unfold maxLen at hcp;have hab:a.b < w.heap.size:=hTw.lt;have HBA:=lh hTw.blkOf;unfold ATree.ptr at HNT HNF HIN HPA HNO ⊢;clear ih hA hT hR hK hKb hTw hdef hKl hm hmx hv htx hkd hn hNT hNF hnt hnf hself hol hoT hoA hin hpm;rcases hcase with ⟨rfl,ho,hK2,hpre⟩ | ⟨rfl,ho,hK2,hpre⟩ | ⟨rfl,ho,hK2,hpre⟩ | ⟨rfl,ho,hK2,hpre⟩ | ⟨h5,⟨ps,hk,hK2⟩,hpre⟩ | ⟨⟨h23,h1,h6,h13,h5,h37⟩,ho,hK2,hpre⟩
 focus
  have c3a:w.cell? ⟨a.b,3,none⟩=some (.slice p n cp):=by have h:=HC3.out w HR.out.bel; rwa [ho] at h
  clear ho;have HCA:=lh (fun W (q:Below w.heap.size w W)=>show W.cell? ⟨a.b,3,none⟩=some (.slice p n cp) from (Yj (q.block a.b hab)).trans c3a);obtain ⟨cb,hcb⟩:=zX (Lib.containsS K tx)
  rw [← hcb] at hpre;have HHT:=lh (show Calls Tryz.prog 14 #[kv,.string tx] w fun e w'=>e=.returned (.bool cb)∧w'=w from by rw [hcb]; exact HHA.out tx);have HK2:=lh hK2;clear hcb hK2;cases cb
  focus
   have HPRE:=lh (show pre=[tx] from hpre);clear hpre;have f0:=HR.out.cells.1;go_enter Tryz.func13,Tryz.ntmps13
   go_wp2_with fail
   refine HHT.out.mono ?_;rintro e w' ⟨rfl,hww⟩;rw [hww];clear hww w';go_wp2_with fail
   refine Z1 [(true,0),(true,1),(true,2),(true,3),(true,4)] [5] (fun W=>W.cell? ⟨fb,0,none⟩=some (.map (some mb))∧W.cell? ⟨a.b,1,none⟩=some (.string tx)) (by kernel_rfl) (by kernel_rfl) (fun _ _ d _ _ h=>by cases d <;> exact h) ⟨f0,c1⟩ (fun hS0=>?_);simp only [Zf,zD,zE,zF,zG,zH,zI]
   iterate 5
    first
     | (refine Z2 ?_ (by rfl) (fun w' hS'=>?_) ?_; rotate_left; (obtain ⟨s0,s1⟩:=hS'; go_simp; first | done | with_reducible rfl); simp only [Act.put,zA,zB,zC])
     | (refine Z3 (by rfl) ?_; simp only [Act.put,zA,zB,zC])
   refine Z6 ?_;obtain ⟨w5,hrun,hs5,hg5⟩:=SMap.update (show SMap w.drew mb (hasV l) from HR.out.map.kept rfl) Tryz.underlying42 tx (.bool true);have HP:=lh (ZS.put (HR.out.below (Y8 _ _).drew) hs5 hg5);have c35:w5.cell? ⟨a.b,3,none⟩=some (.slice p n cp):=(Yj (HP.out.2.blk a.b hab (HR.out.notMap (HBA.out)))).trans c3a;clear c3a hs5 hg5;go_wp2_with fail
   refine Z28 fun wS hwS=>?_;have HKS:=lh (show Zp wS 0 _ K2 from by rw [hwS,HK2.out]; exact HK.out.rfar HR.out ((ZFar.below (Y8 _ _).drew).trans HP.out.2));have HRS:=lh (show ZS w0 fb kb mb (l ++ pre) wS from by rw [hwS,HPRE.out]; exact HP.out.1);have HFS:=lh (show ZFar mb w wS from by rw [hwS]; exact (ZFar.below (Y8 _ _).drew).trans HP.out.2);clear hwS
  rotate_left
  focus
   have HPRE:=lh (show pre=[] from hpre);clear hpre;go_enter Tryz.func13,Tryz.ntmps13
   go_wp2_with fail
   refine HHT.out.mono ?_;rintro e w' ⟨rfl,hww⟩;rw [hww];clear hww w';go_wp2_with fail
   refine Z28 fun wS hwS=>?_;have HKS:=lh (show Zp wS 0 _ K2 from by rw [hwS,HK2.out]; exact HK.out);have HRS:=lh (show ZS w0 fb kb mb (l ++ pre) wS from by rw [hwS,HPRE.out]; exact by rw [List.append_nil]; exact HR.out);have HFS:=lh (show ZFar mb w wS from by rw [hwS]; exact ZFar.below (Y8 _ _));clear hwS
 rotate_left 2
 focus
  have c3a:w.cell? ⟨a.b,3,none⟩=some (.slice p n cp):=by have h:=HC3.out w HR.out.bel; rwa [ho] at h
  clear ho;have HCA:=lh (fun W (q:Below w.heap.size w W)=>show W.cell? ⟨a.b,3,none⟩=some (.slice p n cp) from (Yj (q.block a.b hab)).trans c3a);have HK2:=lh hK2;have HPRE:=lh hpre;clear hK2 hpre;go_enter Tryz.func13,Tryz.ntmps13
  go_wp2_with fail
  refine (HNT.out w HR.out.bel).mono ?_;rintro e w1 ⟨v1,rfl,ht1,hb1⟩;have HT1:=lh ht1;have HB1:=lh hb1;have HK1:=lh (HK.out.bel hb1);clear ht1 hb1;go_wp2_with (at_builtin; (refine Z0q w1 w.heap.size rfl (.tmp 38) (.tmp 39) rfl HT1.out rfl HK1.out rfl HB1.out.size hl1 ?_); intro v2 w2 ht hb; have HT2:=lh ht; have HB2:=lh (HB1.out.trans hb); have c32:=HCA.out w2 HB2.out; clear ht hb)
  refine Z28 fun wS hwS=>?_;have HKS:=lh (show Zp wS 0 _ K2 from by rw [hwS,HK2.out]; exact tlow HT2.out (Yp _));have HRS:=lh (show ZS w0 fb kb mb (l ++ pre) wS from by rw [hwS,HPRE.out]; exact by rw [List.append_nil]; exact HR.out.below HB2.out);have HFS:=lh (show ZFar mb w wS from by rw [hwS]; exact ZFar.below HB2.out);clear hwS
 rotate_left
 focus
  have c3a:w.cell? ⟨a.b,3,none⟩=some (.slice p n cp):=by have h:=HC3.out w HR.out.bel; rwa [ho] at h
  clear ho;have HCA:=lh (fun W (q:Below w.heap.size w W)=>show W.cell? ⟨a.b,3,none⟩=some (.slice p n cp) from (Yj (q.block a.b hab)).trans c3a);have HK2:=lh hK2;have HPRE:=lh hpre;clear hK2 hpre;go_enter Tryz.func13,Tryz.ntmps13
  go_wp2_with fail
  refine (HNF.out w HR.out.bel).mono ?_;rintro e w1 ⟨v1,rfl,ht1,hb1⟩;have HT1:=lh ht1;have HB1:=lh hb1;have HK1:=lh (HK.out.bel hb1);clear ht1 hb1;go_wp2_with (at_builtin; (refine Z0q w1 w.heap.size rfl (.tmp 48) (.tmp 49) rfl HT1.out rfl HK1.out rfl HB1.out.size hl2 ?_); intro v2 w2 ht hb; have HT2:=lh ht; have HB2:=lh (HB1.out.trans hb); have c32:=HCA.out w2 HB2.out; clear ht hb)
  refine Z28 fun wS hwS=>?_;have HKS:=lh (show Zp wS 0 _ K2 from by rw [hwS,HK2.out]; exact tlow HT2.out (Yp _));have HRS:=lh (show ZS w0 fb kb mb (l ++ pre) wS from by rw [hwS,HPRE.out]; exact by rw [List.append_nil]; exact HR.out.below HB2.out);have HFS:=lh (show ZFar mb w wS from by rw [hwS]; exact ZFar.below HB2.out);clear hwS
 rotate_left
 focus
  have c3a:w.cell? ⟨a.b,3,none⟩=some (.slice p n cp):=by have h:=HC3.out w HR.out.bel; rwa [ho] at h
  clear ho;have HCA:=lh (fun W (q:Below w.heap.size w W)=>show W.cell? ⟨a.b,3,none⟩=some (.slice p n cp) from (Yj (q.block a.b hab)).trans c3a);have HK2:=lh hK2;have HPRE:=lh hpre;clear hK2 hpre;have HB1:Hid (Below w.heap.size w (w.alloc (.cells #[.string tx] 9))):=lh ((Y8 _ _).alloc (Y5 _) _);have HT1:=lh (zone (w:=w) (Y5 _) tx);have HK1:=lh (HK.out.bel HB1.out);have hl3:[tx].length + K.length≤3000000000000:=by simp; omega
  go_enter Tryz.func13,Tryz.ntmps13
  go_wp2_with (at_builtin; (refine Z0q (w.alloc (.cells #[.string tx] 9)) w.heap.size rfl (.tmp 61) (.tmp 62) rfl HT1.out rfl HK1.out rfl HB1.out.size hl3 ?_); intro v2 w2 ht hb; have HT2:=lh ht; have HB2:=lh (HB1.out.trans hb); have c32:=HCA.out w2 HB2.out; clear ht hb)
  refine Z28 fun wS hwS=>?_;have HKS:=lh (show Zp wS 0 _ K2 from by rw [hwS,HK2.out]; exact tlow HT2.out (Yp _));have HRS:=lh (show ZS w0 fb kb mb (l ++ pre) wS from by rw [hwS,HPRE.out]; exact by rw [List.append_nil]; exact HR.out.below HB2.out);have HFS:=lh (show ZFar mb w wS from by rw [hwS]; exact ZFar.below HB2.out);clear hwS
 rotate_left
 rcases h5 with rfl | rfl
 focus
  obtain ⟨g,cpa,p2,cp2,hge2,hcpa,_,_,hall⟩:=HFP.out ps hk;have HALL:=lh hall;have HPX:=lh (HPA.out ps hk);have HLP:=lh (HPM.out ps hk);obtain ⟨c3a,k0,k1,_,_,_,_⟩:=hall w (Y8 _ _);have HK2:=lh (show K2=Z1k true o ++ (Z0o [] ps.kids ++ [Zs] ++ K) from hK2);have HPRE:=lh hpre;clear hK2 hpre hall hk;go_enter Tryz.func13,Tryz.ntmps13
  go_wp2_with fail
  refine (HIN.out w HR.out.bel).mono ?_;rintro e w' ⟨rfl,hww⟩;rw [hww];clear hww w';go_wp2_with fail
  have HT3:=HK;have HB3:=lh (Y8 w.heap.size w);refine (HPX.out w (HR.out.bel.trans (HB3.out.mono HR.out.bel.size))).mono ?_;rintro e w4 ⟨v4,rfl,ht4,hb4⟩;have HX5:Hid (Below w.heap.size w (w4.alloc (.cells #[.string Zs] 9))):=lh (hb4.alloc hb4.size _);have HT4:=lh (ht4.bel ((Y8 _ _).alloc (Y5 _) (.cells #[.string Zs] 9)));have HT5:=lh (zone (w:=w4) (B:=0) (Yp _) Zs);have hl4:(Z0o [] ps.kids).length + [Zs].length≤3000000000000:=by have:=HLP.out; simp; omega
  have hl5:(Z0o [] ps.kids ++ [Zs]).length + K.length≤3000000000000:=by have:=HLP.out; simp; omega
  have hl6:(Z1k true o).length + (Z0o [] ps.kids ++ [Zs] ++ K).length≤3000000000000:=by have:=HLP.out; simp; omega
  clear ht4 hb4
  go_wp2_with (first | (at_builtin; (refine Z0q (w4.alloc (.cells #[.string Zs] 9)) w.heap.size rfl (.tmp 80) (.tmp 81) rfl HT4.out rfl HT5.out rfl HX5.out.size hl4 ?_); intro v5 w5 ht hb; have HT7:=lh ht; have HX7:=lh (HX5.out.trans hb); have HT8:=lh (HT3.out.bel HX7.out); clear ht hb) | (at_builtin; (refine Z0q w5 w.heap.size rfl (.tmp 82) (.tmp 83) rfl HT7.out rfl HT8.out rfl HX7.out.size hl5 ?_); intro v9 w9 ht hb; have HT9:=lh (tlow ht (Yp _)); have HB9:=lh (HB3.out.trans ((HX7.out.trans hb).mono HB3.out.size)); obtain ⟨c39,k09,k19,_,_,_,_⟩:=HALL.out w9 HB9.out; clear ht hb) | fail)
  refine (HNO.out w9 (HR.out.bel.trans (HB9.out.mono HR.out.bel.size))).mono ?_;rintro e w10 ⟨v10,rfl,ht10,hb10⟩;have HT10:=lh ht10;have HB10:=lh hb10;have HK10:=lh (HT9.out.bel hb10);have HSZ:=lh hb10.size;clear ht10 hb10 c39 k09 k19
  go_wp2_with (first | (at_builtin; (refine Z0q w10 w9.heap.size rfl (.tmp 91) (.tmp 92) rfl HT10.out rfl HK10.out rfl HSZ.out hl6 ?_); intro v2 w2 ht hb; have HT2:=lh ht; have HB2:=lh (HB9.out.trans ((HB10.out.trans hb).mono HB9.out.size)); obtain ⟨c32,k02,k12,_,_,_,_⟩:=HALL.out w2 HB2.out; have o32:=HC3.out w2 (HR.out.bel.trans (HB2.out.mono HR.out.bel.size)); clear ht hb) | fail)
  refine Z28 fun wS hwS=>?_;have HKS:=lh (show Zp wS 0 _ K2 from by rw [hwS,HK2.out]; exact tlow HT2.out (Yp _));have HRS:=lh (show ZS w0 fb kb mb (l ++ pre) wS from by rw [hwS,HPRE.out]; exact by rw [List.append_nil]; exact HR.out.below HB2.out);have HFS:=lh (show ZFar mb w wS from by rw [hwS]; exact ZFar.below HB2.out);clear hwS
 rotate_left
 focus
  obtain ⟨g,cpa,p2,cp2,hge2,hcpa,_,_,hall⟩:=HFP.out ps hk;have HALL:=lh hall;have HPX:=lh (HPA.out ps hk);have HLP:=lh (HPM.out ps hk);obtain ⟨c3a,k0,k1,_,_,_,_⟩:=hall w (Y8 _ _);have HK2:=lh (show K2=Z1k true o ++ (Z0o [] ps.kids ++ [Zs] ++ ([tx] ++ K)) from hK2);have HPRE:=lh hpre;clear hK2 hpre hall hk;have HB1:Hid (Below w.heap.size w (w.alloc (.cells #[.string tx] 9))):=lh ((Y8 _ _).alloc (Y5 _) _);have HT1:=lh (zone (w:=w) (Y5 _) tx);have HK1:=lh (HK.out.bel HB1.out)
  have hl3:[tx].length + K.length≤3000000000000:=by simp; omega
  go_enter Tryz.func13,Tryz.ntmps13
  go_wp2_with fail
  refine (HIN.out w HR.out.bel).mono ?_;rintro e w' ⟨rfl,hww⟩;rw [hww];clear hww w';go_wp2_with (at_builtin; (refine Z0q (w.alloc (.cells #[.string tx] 9)) w.heap.size rfl (.tmp 76) (.tmp 77) rfl HT1.out rfl HK1.out rfl HB1.out.size hl3 ?_); intro v3 w3 ht hb; have HT3:=lh (tlow ht (Yp _)); have HB3:=lh (HB1.out.trans hb); clear ht hb)
  refine (HPX.out w3 (HR.out.bel.trans (HB3.out.mono HR.out.bel.size))).mono ?_;rintro e w4 ⟨v4,rfl,ht4,hb4⟩;have HX5:Hid (Below w3.heap.size w3 (w4.alloc (.cells #[.string Zs] 9))):=lh (hb4.alloc hb4.size _);have HT4:=lh (ht4.bel ((Y8 _ _).alloc (Y5 _) (.cells #[.string Zs] 9)));have HT5:=lh (zone (w:=w4) (B:=0) (Yp _) Zs);have hl4:(Z0o [] ps.kids).length + [Zs].length≤3000000000000:=by have:=HLP.out; simp; omega
  have hl5:(Z0o [] ps.kids ++ [Zs]).length + ([tx] ++ K).length≤3000000000000:=by have:=HLP.out; simp; omega
  have hl6:(Z1k true o).length + (Z0o [] ps.kids ++ [Zs] ++ ([tx] ++ K)).length≤3000000000000:=by have:=HLP.out; simp; omega
  clear ht4 hb4
  go_wp2_with (first | (at_builtin; (refine Z0q (w4.alloc (.cells #[.string Zs] 9)) w3.heap.size rfl (.tmp 80) (.tmp 81) rfl HT4.out rfl HT5.out rfl HX5.out.size hl4 ?_); intro v5 w5 ht hb; have HT7:=lh ht; have HX7:=lh (HX5.out.trans hb); have HT8:=lh (HT3.out.bel HX7.out); clear ht hb) | (at_builtin; (refine Z0q w5 w3.heap.size rfl (.tmp 82) (.tmp 83) rfl HT7.out rfl HT8.out rfl HX7.out.size hl5 ?_); intro v9 w9 ht hb; have HT9:=lh (tlow ht (Yp _)); have HB9:=lh (HB3.out.trans ((HX7.out.trans hb).mono HB3.out.size)); obtain ⟨c39,k09,k19,_,_,_,_⟩:=HALL.out w9 HB9.out; clear ht hb) | fail)
  refine (HNO.out w9 (HR.out.bel.trans (HB9.out.mono HR.out.bel.size))).mono ?_;rintro e w10 ⟨v10,rfl,ht10,hb10⟩;have HT10:=lh ht10;have HB10:=lh hb10;have HK10:=lh (HT9.out.bel hb10);have HSZ:=lh hb10.size;clear ht10 hb10 c39 k09 k19
  go_wp2_with (first | (at_builtin; (refine Z0q w10 w9.heap.size rfl (.tmp 91) (.tmp 92) rfl HT10.out rfl HK10.out rfl HSZ.out hl6 ?_); intro v2 w2 ht hb; have HT2:=lh ht; have HB2:=lh (HB9.out.trans ((HB10.out.trans hb).mono HB9.out.size)); obtain ⟨c32,k02,k12,_,_,_,_⟩:=HALL.out w2 HB2.out; have o32:=HC3.out w2 (HR.out.bel.trans (HB2.out.mono HR.out.bel.size)); clear ht hb) | fail)
  refine Z28 fun wS hwS=>?_;have HKS:=lh (show Zp wS 0 _ K2 from by rw [hwS,HK2.out]; exact tlow HT2.out (Yp _));have HRS:=lh (show ZS w0 fb kb mb (l ++ pre) wS from by rw [hwS,HPRE.out]; exact by rw [List.append_nil]; exact HR.out.below HB2.out);have HFS:=lh (show ZFar mb w wS from by rw [hwS]; exact ZFar.below HB2.out);clear hwS
 rotate_left
 focus
  have c3a:w.cell? ⟨a.b,3,none⟩=some (.slice p n cp):=by have h:=HC3.out w HR.out.bel; rwa [ho] at h
  clear ho;have HCA:=lh (fun W (q:Below w.heap.size w W)=>show W.cell? ⟨a.b,3,none⟩=some (.slice p n cp) from (Yj (q.block a.b hab)).trans c3a);have HK2:=lh hK2;have HPRE:=lh hpre;clear hK2 hpre;have n23:(kd == 23)=false:=by simpa using h23
  have n1:(kd == 1)=false:=by simpa using h1
  have n6:(kd == 6)=false:=by simpa using h6
  have n13:(kd == 13)=false:=by simpa using h13
  have n5:(kd == 5)=false:=by simpa using h5
  have n37:(kd == 37)=false:=by simpa using h37
  rw [n5,n37] at HIN;clear h23 h1 h6 h13 h5 h37;go_enter Tryz.func13,Tryz.ntmps13
  go_wp2_with fail
  refine (HIN.out w HR.out.bel).mono ?_;rintro e w' ⟨rfl,hww⟩;rw [hww];clear hww w';go_wp2_with fail
  refine Z28 fun wS hwS=>?_;have HKS:=lh (show Zp wS 0 _ K2 from by rw [hwS,HK2.out]; exact HK.out);have HRS:=lh (show ZS w0 fb kb mb (l ++ pre) wS from by rw [hwS,HPRE.out]; exact by rw [List.append_nil]; exact HR.out);have HFS:=lh (show ZFar mb w wS from by rw [hwS]; exact ZFar.below (Y8 _ _));clear hwS
 rotate_left
 all_goals
  go_loopw [105] (fun i wr=>∃ (k:Nat),k≤n∧i=.int .i64 k∧Hid (ZS w0 fb kb mb (l ++ pre ++ Z2j (o.kids.take k) K2) wr)∧Hid (ZFar mb wS wr)) (fun i _=>n - (intOf i).toNat)
  case atStart=>exact ⟨0,Yp _,rfl,lh (by simpa [Z2j] using HRS.out),lh (ZFar.below (Y8 _ _))⟩
  case round=>
   obtain ⟨k,hk,rfl,HS,HF⟩:=hrel;by_cases hkn:k < n
   ·obtain ⟨x, hx⟩ : ∃ x, o.kids[k]? = some x := ⟨_, Yd (by rw [← HN.out]; exact hkn)⟩
    have hT2:=HTR.out wr HS.out.bel;have hrow:=hT2.rowOf;rcases Za hrow with ⟨_,h2⟩ | ⟨g0,cap0,hv0,_⟩;·rw [← HN.out] at h2; omega
    have hp:p=some ⟨g0,0,none⟩:=by
     have:=HV.out.symm.trans hv0;simp only [Value.slice.injEq] at this;exact this.1
    subst hp;have cx:=Zl hrow (g:=g0) (by rw [hv0]; rfl) (i:=k) (x:=x.ptr) (by rw [Yo,hx]; rfl);have e1:=HS.out.cells.2;have hcall:=HIH.out x (Yl hx) wr _ _ HS.out (HKS.out.rfar HRS.out HF.out);have HST:=lh (Zch hx K2);unfold ATree.ptr at cx hcall;have HCALL:=lh hcall;clear hT2 hrow hv0 hx hcall;go_wp2_with fail
    refine HCALL.out.mono ?_;rintro e w2 ⟨rfl,hs2,hf2⟩;have HS2:=lh hs2;have HF2:=lh (HF.out.trans hf2);clear hs2 hf2 HCALL HS HF;go_wp2;go_roundw
    case rel=>exact ⟨k + 1,by omega,by go_num,lh (by rw [HST.out,← List.append_assoc]; exact HS2.out),HF2⟩
    case measure=>simp [intOf]; omega
   ·have hk2 : k = n := by omega
    subst hk2;go_wp2;refine bodyPost_ret (results_none rfl _ _ _) rfl ?_;refine ⟨rfl,?_,HFS.out.trans HF.out⟩;have h:=HS.out;rw [Ym (by rw [← HN.out]; exact Y5 _),List.append_assoc] at h;exact h
end Go.Proofs.YtmjfllklcpjddaaGreatDoor
namespace Go.Proofs
def Tryz.lays190_ren:Go.Shelf.Ren:=⟨fun | 190=>12 | 125=>35 | 258=>34 | 128=>80 | 129=>81 | 302=>71 | 303=>72 | 304=>73 | 305=>74 | 306=>75 | 307=>76 | 308=>77 | 309=>78 | 310=>79 | 333=>105 | 329=>106 | 330=>107 | 334=>108 | 335=>109 | 336=>110 | 344=>121 | n=>n,fun | 31=>26 | 9=>9 | 3=>3 | 46=>78 | 0=>0 | 51=>112 | 53=>114 | 4=>4 | 183=>105 | 182=>104 | 131=>109 | 5=>5 | 218=>129 | 222=>133 | 228=>143 | 229=>144 | n=>n,fun | n=>n⟩
theorem Tryz.lays190:Go.Proofs.Lays.n190 Tryz.prog Tryz.lays190_ren:={
 mixed:=by kernel_rfl
 f125:=Tryz.func35.trans (congrArg some (by kernel_rfl))
 f128:=Tryz.func80.trans (congrArg some (by kernel_rfl))
 f129:=Tryz.func81.trans (congrArg some (by kernel_rfl))
 f190:=Tryz.func12.trans (congrArg some (by kernel_rfl))
 f258:=Tryz.func34.trans (congrArg some (by kernel_rfl))
 f302:=Tryz.func71.trans (congrArg some (by kernel_rfl))
 f303:=Tryz.func72.trans (congrArg some (by kernel_rfl))
 f304:=Tryz.func73.trans (congrArg some (by kernel_rfl))
 f305:=Tryz.func74.trans (congrArg some (by kernel_rfl))
 f306:=Tryz.func75.trans (congrArg some (by kernel_rfl))
 f307:=Tryz.func76.trans (congrArg some (by kernel_rfl))
 f308:=Tryz.func77.trans (congrArg some (by kernel_rfl))
 f309:=Tryz.func78.trans (congrArg some (by kernel_rfl))
 f310:=Tryz.func79.trans (congrArg some (by kernel_rfl))
 f329:=Tryz.func106.trans (congrArg some (by kernel_rfl))
 f330:=Tryz.func107.trans (congrArg some (by kernel_rfl))
 f333:=Tryz.func105.trans (congrArg some (by kernel_rfl))
 f334:=Tryz.func108.trans (congrArg some (by kernel_rfl))
 f335:=Tryz.func109.trans (congrArg some (by kernel_rfl))
 f336:=Tryz.func110.trans (congrArg some (by kernel_rfl))
 f344:=Tryz.func121.trans (congrArg some (by kernel_rfl))
 t0:=Tryz.underlying0
 a0:=Tryz.isAgg0
 z0:=Tryz.sizeOf0
 v0:=Tryz.zeroValue0
 t3:=Tryz.underlying3
 a3:=Tryz.isAgg3
 z3:=Tryz.sizeOf3
 v3:=Tryz.zeroValue3
 t4:=Tryz.underlying4
 a4:=Tryz.isAgg4
 z4:=Tryz.sizeOf4
 v4:=Tryz.zeroValue4
 t5:=Tryz.underlying5
 a5:=Tryz.isAgg5
 z5:=Tryz.sizeOf5
 v5:=Tryz.zeroValue5
 t9:=Tryz.underlying9
 a9:=Tryz.isAgg9
 z9:=Tryz.sizeOf9
 v9:=Tryz.zeroValue9
 t31:=Tryz.underlying26
 a31:=Tryz.isAgg26
 z31:=Tryz.sizeOf26
 v31:=Tryz.zeroValue26
 t46:=Tryz.underlying78
 a46:=Tryz.isAgg78
 z46:=Tryz.sizeOf78
 v46:=Tryz.zeroValue78
 t51:=Tryz.underlying112
 a51:=Tryz.isAgg112
 z51:=Tryz.sizeOf112
 v51:=Tryz.zeroValue112
 t53:=Tryz.underlying114
 a53:=Tryz.isAgg114
 z53:=Tryz.sizeOf114
 v53:=Tryz.zeroValue114
 t131:=Tryz.underlying109
 a131:=Tryz.isAgg109
 z131:=Tryz.sizeOf109
 v131:=Tryz.zeroValue109
 t182:=Tryz.underlying104
 a182:=Tryz.isAgg104
 z182:=Tryz.sizeOf104
 v182:=Tryz.zeroValue104
 t183:=Tryz.underlying105
 a183:=Tryz.isAgg105
 z183:=Tryz.sizeOf105
 v183:=Tryz.zeroValue105
 t218:=Tryz.underlying129
 a218:=Tryz.isAgg129
 z218:=Tryz.sizeOf129
 v218:=Tryz.zeroValue129
 t222:=Tryz.underlying133
 a222:=Tryz.isAgg133
 z222:=Tryz.sizeOf133
 v222:=Tryz.zeroValue133
 t228:=Tryz.underlying143
 a228:=Tryz.isAgg143
 z228:=Tryz.sizeOf143
 v228:=Tryz.zeroValue143
 t229:=Tryz.underlying144
 a229:=Tryz.isAgg144
 z229:=Tryz.sizeOf144
 v229:=Tryz.zeroValue144 }
open Go.Sort Go.RowKit in
theorem Tryz.slices_Sort_string (blk off cap:Nat) (ss:List (List UInt8)) (w:World) (hH:Holds encStr w blk off ss.toArray) (hblk:blk < w.heap.size) (hsz:ss.length < 4611686018427387904) :
 Calls Tryz.prog 12 #[.slice (some ⟨blk,off,none⟩) ss.length cap] w fun e w'=>
  e=.returned (.tuple #[])∧∃ n os,w'=grow (putRow encStr (Sort.ahead w n) blk off (ss.mergeSort fun x y=>decide (x≤y)).toArray) os:=Any.slices_Sort_string Tryz.lays190 blk off cap ss w hH hblk hsz
def Tryz.lays192_ren:Go.Shelf.Ren:=⟨fun | 192=>18 | 190=>12 | 125=>35 | 258=>34 | 128=>80 | 129=>81 | 302=>71 | 303=>72 | 304=>73 | 305=>74 | 306=>75 | 307=>76 | 308=>77 | 309=>78 | 310=>79 | 333=>105 | 329=>106 | 330=>107 | 334=>108 | 335=>109 | 336=>110 | 344=>121 | n=>n,fun | 31=>26 | 0=>0 | 9=>9 | 3=>3 | 46=>78 | 51=>112 | 53=>114 | 4=>4 | 183=>105 | 182=>104 | 131=>109 | 5=>5 | 218=>129 | 222=>133 | 228=>143 | 229=>144 | n=>n,fun | n=>n⟩
theorem Tryz.lays192:Go.Proofs.Lays.n192 Tryz.prog Tryz.lays192_ren:={
 mixed:=by kernel_rfl
 f125:=Tryz.func35.trans (congrArg some (by kernel_rfl))
 f128:=Tryz.func80.trans (congrArg some (by kernel_rfl))
 f129:=Tryz.func81.trans (congrArg some (by kernel_rfl))
 f190:=Tryz.func12.trans (congrArg some (by kernel_rfl))
 f192:=Tryz.func18.trans (congrArg some (by kernel_rfl))
 f258:=Tryz.func34.trans (congrArg some (by kernel_rfl))
 f302:=Tryz.func71.trans (congrArg some (by kernel_rfl))
 f303:=Tryz.func72.trans (congrArg some (by kernel_rfl))
 f304:=Tryz.func73.trans (congrArg some (by kernel_rfl))
 f305:=Tryz.func74.trans (congrArg some (by kernel_rfl))
 f306:=Tryz.func75.trans (congrArg some (by kernel_rfl))
 f307:=Tryz.func76.trans (congrArg some (by kernel_rfl))
 f308:=Tryz.func77.trans (congrArg some (by kernel_rfl))
 f309:=Tryz.func78.trans (congrArg some (by kernel_rfl))
 f310:=Tryz.func79.trans (congrArg some (by kernel_rfl))
 f329:=Tryz.func106.trans (congrArg some (by kernel_rfl))
 f330:=Tryz.func107.trans (congrArg some (by kernel_rfl))
 f333:=Tryz.func105.trans (congrArg some (by kernel_rfl))
 f334:=Tryz.func108.trans (congrArg some (by kernel_rfl))
 f335:=Tryz.func109.trans (congrArg some (by kernel_rfl))
 f336:=Tryz.func110.trans (congrArg some (by kernel_rfl))
 f344:=Tryz.func121.trans (congrArg some (by kernel_rfl))
 t0:=Tryz.underlying0
 a0:=Tryz.isAgg0
 z0:=Tryz.sizeOf0
 v0:=Tryz.zeroValue0
 t3:=Tryz.underlying3
 a3:=Tryz.isAgg3
 z3:=Tryz.sizeOf3
 v3:=Tryz.zeroValue3
 t4:=Tryz.underlying4
 a4:=Tryz.isAgg4
 z4:=Tryz.sizeOf4
 v4:=Tryz.zeroValue4
 t5:=Tryz.underlying5
 a5:=Tryz.isAgg5
 z5:=Tryz.sizeOf5
 v5:=Tryz.zeroValue5
 t9:=Tryz.underlying9
 a9:=Tryz.isAgg9
 z9:=Tryz.sizeOf9
 v9:=Tryz.zeroValue9
 t31:=Tryz.underlying26
 a31:=Tryz.isAgg26
 z31:=Tryz.sizeOf26
 v31:=Tryz.zeroValue26
 t46:=Tryz.underlying78
 a46:=Tryz.isAgg78
 z46:=Tryz.sizeOf78
 v46:=Tryz.zeroValue78
 t51:=Tryz.underlying112
 a51:=Tryz.isAgg112
 z51:=Tryz.sizeOf112
 v51:=Tryz.zeroValue112
 t53:=Tryz.underlying114
 a53:=Tryz.isAgg114
 z53:=Tryz.sizeOf114
 v53:=Tryz.zeroValue114
 t131:=Tryz.underlying109
 a131:=Tryz.isAgg109
 z131:=Tryz.sizeOf109
 v131:=Tryz.zeroValue109
 t182:=Tryz.underlying104
 a182:=Tryz.isAgg104
 z182:=Tryz.sizeOf104
 v182:=Tryz.zeroValue104
 t183:=Tryz.underlying105
 a183:=Tryz.isAgg105
 z183:=Tryz.sizeOf105
 v183:=Tryz.zeroValue105
 t218:=Tryz.underlying129
 a218:=Tryz.isAgg129
 z218:=Tryz.sizeOf129
 v218:=Tryz.zeroValue129
 t222:=Tryz.underlying133
 a222:=Tryz.isAgg133
 z222:=Tryz.sizeOf133
 v222:=Tryz.zeroValue133
 t228:=Tryz.underlying143
 a228:=Tryz.isAgg143
 z228:=Tryz.sizeOf143
 v228:=Tryz.zeroValue143
 t229:=Tryz.underlying144
 a229:=Tryz.isAgg144
 z229:=Tryz.sizeOf144
 v229:=Tryz.zeroValue144 }
open Go.Sort Go.RowKit in
theorem Tryz.sort_Strings (blk off cap:Nat) (ss:List (List UInt8)) (w:World) (hH:Holds encStr w blk off ss.toArray) (hblk:blk < w.heap.size) (hsz:ss.length < 4611686018427387904) :
 Calls Tryz.prog 18 #[.slice (some ⟨blk,off,none⟩) ss.length cap] w fun e w'=>
  e=.returned (.tuple #[])∧∃ n os,w'=grow (putRow encStr (Sort.ahead w n) blk off (ss.mergeSort fun x y=>decide (x≤y)).toArray) os:=Any.sort_Strings Tryz.lays192 blk off cap ss w hH hblk hsz
open Go.RowKit Go.Sort in
theorem Tryz.slices_Sort_string_none (p:Option Addr) (cap:Nat) (w:World) :
 Calls Tryz.prog 12 #[.slice p 0 cap] w fun e w'=>e=.returned (.tuple #[])∧w'=w:=Any.slices_Sort_string_none Tryz.lays190 p cap w
open Go.RowKit Go.Sort in
theorem Tryz.sort_Strings_none (p:Option Addr) (cap:Nat) (w:World) :
 Calls Tryz.prog 18 #[.slice p 0 cap] w fun e w'=>e=.returned (.tuple #[])∧w'=w:=Any.sort_Strings_none Tryz.lays192 p cap w
end Go.Proofs
namespace Go.Proofs.YtmjfllklcpjddaaGreatDoor
open Go Go.RowKit
set_option maxRecDepth 100000
set_option maxHeartbeats 20000000
set_option linter.unusedVariables false
def Z5o (L:List ByteArray):List ByteArray:=((L.map fun s=>s.data.toList).mergeSort fun x y=>decide (x≤y)).map fun l=>⟨l.toArray⟩
theorem Zbd (L:List ByteArray):(Z5o L).length=L.length:=by simp [Z5o,List.length_mergeSort]
theorem Za8 {w w':World} {B g cap:Nat} {L:List ByteArray} (h:Zp w B (.slice (some ⟨g,0,none⟩) L.length cap) L)
 (hw:∃ n os,w'=Go.Sort.grow (Go.Sort.putRow Go.Proofs.encStr (Go.Sort.ahead w n) g 0 ((L.map fun s=>s.data.toList).mergeSort fun x y=>decide (x≤y)).toArray) os) :
 Zp w' B (.slice (some ⟨g,0,none⟩) L.length cap) (Z5o L)∧Below B w w'∧∀ k,k < w.heap.size→k≠g→w'.heap[k]?=w.heap[k]?:=by
 obtain ⟨n,os,rfl⟩:=hw;obtain ⟨D,hD⟩:=zX (((L.map fun s=>s.data.toList).mergeSort fun x y=>decide (x≤y)))
 rw [← hD];have hDl:D.length=L.length:=by rw [hD,List.length_mergeSort,Yv]
 have hsB:Z5o L=D.map fun l=>⟨l.toArray⟩:=by rw [hD]; rfl
 have hlt:=Yh h g rfl;have hB:=hlt.1;have hgl:=hlt.2;have hblk:∀ k,k < w.heap.size→k≠g→(Go.Sort.grow (Go.Sort.putRow Go.Proofs.encStr (Go.Sort.ahead w n) g 0 D.toArray) os).heap[k]?=w.heap[k]?:=by
  intro k hk hne;rw [Go.Sort.heap_grow_old _ _ (by rw [Go.Sort.size_putRow]; exact hk)];show ((Go.Sort.ahead w n).heap.modify g _)[k]?=_;rw [Array.getElem?_modify,Y9 (fun e=>hne e.symm)];rfl
 refine ⟨?_,⟨rfl,rfl,rfl,by rw [Go.Sort.size_grow,Go.Sort.size_putRow]; exact Nat.le_add_right _ _,fun k hk=>hblk k (by omega) (by omega)⟩,hblk⟩;obtain ⟨h1,h2⟩:=h;rcases h2 with ⟨e,_⟩ | ⟨g',cap',cur,e,hb,hc,hn,hm,hs,ht⟩;·cases e
 simp only [Value.slice.injEq,Option.some.injEq,Addr.mk.injEq,and_true,true_and] at e;obtain ⟨rfl,rfl⟩:=e;unfold Zp;rw [Zbd];refine ⟨by rw [Yv,Zbd,Nat.mul_one],.inr ⟨g,cap,Go.Sort.putCells Go.Proofs.encStr 0 D.toArray cur,rfl,hb,?_,hn,hm,by simp [Go.Sort.putCells,hs],?_⟩⟩
 ·rw [Go.Sort.heap_grow_old _ _ (by rw [Go.Sort.size_putRow]; exact hgl)];show ((Go.Sort.ahead w n).heap.modify g _)[g]?=_;rw [Array.getElem?_modify,Yb rfl];show (w.heap[g]?).map _=_;rw [hc];rfl
 ·rw [hsB];apply List.ext_getElem?;intro i;rw [List.getElem?_take, Yo, Yo];by_cases hi : i < L.length * 1
  ·rw [Yb hi];have hi2 : i < D.length := by omega
   have hi3:i < cur.size:=by rw [hs]; omega
   rw [Array.getElem?_toList];simp only [Go.Sort.putCells,Array.getElem?_mapIdx];rw [Array.getElem?_eq_getElem hi3,Yd hi2];simp only [Option.map_some,Option.some.injEq];rw [Yb ⟨Yp _,by simp; omega⟩];simp [Go.Proofs.encStr,getElem!_pos,hi2]
  ·rw [Y9 hi,List.getElem?_eq_none (by omega)];rfl
theorem Z9b {w:World} {B g cap:Nat} {L:List ByteArray} (h:Zp w B (.slice (some ⟨g,0,none⟩) L.length cap) L):Go.Sort.Holds Go.Proofs.encStr w g 0 (L.map fun s=>s.data.toList).toArray:=by
 obtain ⟨_,h2⟩:=id h;have hfz:∀ o,w.frozen? ⟨g,o,none⟩=false:=by
  rcases h2 with ⟨e,_⟩ | ⟨g',cap',cur,e,hb,hc,_⟩;·cases e
  simp only [Value.slice.injEq,Option.some.injEq,Addr.mk.injEq,and_true,true_and] at e;obtain ⟨rfl,rfl⟩:=e;intro o;simp [World.frozen?,hc]
 intro j hj;have hj2:j < L.length:=by simpa using hj
 refine ⟨?_,hfz _⟩;rw [Nat.zero_add,h.cells rfl (Yd hj2)];simp [Go.Proofs.encStr,getElem!_pos,hj2]
theorem Zif (w0:World) (ob B:Nat):∀ m,Zax w0 ob B m:=by
 intro m;induction m with
 | zero=>intro a w v kv L K body hm; obtain ⟨b,vv,k,t,n,ks⟩:=a; simp [ATree.many] at hm
 | succ m ih =>
   intro a w v kv L K body hm hmx hA hT hO hK hKb hLb;by_cases h23:a.kind=23;·exact Zfj a w v kv L K body h23 hT hO hK hLb
   by_cases h5:a.kind=5∨a.kind=37
   ·obtain ⟨x,y,hk⟩:=Zj8 (hA.self.two (by omega));exact Zhk ih a w v kv L K body hm hmx hA hT hO hK hKb hLb h5 hk
   exact Zh9 ih a w v kv L K body hm hmx hA hT hO hK hKb hLb h23 (by omega) (by omega)
theorem Zhg (w:World) (B:Nat) (a:ATree) (hT:TreeAt w B a) (hA:WA a) (hmx:a.many≤100000) :
 Calls Tryz.prog 6 #[a.ptr] w fun e w'=>∃ v,e=.returned v∧Zp w' w.heap.size v (Z5o ((Z3t a [] true).foldl addL []))∧Below w.heap.size w w':=by
 obtain ⟨N,hN⟩:=zX ((Z3t a [] true).foldl addL [])
 have hNl:N.length≤a.many:=by
  rw [hN];have h1:=Z6b (Z3t a [] true) [];have h2:=Z8n a [] true;simp at h1;omega
 have hba:Below w.heap.size w (w.alloc (.cells #[.slice none 0 0] 26)):=(Y8 _ _).alloc (Y5 _) _;have hO:OS w w.heap.size (.slice none 0 0) [] (w.alloc (.cells #[.slice none 0 0] 26)):=⟨Y5 _,hba,heap_alloc_new w _,Zp.nil _ _⟩
 have HF:=lh (Zif w w.heap.size B a.many a _ (.slice none 0 0) (.slice none 0 0) [] [] true (Y5 _) hmx hA hT hO (KAt.nil0 _ _ _) (by simp; omega) (by simp; omega));unfold Z77 at HF;rw [← hN] at HF ⊢;have HS:=lh (fun (W:World) (g cap:Nat) (h:Zp W (w.heap.size + 1) (.slice (some ⟨g,0,none⟩) N.length cap) N)=>
  (Tryz.slices_Sort_string g 0 cap (N.map fun s=>s.data.toList) W (Z9b h) (Yh h g rfl).2 (by rw [Yv]; omega)).mono fun e w' ⟨h1,h2⟩=>(⟨h1,Za8 h h2⟩:e=Ending.returned (.tuple #[])∧Zp w' (w.heap.size + 1) (.slice (some ⟨g,0,none⟩) N.length cap) (Z5o N)∧Below (w.heap.size + 1) W w'∧∀ k,k < W.heap.size→k≠g→w'.heap[k]?=W.heap[k]?))
 simp only [List.length_map] at HS;unfold ATree.ptr at HF ⊢;clear hN hba hO hT hA hmx hNl;go_enter Tryz.func6,Tryz.ntmps6
 go_wp2_with fail
 refine HF.out.mono ?_;rintro e w2 ⟨rfl,v2,ho2,_⟩;have c2:w2.cell? ⟨w.heap.size,0,none⟩=some v2:=by simp [World.cell?,ho2.cell]
 have HB2:=lh ho2.bel;have HCELL:=lh ho2.cell;have HR:=lh ho2.row;rcases ho2.row.form with ⟨h1,h2⟩ | ⟨g,cap,h1,_⟩
 ·subst h1;have HN0 := lh h2;have HSN := lh (Tryz.slices_Sort_string_none none 0 w2);clear ho2 HF HS h2;go_wp2_with fail
  refine HSN.out.mono ?_;rintro e w3 ⟨rfl,hw3⟩;rw [hw3];clear hw3 w3;go_wp2;go_ret;refine ⟨_,rfl,?_,HB2.out⟩;rw [HN0.out,show Z5o []=[] from by simp [Z5o]];exact Zp.nil _ _
 ·subst h1;have hne : g ≠ w.heap.size := by have := (Yh ho2.row g rfl).1; omega
  have HNE:=lh hne;have HSZ:=lh ho2.lt;have HSN:=lh (HS.out w2 g cap ho2.row);obtain ⟨nn,hnn⟩:=zX N.length
  rw [← hnn] at c2 HSN;have HNN:=lh hnn;clear ho2 HF HS hne hnn;go_wp2_with fail
  refine HSN.out.mono ?_;rintro e w3 ⟨rfl,ht3,hb3,hf3⟩;have c3:w3.cell? ⟨w.heap.size,0,none⟩=some (.slice (some ⟨g,0,none⟩) nn cap):=(Yj (hf3 _ HSZ.out (fun e=>HNE.out e.symm))).trans c2;have HT3:=lh ht3;have HB3:=lh (HB2.out.trans (hb3.mono (Nat.le_succ _)));clear ht3 hb3 hf3 c2;go_wp2;go_ret;refine ⟨_,rfl,?_,HB3.out⟩;exact Zan HT3.out (Nat.le_succ _)
end Go.Proofs.YtmjfllklcpjddaaGreatDoor
