/- Package hoist: free, at a name. -/
import Derived.Test.YtedopiahfejdfaaGreatDoorJ11
namespace Go.Proofs.YtedopiahfejdfaaGreatDoor
open Go Go.RowKit
set_option maxRecDepth 100000
set_option maxHeartbeats 20000000
set_option linter.unusedVariables false
theorem Zev (w:World) (B:Nat) (v:Value) (l:List ByteArray) (s:ByteArray) (h:Zv w B v l) (hB:B≤w.heap.size) (hn:l.length < 1099511627776) :
 Calls Tryz.prog 25 #[v,.string s] w fun e w'=>∃ v',e=.returned v'∧Zv w' B v' (addL l s)∧Below B w w'∧(∀ k,k < w.heap.size→v.ownBlock≠some k→w'.heap[k]?=w.heap[k]?)∧∀ g,v'.ownBlock=some g→v.ownBlock=some g∨w.heap.size≤g:=by
 obtain ⟨i0,hi,hz0,hz1,hz2⟩:=info_parts Tryz.infoStr;have HC:=Z4a h s;unfold addL;obtain ⟨c,hc⟩:=zX (Lib.containsS l s)
 rw [← hc] at HC ⊢;have HC:=lh HC;clear hc;cases c
 ·unfold Zv at h ⊢;have HO := lh h;obtain ⟨n, hnn⟩ := zX l.length
  rw [← hnn] at HO hn;have HNN:=lh hnn;clear h hnn;go_enter Tryz.func25,Tryz.ntmps25
  go_wp2_with fail
  refine HC.out.mono ?_;rintro e w1 ⟨rfl,rfl⟩
  go_wp2_with (at_builtin; go_must (refine wpList_append_lies _ rfl (.tmp 9) (.tmp 11) 26 rfl B 9 i0 (.string ByteArray.empty) 1 16 Tryz.underlying26 hi hz0 hz1 hz2 rfl (by decide) v n (l.map Value.string) rfl (HO.out.alloc _) ⟨w1.heap.size,0,none⟩ 1 1 [.string s] rfl rfl (fun j u hu=>cell_one_new w1 _ _ j u hu) (by intro u hu; simp at hu; subst hu; rfl) (by first | omega | (simp; omega)) (by unfold maxLen; omega) (by first | omega | (simp; omega)) (by first | omega | (simp; omega)) (w1.heap.size + 1) (by simp) ?_); intro g cap w2 hown2 hgrow2 hat2 hgl2; have HG:=lh hgrow2; have HW:=lh hown2; have HT:=lh hat2; clear hgrow2 hown2 hat2 hgl2)
  go_ret;refine ⟨_,rfl,?_,?_,?_,?_⟩
  ·simp only [← HNN.out];exact HW.out
  ·exact ((Y2 _ _).alloc hB _).grown HG.out (by simp; omega) fun j hj=>(Y9 HO.out j hj).1
  ·exact fun k hk hv=>(HG.out.block k (by simp; omega) (fun e=>hv e.symm)).trans (Below.heap_alloc _ _ _ hk)
  ·intro g' hg';have e : g = g' := by simpa [Value.ownBlock] using hg'
   rcases HT.out with h1 | h1;·exact .inl (by rw [← e]; exact h1)
   ·exact .inr (by omega)
 ·have HO := lh h;clear h;go_enter Tryz.func25, Tryz.ntmps25
  go_wp2_with fail
  refine HC.out.mono ?_;rintro e w1 ⟨rfl,rfl⟩;go_wp2;go_ret;exact ⟨_,rfl,HO.out,Y2 _ _,fun _ _ _=>rfl,fun _ h=>.inl h⟩
def Z53 (w0:World) (ob:Nat) (v:Value) (L l:List ByteArray) (w:World) (e:Ending) (w':World):Prop:=
 e=.returned (.tuple #[])∧∃ v',OS w0 ob v' (l.foldl addL L) w'∧Far ob v w v' w'
def Z8c (w0:World) (ob B m:Nat):Prop:=
 ∀ (a : ATree) (w : World) (v kv : Value) (L K : List ByteArray) (body : Bool), a.many ≤ m → a.many ≤ 100000 → WA a → TreeAt w0 B a → OS w0 ob v L w → KAt w ob v kv K → K.length + a.many * 1000000 ≤ 1000000000000 → L.length + a.many ≤ 1000000000 →
   Calls Tryz.prog 12 #[a.ptr,kv,.bool body,.pointer (some ⟨ob,0,none⟩)] w (Z53 w0 ob v L (Z10 a K body) w)
theorem Zc1 {w0:World} {ob B:Nat} (a:ATree) (w:World) (v kv:Value) (L K:List ByteArray) (body:Bool) (h1:a.kind=23) (hT:TreeAt w0 B a) (hO:OS w0 ob v L w) (hK:KAt w ob v kv K) (hL:L.length + a.many≤1000000000) :
 Calls Tryz.prog 12 #[a.ptr,kv,.bool body,.pointer (some ⟨ob,0,none⟩)] w (Z53 w0 ob v L (Z10 a K body) w):=by
 have hTw:=hT.bel hO.bel;have c0:=hTw.c0;have c1:=hTw.c1;rw [h1] at c0;have hdef:Z10 a K body=if Lib.containsS K a.text then [] else [a.text]:=by
  obtain ⟨b,vv,k,t,n,ks⟩:=a;simp only [ATree.kind] at h1;rw [Z10.eq_def];simp only [];rw [Y5 h1];rfl
 rw [hdef];have HC:=lh (Zb1 hK a.text);obtain ⟨tx,htx⟩:=zX a.text
 rw [← htx] at c1 HC ⊢;have HA:=lh (fun W (h:Below w.heap.size w W)=>Zev W (ob + 1) v L tx (hO.row.bel h) (by have:=hO.lt; have:=h.size; omega) (by omega));have sv:w.cell? ⟨ob,0,none⟩=some v:=by simp [World.cell?,hO.cell]
 have hal:a.b < w.heap.size:=hTw.lt;have hao:a.b < ob:=Y7 hT.lt hO.lo;obtain ⟨pK,nK,cK,rfl⟩:∃ p n c,kv=.slice p n c:=by obtain ⟨ao,cap,e,_⟩:=hK; exact ⟨_,_,_,e⟩
 obtain ⟨pV,nV,cV,rfl⟩:=hO.row.slice;have HO:=lh hO;obtain ⟨cb,hcb⟩:=zX (Lib.containsS K tx)
 rw [← hcb] at HC ⊢;unfold ATree.ptr;clear hTw hT hO hK hL h1 hdef htx hcb;cases cb
 ·go_enter Tryz.func12, Tryz.ntmps12
  go_wp2_with fail
  refine HC.out.mono ?_;rintro e w' ⟨rfl,hww⟩;rw [hww];clear hww w' HC;go_wp2_with fail
  refine Z1 [(true,0),(true,1),(true,2),(true,3),(true,4),(true,5),(true,6),(true,7),(false,8)] [9,10] (fun W=>W.cell? ⟨ob,0,none⟩=some (.slice pV nV cV)∧W.cell? ⟨a.b,1,none⟩=some (.string tx)) (by kernel_rfl) (by kernel_rfl) (fun _ _ d _ _ h=>by cases d <;> exact h) ⟨sv,c1⟩ (fun hS0=>?_);simp only [Zc,zD,zE,zF,zG,zH,zI]
  iterate 8
   first
    | (refine Z3 ?_ (by rfl) (fun w' hS'=>?_) ?_; rotate_left; (obtain ⟨s0,s1⟩:=hS'; go_simp; first | done | with_reducible rfl); simp only [Act.put,zA,zB,zC])
    | (refine Z4 (by rfl) ?_; simp only [Act.put,zA,zB,zC])
  refine Z5 (fun K hK=>?_);go_simp
  refine (HA.out w.drew (Y2 _ _).drew).mono ?_;rintro e w1 ⟨v',rfl,ht,hb,hf,ho⟩;have sv1:w1.cell? ⟨ob,0,none⟩=some (.slice pV nV cV):=(Yb (hb.block ob (by omega))).trans sv;have svz:w1.frozen? ⟨ob,0,none⟩=false:=by
   have h:=(hb.block ob (by omega)).trans HO.out.cell;simp [World.frozen?,h]
  refine hK _ _ ⟨sv1,(Yb (hb.block a.b (by omega))).trans c1⟩ ?_;have HP:=lh (OS.put (w1:=w1) HO.out ((Y2 _ _).drew.trans hb) ht hf ho);obtain ⟨p2,n2,c2,rfl⟩:=ht.slice;clear hK K ht hb hf ho HA;refine Z6 ?_;go_wp2;refine bodyPost_ret (results_none rfl _ _ _) rfl ?_;exact ⟨rfl,_,HP.out.1,HP.out.2⟩
 ·go_enter Tryz.func12, Tryz.ntmps12
  go_wp2_with fail
  refine HC.out.mono ?_;rintro e w' ⟨rfl,hww⟩;rw [hww];clear hww w' HC;go_wp2;refine bodyPost_ret (results_none rfl _ _ _) rfl ?_;exact ⟨rfl,_,HO.out,Far.below (Y2 _ _)⟩
end Go.Proofs.YtedopiahfejdfaaGreatDoor
namespace Go.Proofs.YtedopiahfejdfaaGreatDoor
open Go
section
variable {P:Program} {ops:Array Oper} {md:Region.Mode} {Q:Exit→Act→World→Prop} {S:World→Prop} {t:Nat}
theorem Z90 {m:Array Bool} {i j:Nat} (h:i < m.size):(m.setIfInBounds i true).getD j false=if i=j then true else m.getD j false:=by
 by_cases e:i=j;·subst e; rw [Y5 rfl]; simp [h]
 ·rw [Y3 e,getD_set_ne false e]
def Z7y (P:Program) (md:Region.Mode) (ops:Array Oper) (Q:Exit→Act→World→Prop) (S:World→Prop) (t:Nat):Nat→Array Bool→Act→World→Prop
 | 0,listed,a,w=>Region.ready md ops listed=[]∧Q .normal a w
 | fuel + 1, listed, a, w =>
   (Region.ready md ops listed=[]→Q .normal a w) ∧
   ∀ i∈Region.ready md ops listed,wpOp P ops Q i (fun a' w'=>((listed.setIfInBounds i true).getD t false=false→S w')∧Z7y P md ops Q S t fuel (listed.setIfInBounds i true) a' w') a w
theorem Z7n:∀ (fuel:Nat) (listed:Array Bool) (a:Act) (w:World),Z7y P md ops Q S t fuel listed a w→wpAny P md ops Q fuel listed a w
 | 0,_,_,_,h=>h
 | fuel + 1,_,_,_,h=>⟨h.1,fun i hi=>wpOp_mono (fun a' w' h'=>Z7n fuel _ a' w' h'.2) (h.2 i hi)⟩
theorem Z5s {i:Nat} {oi:Oper} {v:Value} {S':World→Prop} (hi:ops[i]?=some oi) (hsel:∀ (j:Nat) (o:Oper) cs b,ops[j]?=some o→o.op≠.select cs b)
 (hQ:∀ c a w,Q (.panic c) (a.put oi.dst v) w→Q (.panic c) a w) (hit:i≠t) :
 ∀ (fuel : Nat) (listed : Array Bool) (a : Act) (w : World), listed.size = ops.size →
   (∀ j oj,ops[j]?=some oj→j≠i→listed.getD j true=false→(∀ e∈oj.after,Region.binds md e=true→e.on≠i)→oi.apart ops oj=true) →
   i∈Region.ready md ops listed→YieldsIf P ops S' oi v a→((waits md ops t i=true∧listed.getD t false=false∧S'=S)∨S'=fun _=>True)→(listed.getD t false=false→S w) →
   Z7y P md ops Q S t fuel (listed.setIfInBounds i true) (a.put oi.dst v) w→Z7y P md ops Q S t (fuel + 1) listed a w:=by
 have key:∀ (listed:Array Bool) (w:World),((waits md ops t i=true∧listed.getD t false=false∧S'=S)∨S'=fun _=>True)→(listed.getD t false=false→S w)→S' w:=by
  intro listed w h1 h2;rcases h1 with ⟨_,h,rfl⟩ | rfl;·exact h2 h
  ·trivial
 have same:∀ (listed:Array Bool),(listed.setIfInBounds i true).getD t false=listed.getD t false:=fun l=>getD_set_ne false hit;intro fuel;induction fuel with
 | zero =>
   intro listed a w _ _ hr hy h1 hS H;refine ⟨fun h=>(by rw [h] at hr; cases hr),fun j hj=>?_⟩;by_cases hji:j=i;·subst hji; exact hy.wpOp hi (key _ _ h1 hS) ⟨fun h=>hS ((same listed).symm.trans h),H⟩
   ·have:=ready_mono hj hji;rw [H.1] at this;cases this
 | succ fuel ih =>
   intro listed a w hsz hfree hr hy h1 hS H;refine ⟨fun h=>(by rw [h] at hr; cases hr),fun j hj=>?_⟩;by_cases hji:j=i;·subst hji; exact hy.wpOp hi (key _ _ h1 hS) ⟨fun h=>hS ((same listed).symm.trans h),H⟩
   ·have h2:=H.2 j (ready_mono hj hji);obtain ⟨hjun,oj,hoj,hall⟩:=mem_ready.1 hj;have hun:listed.getD i true=false:=(mem_ready.1 hr).1;have hunf:listed.getD i false=false:=by
     rcases Nat.lt_or_ge i listed.size with h' | h';·simp [h'] at hun ⊢; exact hun
     ·simp [h']
    have hnot:∀ e∈oj.after,Region.binds md e=true→e.on≠i:=fun e he hb heq=>by
     have h1:=hall e he hb;rw [heq,hunf] at h1;cases h1
    have hjt:waits md ops t i=true→j≠t:=fun hw e=>by
     subst e;have:=Z58 hw hj;rw [hunf] at this;cases this
    have h3:=wpOp_putIf hoj (hfree j oj hoj hji hjun hnot) (fun cs b=>hsel i oi cs b hi) (fun cs b=>hsel j oj cs b hoj) hQ hy h2
    have hfree':∀ k ok,ops[k]?=some ok→k≠i→(listed.setIfInBounds j true).getD k true=false →
     (∀ e∈ok.after,Region.binds md e=true→e.on≠i)→oi.apart ops ok=true:=fun k ok hk hki hun hno=>by
     refine hfree k ok hk hki ?_ hno;by_cases hjk:j=k;·subst hjk; exact hjun
     ·rw [getD_set_ne true hjk] at hun; exact hun
    refine wpOp_mono (fun a' w' h4=>?_) h3;have hb:(listed.setIfInBounds j true).getD t false=false→S w':=fun h=>h4.2.1 (by rw [Z4v,getD_set_ne false hit]; exact h);refine ⟨hb,ih (listed.setIfInBounds j true) a' w' (by simpa using hsz) hfree' (ready_mono hr (Ne.symm hji)) h4.1 ?_ hb ?_⟩
    ·rcases h1 with ⟨q1, q2, q3⟩ | q;·exact .inl ⟨q1, by rw [getD_set_ne false (hjt q1)]; exact q2, q3⟩
     ·exact .inr q
    ·rw [Array.setIfInBounds_comm _ _ hji];exact h4.2.2
inductive Pl
 | nil
 | take (i:Nat) (r:Pl)
 | go (i:Nat) (r:Pl)
 | two (i:Nat) (ri:Pl) (j:Nat) (rj:Pl)
def Pl.len:Pl→Nat
 | .nil=>0
 | .take _ r=>r.len + 1
 | .go _ r=>r.len + 1
 | .two _ r _ _=>r.len + 1
def wpPl (P:Program) (md:Region.Mode) (ops:Array Oper) (Q:Exit→Act→World→Prop) (S:World→Prop) (t:Nat):Pl→Bool→Act→World→Prop
 | .nil,_,a,w=>Q .normal a w
 | .take i r,b,a,w=>∃ o v,ops[i]?=some o∧((b=false∧waits md ops t i=true∧YieldsIf P ops S o v a)∨YieldsIf P ops (fun _=>True) o v a)∧wpPl P md ops Q S t r b (a.put o.dst v) w
 | .go i r,b,a,w=>wpOp P ops Q i (fun a' w'=>((b || i == t)=false→S w')∧wpPl P md ops Q S t r (b || i == t) a' w') a w
 | .two i ri j rj,b,a,w=>wpOp P ops Q i (fun a' w'=>((b || i == t)=false→S w')∧wpPl P md ops Q S t ri (b || i == t) a' w') a w∧wpOp P ops Q j (fun a' w'=>((b || j == t)=false→S w')∧wpPl P md ops Q S t rj (b || j == t) a' w') a w
def plB (md:Region.Mode) (ops:Array Oper) (t:Nat):Pl→Array Bool→Bool
 | .nil,listed=>(Region.ready md ops listed).isEmpty
 | .take i r,listed=>(Region.ready md ops listed).contains i && Region.free md ops listed i && decide (i≠t) && plB md ops t r (listed.setIfInBounds i true)
 | .go i r,listed=>decide (Region.ready md ops listed=[i]) && plB md ops t r (listed.setIfInBounds i true)
 | .two i ri j rj,listed=>decide (Region.ready md ops listed=[i,j]) && decide (ri.len=rj.len) && plB md ops t ri (listed.setIfInBounds i true) && plB md ops t rj (listed.setIfInBounds j true)
theorem Z32 (hsel:Region.noSelect ops=true) (hQ:∀ c a d v w,Q (.panic c) (Act.put a d v) w→Q (.panic c) a w) :
 ∀ (l:Pl) (listed:Array Bool) (b:Bool) (a:Act) (w:World),listed.size=ops.size→listed.getD t false=b→plB md ops t l listed=true→(b=false→S w)→wpPl P md ops Q S t l b a w→Z7y P md ops Q S t l.len listed a w
 | .nil,listed,b,a,w,_,_,hB,_,h=>⟨by simpa [plB] using hB,h⟩
 | .take i r, listed, b, a, w, hsz, hb, hB, hS, h => by
   simp only [plB,Bool.and_eq_true,decide_eq_true_eq] at hB;obtain ⟨⟨⟨hr,hf⟩,hit⟩,hB'⟩:=hB;obtain ⟨o,v,ho,hy,h'⟩:=h;have hrec:=Z32 hsel hQ r (listed.setIfInBounds i true) b _ w (by simpa using hsz) ((getD_set_ne false hit).trans hb) hB' hS h';rcases hy with ⟨h0,hw,hy⟩ | hy;·exact Z5s ho (Region.noSelect_spec hsel) (fun c a w=>hQ c a _ _ w) hit r.len listed a w hsz (Region.free_spec ho hf) (by simpa using hr) hy (.inl ⟨hw,hb.trans h0,rfl⟩) (fun h=>hS (hb.symm.trans h)) hrec
   ·exact Z5s ho (Region.noSelect_spec hsel) (fun c a w=>hQ c a _ _ w) hit r.len listed a w hsz (Region.free_spec ho hf) (by simpa using hr) hy (.inr rfl) (fun h=>hS (hb.symm.trans h)) hrec
 | .go i r, listed, b, a, w, hsz, hb, hB, hS, h => by
   simp only [plB,Bool.and_eq_true,decide_eq_true_eq] at hB;obtain ⟨hr,hB'⟩:=hB;obtain ⟨_,o,ho,_⟩:=mem_ready.1 (show i∈Region.ready md ops listed by rw [hr]; simp);have hil:i < listed.size:=by rw [hsz]; exact (Y1.1 ho).1
   have hbt:(listed.setIfInBounds i true).getD t false=(b || i == t):=by
    rw [Z90 hil,hb];by_cases e:i=t;·subst e; simp
    ·simp [e]
   refine ⟨fun h0=>(by rw [h0] at hr; cases hr),fun k hk=>?_⟩;rw [hr] at hk;have hki:k=i:=by simpa using hk
   subst hki;exact wpOp_mono (fun a' w' h'=>⟨fun hh=>h'.1 (hbt.symm.trans hh),Z32 hsel hQ r _ _ a' w' (by simpa using hsz) hbt hB' h'.1 h'.2⟩) h
 | .two i ri j rj, listed, b, a, w, hsz, hb, hB, hS, h => by
   simp only [plB,Bool.and_eq_true,decide_eq_true_eq] at hB;obtain ⟨⟨⟨hr,hlen⟩,hB1⟩,hB2⟩:=hB;obtain ⟨_,o1,ho1,_⟩:=mem_ready.1 (show i∈Region.ready md ops listed by rw [hr]; simp);obtain ⟨_,o2,ho2,_⟩:=mem_ready.1 (show j∈Region.ready md ops listed by rw [hr]; simp);have hil:i < listed.size:=by rw [hsz]; exact (Y1.1 ho1).1
   have hjl:j < listed.size:=by rw [hsz]; exact (Y1.1 ho2).1
   have hbt:∀ k,k < listed.size→(listed.setIfInBounds k true).getD t false=(b || k == t):=fun k hk=>by
    rw [Z90 hk,hb];by_cases e:k=t;·subst e; simp
    ·simp [e]
   refine ⟨fun h0=>(by rw [h0] at hr; cases hr),fun k hk=>?_⟩;rw [hr] at hk;have hk':k=i∨k=j:=by simpa using hk
   rcases hk' with rfl | rfl;·exact wpOp_mono (fun a' w' h'=>⟨fun hh=>h'.1 ((hbt _ hil).symm.trans hh),Z32 hsel hQ ri _ _ a' w' (by simpa using hsz) (hbt _ hil) hB1 h'.1 h'.2⟩) h.1
   ·show wpOp P ops Q k (fun a' w'=>_∧Z7y P md ops Q S t ri.len _ a' w') a w;rw [hlen];exact wpOp_mono (fun a' w' h'=>⟨fun hh=>h'.1 ((hbt _ hjl).symm.trans hh),Z32 hsel hQ rj _ _ a' w' (by simpa using hsz) (hbt _ hjl) hB2 h'.1 h'.2⟩) h.2
def Zfx (md:Region.Mode) (ops:Array Oper) (t:Nat) (pl:Pl):Bool:=
 Region.noSelect ops && plB md ops t pl (Array.replicate ops.size false) && decide (pl.len=ops.size)
theorem Z7d {id:Nat} {l:List Oper} {a:Act} {w:World} (pl:Pl) (t:Nat) (S:World→Prop) (hm:P.follows .mixedOrders=true)
 (hB:Zfx .any l.toArray t pl=true) (hQ:∀ c a d v w,Q (.panic c) (Act.put a d v) w→Q (.panic c) a w) (hS:S w.drew)
 (h:wpPl P .any l.toArray Q S t pl false a w.drew):(Code.region id l.toArray true).wp P Q a w:=by
 simp only [Zfx,Bool.and_eq_true,decide_eq_true_eq] at hB;obtain ⟨⟨hsel,hplan⟩,hlen⟩:=hB;refine wp_region_any hm ?_;have key:=Z7n _ _ _ _ (Z32 (P:=P) (md:=.any) (Q:=Q) (S:=S) (t:=t) hsel hQ pl (Array.replicate l.toArray.size false) false a w.drew (by simp) (Z3t _ _) hplan (fun _=>hS) h);rw [hlen] at key;exact key
theorem Zb8 {o:Oper} {i:Nat} {r:Pl} {a:Act} {w:World} (v:Value) (ho:ops[i]?=some o) (hwt:waits md ops t i=true)
 (hw:Region.wanted o (yielded ops a.tmps)=true) (hy:∀ w',S w'→(execOp a.eval o).run P w'=.ok (.value v) w') (h:wpPl P md ops Q S t r false (a.put o.dst v) w):wpPl P md ops Q S t (.take i r) false a w:=
 ⟨o,v,ho,.inl ⟨rfl,hwt,.inl ⟨hw,hy⟩⟩,h⟩
theorem Zc7 {o:Oper} {i:Nat} {r:Pl} {b:Bool} {a:Act} {w:World} (v:Value) (ho:ops[i]?=some o)
 (hw:Region.wanted o (yielded ops a.tmps)=true) (hy:∀ w',(execOp a.eval o).run P w'=.ok (.value v) w') (h:wpPl P md ops Q S t r b (a.put o.dst v) w):wpPl P md ops Q S t (.take i r) b a w:=
 ⟨o,v,ho,.inr (.inl ⟨hw,fun w' _=>hy w'⟩),h⟩
theorem Z5g {o:Oper} {i:Nat} {r:Pl} {a:Act} {w:World} (ho:ops[i]?=some o) (hit:(i == t)=false) (hw:Region.wanted o (yielded ops a.tmps)=true)
 (h:∀ K:Act→World→Prop,(∀ a' w',S w'→wpPl P md ops Q S t r false a' w'→K a' w')→o.wp P a w K Q):wpPl P md ops Q S t (.go i r) false a w:=by
 unfold wpPl wpOp;simp only [ho];rw [Y5 hw];exact .inl (h _ fun a' w' h1 h2=>⟨fun _=>h1,by simpa [hit] using h2⟩)
theorem Z8y {o:Oper} {i:Nat} {r:Pl} {b:Bool} {a:Act} {w:World} (ho:ops[i]?=some o) (hit:(b || i == t)=true) (hw:Region.wanted o (yielded ops a.tmps)=true)
 (h:∀ K:Act→World→Prop,(∀ a' w',wpPl P md ops Q S t r true a' w'→K a' w')→o.wp P a w K Q):wpPl P md ops Q S t (.go i r) b a w:=by
 unfold wpPl wpOp;simp only [ho];rw [Y5 hw];exact .inl (h _ fun a' w' h2=>⟨fun h3=>(by rw [hit] at h3; cases h3),by rw [hit]; exact h2⟩)
theorem Zeu {i j:Nat} {ri rj:Pl} {b:Bool} {a:Act} {w:World} (h1:wpPl P md ops Q S t (.go i ri) b a w) (h2:wpPl P md ops Q S t (.go j rj) b a w):wpPl P md ops Q S t (.two i ri j rj) b a w:=⟨h1,h2⟩
theorem Zai {b:Bool} {a:Act} {w:World} (h:Q .normal a w):wpPl P md ops Q S t .nil b a w:=h
end
end Go.Proofs.YtedopiahfejdfaaGreatDoor
namespace Go.Proofs.YtedopiahfejdfaaGreatDoor
open Go Go.RowKit
set_option maxRecDepth 100000
set_option maxHeartbeats 20000000
set_option linter.unusedVariables false
set_option linter.unusedSimpArgs false
theorem Z3w {P:Program} (w:World) {o:Oper} {a:Act} {K:Act→World→Prop} {Q:Exit→Act→World→Prop}
 (s x:Operand) (t:TypeId) (hop:o.op=Op.call { callee:=Callee.builtin Builtin.append,args:=#[s,x],argTypes:=#[t,t] })
 (e:TypeId) (i:TypeInfo) (z:Value) (size bytes:Nat) (h1:P.underlying t=some (.slice e)) (h2:P.info? e=some i) (h3:i.zero=some z) (h4:i.size=size) (h5:i.bytes=bytes) (h6:z.cells.size=size) (h7:0 < size)
 (ao:Option Addr) (n cap:Nat) (olds:List Value) (hs:a.eval s=.slice ao n cap) (hnone:ao=none→n=0∧cap=0) (hlo:olds.length=n * size) (holds:∀ b,ao=some b→∀ j u,olds[j]?=some u→w.cell? (b.add j)=some u)
 (ad:Addr) (m c:Nat) (news:List Value) (hx:a.eval x=.slice (some ad) m c) (hn:news.length=m * size) (hc:∀ j u,news[j]?=some u→w.cell? (ad.add j)=some u) (h1c:∀ u∈news,u.oneCell'=true)
 (hfull:cap < n + m) (b1:n + m≤maxLen) (b2:(n + m) * bytes≤140737488355328)
 (hK:∀ v' w',w'.ownsRow w.heap.size e size v' (n + m) (olds ++ news)→w.grownBy w' none→K (a.put o.dst v') w'):o.wp P a w K Q:=by
 cases ao with
 | some b =>
   obtain ⟨v',w',hrun,r1,r2⟩:=run_append_arg_grows (P:=P) w t o.type e i z size bytes h1 h2 h3 h4 h5 h6 h7 b n cap olds hlo (holds b rfl) ad m c news hn hc hfull b1 b2;unfold Oper.wp;simp [execOp,hop,resolve,invoke,builtin,hs,hx,hrun,Result.andThen];exact hK v' w' r1 r2
 | none =>
   obtain ⟨rfl,rfl⟩:=hnone rfl;obtain rfl:olds=[]:=List.eq_nil_of_length_eq_zero (by simpa using hlo);obtain ⟨v',w',hrun,r1,r2,_⟩:=run_append_own (P:=P) w w.heap.size t o.type e i z size bytes h1 h2 h3 h4 h5 h6 h7 (.slice none 0 0) 0 [] (World.ownsRow_nil w _ e size) ad m c news hn hc h1c b1 b2 (Y0 _);unfold Oper.wp;simp [execOp,hop,resolve,invoke,builtin,hs,hx,hrun,Result.andThen];exact hK v' w' r1 r2
theorem Z44 (g j:Nat):((⟨g,0,none⟩:Addr).add j)=⟨g,j,none⟩:=by unfold Addr.add; split <;> simp_all
theorem Z3a {P:Program} {c:Code} {Q:Exit→Act→World→Prop} {a:Act} {w:World} (h:∀ W,W=w→c.wp P Q a W):c.wp P Q a w:=h w rfl
theorem Z9k {K:List ByteArray} {j:Nat} {u:Value} (h:(K.map Value.string)[j]?=some u):∃ s,K[j]?=some s∧u=.string s:=by
 rw [Yg] at h;cases hs:K[j]? with
 | none=>rw [hs] at h; cases h
 | some s=>rw [hs] at h; exact ⟨s,rfl,(Yc h).symm⟩
theorem Zfe (K:List ByteArray):∀ u∈K.map Value.string,u.oneCell'=true:=by
 intro u hu;obtain ⟨s,_,rfl⟩:=List.mem_map.1 hu;rfl
theorem Zd3 (body:Bool) (a:ATree):(Z0y body a).length≤3 * a.many:=by
 have hv:(Z45 a).length≤a.many:=Zcu a;have h1:=Z22 (Z0z (if body then Z45 a else []) (a.kids.filter Z19)) (a.kids.filter Z26);have h2:=Z22 (if body then Z45 a else []) (a.kids.filter Z19);have h3:(if body then Z45 a else []).length≤a.many:=by cases body <;> simp <;> exact hv
 have h4:(a.kids.filter Z19).length≤a.kids.length:=List.length_filter_le _ _;have h5:(a.kids.filter Z26).length≤a.kids.length:=List.length_filter_le _ _;have h6:=Z6i a;unfold Z0y;omega
theorem Z3g {w w':World} (h:w.grownBy w' none):Below w.heap.size w w':=⟨h.os,h.tape,h.output,h.size,fun k hk=>h.block k hk (by simp)⟩
theorem Z3z {w:World} {z:Nat} {v:Value} {K N:List ByteArray} {n:Nat} (h:w.ownsRow z 9 1 v n (K.map Value.string ++ N.map Value.string)) (hn:n=K.length + N.length):Zv w z v (K ++ N):=by
 unfold Zv;rw [Yi,← hn,Yl];exact h
theorem Zcw {w0:World} {ob B m:Nat} (ih:Z8c w0 ob B m) (a:ATree) (w:World) (v kv:Value) (L K:List ByteArray) (body:Bool) (hm:a.many≤m + 1) (hmx:a.many≤100000) (hA:WA a) (hT:TreeAt w0 B a) (hO:OS w0 ob v L w) (hK:KAt w ob v kv K) (hKb:K.length + a.many * 1000000≤1000000000000) (hLb:L.length + a.many≤1000000000)
 (h23:a.kind≠23) (h5:a.kind≠5) (h37:a.kind≠37) :
 Calls Tryz.prog 12 #[a.ptr,kv,.bool body,.pointer (some ⟨ob,0,none⟩)] w (Z53 w0 ob v L (Z10 a K body) w):=by
 obtain ⟨i0,hi,hz0,hz1,hz2⟩:=info_parts Tryz.infoStr;have hTw:=hT.bel hO.bel;have c0:=hTw.c0;have c1:=hTw.c1;have hnl:=Zd3 body a;obtain ⟨p,cp,hv,hge,hcp⟩:=hT.vOf;obtain ⟨K2,hdef,hcase,hKl⟩:∃ K2,Z10 a K body=Z18 a.kids K2∧((a.kind=1∨a.kind=6)∧K2=K ++ Z0y body a∨a.kind=13∧K2=K ++ [a.text]∨(a.kind≠1∧a.kind≠6∧a.kind≠13)∧K2=K)∧K2.length≤K.length + 300000:=by
  obtain ⟨b,vv,k,t,n,ks⟩:=a;simp only [ATree.kind] at h23 h5 h37;rw [Z10.eq_def];simp only [];rw [Y3 h23];by_cases h1:k=1∨k=6
  ·rw [Y5 h1];exact ⟨_,rfl,.inl ⟨h1,rfl⟩,by rw [Yi]; omega⟩
  rw [Y3 h1,Y3 (by omega)];by_cases h13:k=13
  ·rw [Y5 h13];exact ⟨_,rfl,.inr (.inl ⟨h13,rfl⟩),by simp⟩
  rw [Y3 h13];exact ⟨_,rfl,.inr (.inr ⟨⟨fun h=>h1 (.inl h),fun h=>h1 (.inr h),h13⟩,rfl⟩),by omega⟩
 rw [hdef];have HIH:=lh (fun (x:ATree) (hx:x∈a.kids) (W:World) (v1 kv2:Value) (L1:List ByteArray) (o1:OS w0 ob v1 L1 W) (k1:KAt W ob v1 kv2 K2) (hl:L1.length + x.many≤1000000000)=>
  ih x W v1 kv2 L1 K2 false (by have:=Z2r hx; omega) (by have:=Z2r hx; omega) (hA.kid hx) (hT.kid hx) o1 k1 (by have:=Z2r hx; omega) hl)
 have HC3:=lh (fun W (h:Below w.heap.size w W)=>show W.cell? ⟨a.b,3,none⟩=some (.slice p a.kids.length cp) from by rw [← hv]; exact (hTw.bel h).c3);have HTR:=lh (fun W (h:Below w0.heap.size w0 W)=>hT.bel h);have HLB:=lh (fun (k:Nat) (x:ATree) (hx:a.kids[k]?=some x)=>show ((Z18 (a.kids.take k) K2).foldl addL L).length + x.many≤1000000000 from by
  have h1:=Z2z (Z18 (a.kids.take k) K2) L;have h2:=Z6d (a.kids.take k) K2;have h3:=Z9g hx;have h4:a.many=Z0h a.kids + 1:=by obtain ⟨b,vv,kk,t,n,ks⟩:=a; rfl
  omega)
 obtain ⟨ao,kc,hkv,hK0,hclip,hn0,hcells⟩:=hK.clip;have hclips:∀ W:World,Calls Tryz.prog 28 #[.slice ao K.length kc] W fun e w'=>e=.returned (.slice ao K.length K.length)∧w'=W:=by
  obtain ⟨ao2,cp2,e1,e2,e3,e4,e5⟩:=hK;rw [hkv] at e1;simp only [Value.slice.injEq] at e1;obtain ⟨rfl,_,rfl⟩:=e1;exact fun W=>Zag W ao _ kc e2 e3 e4 (fun b hb=>by obtain ⟨g,e,_⟩:=e5 b hb; exact ⟨g,e⟩)
 clear hclip;subst hkv;have HK:=lh hK;have HK0:=lh hK0;have HO:=lh hO;have HV:=lh hv;have HNM:=lh (fun W (h:Below w.heap.size w W)=>Z99 body W B a (hTw.bel h) (by omega));obtain ⟨NM,hNM⟩:=zX (Z0y body a)
 rw [← hNM] at HNM hcase hnl;obtain ⟨tx,htx⟩:=zX a.text
 rw [← htx] at c1 hcase;obtain ⟨kd,hkd⟩:=zX a.kind
 rw [← hkd] at c0 h23 h5 h37 hcase;obtain ⟨nK,hnK⟩:=zX K.length
 rw [← hnK] at HK HK0 hclips hn0 hKb ⊢;have HNK:=lh hnK;obtain ⟨n,hn⟩:=zX a.kids.length
 rw [← hn] at hge HV HC3;have HN:=lh hn;have hnm:n≤100000:=by have:=Z6i a; omega
 have HCLIP:=lh hclips;have HOLD:=lh (fun (W:World) (q:Below w.heap.size w W) (b:Addr) (hb:ao=some b) (j:Nat) (u:Value) (hu:(K.map Value.string)[j]?=some u)=>show W.cell? (b.add j)=some u from by
  obtain ⟨s,hs,rfl⟩:=Z9k hu;obtain ⟨ao2,cp2,e1,_,_,_,e5⟩:=hK0;simp only [Value.slice.injEq] at e1;obtain ⟨g,e6,hg,_,_,hc⟩:=e5 b (by rw [← e1.1]; exact hb);rw [e6,Z44];exact (Yb (q.block g hg)).trans (hc j s hs))
 have HL1:=lh (show (K.map Value.string).length=nK * 1 from by rw [Ym,Nat.mul_one,hnK]);have HNO:=lh hn0;have hnl2:NM.length≤300000:=by omega
 have hKb2:nK≤1000000000000:=by omega
 unfold maxLen at hcp;have hab:a.b < w.heap.size:=hTw.lt;unfold ATree.ptr at HNM ⊢;clear ih hA hT hO hK hKb hLb hTw hv hdef hKl hm hmx hK0 hclips hn0 hcells hNM htx hkd hnK hn hnl;rcases hcase with ⟨h1,hK2⟩ | ⟨h1,hK2⟩ | ⟨⟨h1,h6,h13⟩,hK2⟩;rcases h1 with rfl | rfl
 iterate 2
  focus
   have HK2:=lh hK2;clear hK2 h23 h5 h37;go_enter Tryz.func12,Tryz.ntmps12
   go_wp2_with fail
   refine (HCLIP.out w).mono ?_;rintro e w' ⟨rfl,hww⟩;rw [hww];clear hww w';go_wp2_with fail
   refine (HNM.out w (Y2 _ _)).mono ?_;rintro e w2 ⟨v2,rfl,ht2,hb2⟩;have HQ:=lh hb2;by_cases hN:NM=[]
   focus
    obtain ⟨p2,c2,rfl⟩:∃ p2 c2,v2=.slice p2 0 c2:=by
     rw [hN] at ht2;rcases ht2.form with ⟨h1,_⟩ | ⟨g,cap,h1,_⟩;·exact ⟨_,_,h1⟩
     ·exact ⟨_,_,h1⟩
    have HN0:=lh hN;have c3S:=HC3.out w2 hb2;clear ht2 hb2 hN;go_wp2_with (at_builtin; refine Z50 rfl (.tmp 41) (.tmp 44) 26 rfl 9 i0 Tryz.underlying26 hi ao nK HNO.out rfl p2 c2 rfl ?_)
    refine Z3a fun wS hwS=>?_;have HKS:=lh (show KAt wS ob v (.slice ao nK nK) K2 from by rw [hwS,HK2.out]; exact (by rw [HN0.out,List.append_nil]; exact HK0.out.far (Far.below HQ.out)));have HBS:=lh (show Below w.heap.size w wS from by rw [hwS]; exact HQ.out);clear hwS
   rotate_left
   focus
    obtain ⟨g2,c2,hv2⟩:∃ g2 c2,v2=.slice (some ⟨g2,0,none⟩) NM.length c2:=by
     rcases ht2.form with ⟨_,h1⟩ | ⟨g,cap,h1,_⟩;·exact absurd h1 hN
     ·exact ⟨_,_,h1⟩
    have hq0:0 < NM.length:=List.length_pos_iff.2 hN;subst hv2;have HNEW:=lh (fun (j:Nat) (u:Value) (hu:(NM.map Value.string)[j]?=some u)=>show w2.cell? ((⟨g2,0,none⟩:Addr).add j)=some u from by
     obtain ⟨s,hs,rfl⟩:=Z9k hu;rw [Z44];exact ht2.cells rfl hs)
    obtain ⟨q,hq⟩:=zX NM.length
    rw [← hq] at hq0 hnl2 ⊢;have HL2:=lh (show (NM.map Value.string).length=q * 1 from by rw [Ym,Nat.mul_one,hq]);have HQL:=lh hq;have hosz:ob < w2.heap.size:=Y7 HO.out.lt hb2.size;clear ht2 hb2 hN hq
    go_wp2_with (at_builtin; (refine wpList_append_grows w2 rfl (.tmp 41) (.tmp 44) 26 rfl 9 i0 (.string ByteArray.empty) 1 16 Tryz.underlying26 hi hz0 hz1 hz2 rfl (by decide) ao nK nK (K.map Value.string) rfl (fun e=>⟨HNO.out e,HNO.out e⟩) HL1.out (HOLD.out _ HQ.out) ⟨g2,0,none⟩ q c2 (NM.map Value.string) rfl HL2.out HNEW.out (Zfe NM) (by omega) (by unfold maxLen; omega) (by omega) ?_); intro v3 w3 hown3 hgrow3; have HG:=lh (HQ.out.trans ((Z3g hgrow3).mono HQ.out.size)); have HW:=lh hown3; clear hown3 hgrow3; have c3S:=HC3.out w3 HG.out)
    refine Z3a fun wS hwS=>?_;have HKS:=lh (show KAt wS ob v v3 K2 from by rw [hwS,HK2.out]; exact KAt.texts (Z3z HW.out (by rw [HNK.out,HQL.out])) hosz (fun g hg=>Y7 (HO.out.own g hg) HQ.out.size));have HBS:=lh (show Below w.heap.size w wS from by rw [hwS]; exact HG.out);clear hwS
  rotate_left 2
 focus
  have HK2:=lh hK2;subst h1;clear hK2 h23 h5 h37;have HB1:Hid (Below w.heap.size w (w.drew.alloc (.cells #[.string tx] 9))):=lh ((Y2 _ _).drew.alloc (Y0 _) _);have c1d:(w.drew.alloc (.cells #[.string tx] 9)).cell? ⟨a.b,1,none⟩=some (.string tx):=(Yb (HB1.out.block a.b hab)).trans c1;have hosz:ob < (w.drew.alloc (.cells #[.string tx] 9)).heap.size:=Y7 HO.out.lt HB1.out.size;go_enter Tryz.func12,Tryz.ntmps12
  go_wp2_with fail
  refine Z7d (.take 0 (.take 2 (.take 3 (.take 4 (.take 5 (.two 1 (.go 6 (.go 7 (.go 8 .nil))) 6 (.go 1 (.go 7 (.go 8 .nil))))))))) 8 (fun W=>W.cell? ⟨a.b,1,none⟩=some (.string tx)) (by rfl) (by kernel_rfl) (fun c a d v w h=>by cases d <;> exact h) c1 ?_;iterate 4 (refine Zc7 ?_ (by rfl) (by rfl) (fun w'=>?_) ?_; rotate_left; (go_simp; first | done | with_reducible rfl); simp only [Act.put,zA,zB,zC])
  refine Zb8 ?_ (by rfl) (by kernel_rfl) (by rfl) (fun w' hS'=>?_) ?_; rotate_left; (have s0:=hS'; go_simp; first | done | with_reducible rfl); simp only [Act.put,zA,zB,zC];refine Zeu ?_ ?_
  focus
   refine Z5g (by rfl) (by rfl) (by rfl) (fun KK hK=>?_);go_simp
   refine (HCLIP.out w.drew).mono ?_;rintro e w' ⟨rfl,hww⟩;rw [hww];clear hww w';refine hK _ _ c1 ?_;clear hK KK;try simp only [Act.put,zA,zB,zC]
   refine Z5g (by rfl) (by rfl) (by rfl) (fun KK hK=>?_);go_simp
   refine hK _ _ c1d ?_;clear hK KK;try simp only [Act.put,zA,zB,zC]
   refine Z5g (by rfl) (by rfl) (by rfl) (fun KK hK=>?_);refine Z3w (w.drew.alloc (.cells #[.string tx] 9)) (.tmp 106) (.tmp 111) 26 (by rfl) 9 i0 (.string ByteArray.empty) 1 16 Tryz.underlying26 hi hz0 hz1 hz2 rfl (by decide) ao nK nK (K.map Value.string) (by rfl) (fun e=>⟨HNO.out e,HNO.out e⟩) HL1.out (HOLD.out _ HB1.out) ⟨w.heap.size,0,none⟩ 1 1 [.string tx] (by rfl) rfl (fun j u hu=>cell_one_new w.drew _ _ j u hu) (by intro u hu; simp at hu; subst hu; rfl) (by omega) (by unfold maxLen; omega) (by omega) ?_;intro v3 w3 hown3 hgrow3
   have HG:=lh (HB1.out.trans ((Z3g hgrow3).mono HB1.out.size));have HW:=lh hown3;refine hK _ _ ((Yb (HG.out.block a.b hab)).trans c1) ?_;clear hown3 hgrow3;clear hK KK;try simp only [Act.put,zA,zB,zC]
   refine Z8y (by rfl) (by rfl) (by rfl) (fun KK hK=>?_);go_simp
   refine hK _ _ (Zai ?_);clear hK KK;try simp only [Act.put,zA,zB,zC]
   have c3S:=HC3.out w3 HG.out;go_wp2_with fail
   refine Z3a fun wS hwS=>?_;have HKS:=lh (show KAt wS ob v v3 K2 from by rw [hwS,HK2.out]; exact KAt.texts (Z3z (N:=[tx]) HW.out (by rw [HNK.out]; rfl)) hosz (fun g hg=>Y7 (HO.out.own g hg) HB1.out.size));have HBS:=lh (show Below w.heap.size w wS from by rw [hwS]; exact HG.out);clear hwS
  rotate_left
  focus
   refine Z5g (by rfl) (by rfl) (by rfl) (fun KK hK=>?_);go_simp
   refine hK _ _ c1d ?_;clear hK KK;try simp only [Act.put,zA,zB,zC]
   refine Z5g (by rfl) (by rfl) (by rfl) (fun KK hK=>?_);go_simp
   refine (HCLIP.out (w.drew.alloc (.cells #[.string tx] 9))).mono ?_;rintro e w' ⟨rfl,hww⟩;rw [hww];clear hww w';refine hK _ _ c1d ?_;clear hK KK;try simp only [Act.put,zA,zB,zC]
   refine Z5g (by rfl) (by rfl) (by rfl) (fun KK hK=>?_);refine Z3w (w.drew.alloc (.cells #[.string tx] 9)) (.tmp 106) (.tmp 111) 26 (by rfl) 9 i0 (.string ByteArray.empty) 1 16 Tryz.underlying26 hi hz0 hz1 hz2 rfl (by decide) ao nK nK (K.map Value.string) (by rfl) (fun e=>⟨HNO.out e,HNO.out e⟩) HL1.out (HOLD.out _ HB1.out) ⟨w.heap.size,0,none⟩ 1 1 [.string tx] (by rfl) rfl (fun j u hu=>cell_one_new w.drew _ _ j u hu) (by intro u hu; simp at hu; subst hu; rfl) (by omega) (by unfold maxLen; omega) (by omega) ?_;intro v3 w3 hown3 hgrow3
   have HG:=lh (HB1.out.trans ((Z3g hgrow3).mono HB1.out.size));have HW:=lh hown3;refine hK _ _ ((Yb (HG.out.block a.b hab)).trans c1) ?_;clear hown3 hgrow3;clear hK KK;try simp only [Act.put,zA,zB,zC]
   refine Z8y (by rfl) (by rfl) (by rfl) (fun KK hK=>?_);go_simp
   refine hK _ _ (Zai ?_);clear hK KK;try simp only [Act.put,zA,zB,zC]
   have c3S:=HC3.out w3 HG.out;go_wp2_with fail
   refine Z3a fun wS hwS=>?_;have HKS:=lh (show KAt wS ob v v3 K2 from by rw [hwS,HK2.out]; exact KAt.texts (Z3z (N:=[tx]) HW.out (by rw [HNK.out]; rfl)) hosz (fun g hg=>Y7 (HO.out.own g hg) HB1.out.size));have HBS:=lh (show Below w.heap.size w wS from by rw [hwS]; exact HG.out);clear hwS
 rotate_left 2
 focus
  have HK2:=lh hK2;clear hK2;have n23:(kd == 23)=false:=by simpa using h23
  have n5:(kd == 5)=false:=by simpa using h5
  have n37:(kd == 37)=false:=by simpa using h37
  have n1:(kd == 1)=false:=by simpa using h1
  have n6:(kd == 6)=false:=by simpa using h6
  have n13:(kd == 13)=false:=by simpa using h13
  clear h23 h5 h37 h1 h6 h13;have c3S:=HC3.out w (Y2 _ _);go_enter Tryz.func12,Tryz.ntmps12
  go_wp2_with fail
  refine Z3a fun wS hwS=>?_;have HKS:=lh (show KAt wS ob v (.slice ao nK kc) K2 from by rw [hwS,HK2.out]; exact HK.out);have HBS:=lh (show Below w.heap.size w wS from by rw [hwS]; exact Y2 _ _);clear hwS
 rotate_left
 all_goals
  go_loopw [118] (fun i wr=>∃ (k:Nat) (v1:Value),k≤n∧i=.int .i64 k∧Hid (OS w0 ob v1 ((Z18 (a.kids.take k) K2).foldl addL L) wr)∧Hid (Far ob v wS v1 wr)) (fun i _=>n - (intOf i).toNat)
  case atStart=>exact ⟨0,v,Yh _,rfl,lh (by simpa [Z18] using HO.out.below HBS.out),lh (Far.below (Y2 _ _))⟩
  case round=>
   obtain ⟨k,v1,hk,rfl,HS,HF⟩:=hrel;by_cases hkn:k < n
   ·obtain ⟨x, hx⟩ : ∃ x, a.kids[k]? = some x := ⟨_, Y6 (by rw [← HN.out]; exact hkn)⟩
    have hT2:=HTR.out wr HS.out.bel;have hrow:=hT2.rowOf;rcases Z8 hrow with ⟨_,h2⟩ | ⟨g0,cap0,hv0,_⟩;·rw [← HN.out] at h2; omega
    have hp:p=some ⟨g0,0,none⟩:=by
     have:=HV.out.symm.trans hv0;simp only [Value.slice.injEq] at this;exact this.1
    subst hp;have cx:=Zu hrow (g:=g0) (by rw [hv0]; rfl) (i:=k) (x:=x.ptr) (by rw [Yg,hx]; rfl);have hcall:=HIH.out x (Yd hx) wr v1 _ _ HS.out (HKS.out.far HF.out) (HLB.out k x hx);have HST:=lh (Zbc hx K2 L);unfold ATree.ptr at cx hcall;have HCALL:=lh hcall;clear hT2 hrow hv0 hx hcall;go_wp2_with fail
    refine HCALL.out.mono ?_;rintro e w2 ⟨rfl,v2,ho2,hf2⟩;have HS2:=lh ho2;have HF2:=lh (HF.out.trans hf2);clear ho2 hf2 HCALL HS HF;go_wp2;go_roundw
    case rel=>exact ⟨k + 1,v2,by omega,by go_num,lh (by rw [HST.out]; exact HS2.out),HF2⟩
    case measure=>simp [intOf]; omega
   ·have hk2 : k = n := by omega
    subst hk2;go_wp2;refine bodyPost_ret (results_none rfl _ _ _) rfl ?_;refine ⟨rfl,v1,?_,(Far.below HBS.out).trans HF.out⟩;have h:=HS.out;rw [Ye (by rw [← HN.out]; exact Y0 _)] at h;exact h
end Go.Proofs.YtedopiahfejdfaaGreatDoor
