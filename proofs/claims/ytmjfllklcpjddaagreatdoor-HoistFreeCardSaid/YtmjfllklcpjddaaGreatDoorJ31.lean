/- The document's parser: single. -/
import Derived.Test.YtmjfllklcpjddaaGreatDoorJ30
namespace Go.Proofs.YtmjfllklcpjddaaGreatDoor
open Go Go.RowKit Go.Maps
set_option maxRecDepth 100000
set_option maxHeartbeats 20000000
set_option linter.unusedVariables false
def unS:List (ByteArray×Int):=[(Z4o,32),(Z1g,33),(Z1w,34)]
def unE:DataW Unit:=litD unS
theorem Zko:unE=.map [(.string Z4o.data.toList,.lit (.int .i64 32)),(.string Z1w.data.toList,.lit (.int .i64 34)),(.string Z1g.data.toList,.lit (.int .i64 33))]:=by kernel_rfl
theorem Zkn {kl:Lit} (h:Maps.has unE kl=true):∃ x∈unS,kl=.string x.1.data.toList:=by
 rw [Zko] at h;obtain ⟨p,hp,hk⟩:=List.any_eq_true.1 h;have e:=WideAt.sameKey_eq hk;simp only [List.mem_cons,List.not_mem_nil,or_false] at hp;rcases hp with rfl | rfl | rfl;·exact ⟨(Z4o,32),by simp [unS],e.symm⟩
 ·exact ⟨(Z1w,34),by simp [unS],e.symm⟩
 ·exact ⟨(Z1g,33),by simp [unS],e.symm⟩
theorem Zl0 {x:ByteArray×Int} (h:x∈unS):Maps.has unE (.string x.1.data.toList)=true∧unE.atKey (.string x.1.data.toList) (.lit (.int .i64 0))=.lit (.int .i64 x.2):=by
 simp only [unS,List.mem_cons,List.not_mem_nil,or_false] at h;rcases h with rfl | rfl | rfl <;> exact ⟨by kernel_rfl,by kernel_rfl⟩
theorem Z2d {s s':ByteArray} {σ:RS} (h:Zd s σ=true) (hn:s≠s'):Zd s' σ=false:=by
 have:=Z6j (Z2n h) hn;simp [Zd,this]
theorem Zkt {x:ByteArray×Int} {σ:RS} (h:x∈unS) (hx:Zd x.1 σ=true):Z5m σ=x.2∧x.2≠0:=by
 simp only [unS,List.mem_cons,List.not_mem_nil,or_false] at h;rcases h with rfl | rfl | rfl;·exact ⟨by unfold Z5m; rw [Yb hx],by decide⟩
 ·exact ⟨by unfold Z5m; rw [Z2d hx (s':=Z4o) (by decide)]; simp only at hx; simp [hx],by decide⟩
 ·exact ⟨by unfold Z5m; rw [Z2d hx (s':=Z4o) (by decide),Z2d hx (s':=Z1g) (by decide)]; simp only at hx; simp [hx],by decide⟩
theorem Zkh {σ:RS} (h:∀ x∈unS,Zd x.1 σ=false):Z5m σ=0:=by
 have h1:=h (Z4o,32) (by simp [unS]); have h2:=h (Z1g,33) (by simp [unS]); have h3:=h (Z1w,34) (by simp [unS]);simp only at h1 h2 h3;simp [Z5m,h1,h2,h3]
theorem Zn {w:World} {C:QC} {σ:RS} (h:QS w C σ) (s:ByteArray) (hs:Zd s σ=false):Calls Tryz.prog 48 #[.pointer (some ⟨C.rb,0,none⟩),.string s] w fun e w'=>
 e=.returned (.bool false)∧Below w.heap.size w w':=by
 have HN:=Zc h s;rw [hs] at HN;have HN:=lh HN;clear h hs;go_enter Tryz.func48,Tryz.ntmps48
 go_wp2_with fail
 refine HN.out.mono ?_;rintro e w1 ⟨rfl,hB1⟩;have HB:=lh hB1;clear hB1;go_wp2;go_ret;exact ⟨rfl,HB.out⟩
theorem Z85 {P:Program} (w:World) (base:Nat) (t ty e:TypeId) (i:TypeInfo) (size:Nat) (ht:P.underlying t=some (.slice e)) (hi:P.info? e=some i)
 (v:Value) (n:Nat) (xs:List Value) (hown:w.ownsRow base e size v n xs) (p:Option Addr) (c:Nat) :
 (Builtin.append_ #[t,t] ty #[v,.slice p 0 c]).run P w=.ok v w:=by
 rcases hown.2 with ⟨rfl,rfl⟩ | ⟨g,cap,cur,rfl,_,_,hnc,_⟩;·cases p <;> simp [Builtin.append_,run_underlying ht,sizeOf,typeInfo,hi,Builtin.lenOf,Builtin.firstCells,loadCells,loadCellsFrom,Result.andThen]
 ·cases p <;> simp [Builtin.append_,run_underlying ht,sizeOf,typeInfo,hi,Builtin.lenOf,Builtin.firstCells,hnc,storeCells,loadCells,loadCellsFrom,Result.andThen]
theorem Z6g {P:Program} {w:World} {ops:Array Oper} {rest:List Oper} {o:Oper} {a:Act} {Q:Exit→Act→World→Prop} (hgd:o.guard=none) (s x:Operand) (t:TypeId)
 (ho:o.op=.call { callee:=.builtin .append,args:=#[s,x],argTypes:=#[t,t] })
 (base:Nat) (e:TypeId) (i:TypeInfo) (size:Nat) (ht:P.underlying t=some (.slice e)) (hi:P.info? e=some i)
 (v:Value) (n:Nat) (xs:List Value) (hs:a.eval s=v) (hown:w.ownsRow base e size v n xs) (p:Option Addr) (c:Nat) (hx:a.eval x=.slice p 0 c)
 (h:wpList P ops Q rest (a.put o.dst v) w):wpList P ops Q (o :: rest) a w:=by
 refine wpList_plain hgd fun K hK=>?_;have hrun:=Z85 (P:=P) w base t o.type e i size ht hi v n xs hown p c;unfold Oper.wp;simp [execOp,ho,resolve,invoke,builtin,hs,hx,hrun,Result.andThen];exact hK _ _ h
section
variable {w0 w w2 wA:World} {B rb:Nat} {v:Value} {kids ks':List ATree} {ts ts':List Tree}
theorem KidsAt.app (h:KidsAt w0 B w kids ts) (hA:∀ x∈Zw kids,x < wA.heap.size) (k:KidsAt wA B w ks' ts') (h0:w0.heap.size≤wA.heap.size):KidsAt w0 B w (kids ++ ks') (ts ++ ts'):=by
 refine ⟨by rw [Z5q,h.tree,k.tree],fun x hx=>?_,?_,fun x hx=>?_⟩
 ·rcases List.mem_append.1 hx with hx | hx;·exact h.at' x hx
  ·exact k.at' x hx
 ·rw [Z1b,List.nodup_append];exact ⟨h.nodup,k.nodup,fun x hx y hy e=>by have h1:=hA x hx; have h2:=k.new y hy; omega⟩
 ·rw [Z1b, List.mem_append] at hx;rcases hx with hx | hx;·exact h.new x hx
  ·have:=k.new x hx; omega
theorem ListAt.pushL {g cap:Nat} (L:ListAt w0 B w v kids ts) (hLA:∀ x∈Zw kids,x < wA.heap.size) (K:KidsAt wA B w ks' ts') (hvK:∀ x,v.ownBlock=some x→x ∉ Zw ks') (h0:w0.heap.size≤wA.heap.size)
 (hg:w.grownBy w2 v.ownBlock) (hown:w2.ownsRow B 22 1 (.slice (some ⟨g,0,none⟩) (kids.length + ks'.length) cap) (kids.length + ks'.length) (kids.map ATree.ptr ++ ks'.map ATree.ptr))
 (hat:v.ownBlock=some g∨w.heap.size≤g) (hgl:g < w2.heap.size) (hF:RFr w0 w rb) :
 ListAt w0 B w2 (.slice (some ⟨g,0,none⟩) (kids.length + ks'.length) cap) (kids ++ ks') (ts ++ ts')∧(∀ x,x < w.heap.size→v.ownBlock≠some x→w2.heap[x]?=w.heap[x]?)∧RFr w0 w2 rb:=by
 have far:∀ x,x < w.heap.size→v.ownBlock≠some x→w2.heap[x]?=w.heap[x]?:=fun x hx hn=>hg.block x hx (fun e=>hn e.symm);have hgk:g ∉ Zw kids:=fun hm=>by
  rcases hat with h | h;·exact (L.own g h).2.2 hm
  ·have:=(L.ks.new g hm).2; omega
 have hga:g ∉ Zw ks':=fun hm=>by
  rcases hat with h | h;·exact hvK g h hm
  ·have:=(K.new g hm).2; omega
 have hg0:w0.heap.size≤g:=by
  rcases hat with h | h;·exact (L.own g h).1
  ·have:=hF.size; omega
 have hkeep:∀ x∈Zw kids,w2.heap[x]?=w.heap[x]?:=fun x hx=>far x (L.ks.new x hx).2 fun e=>(L.own x e).2.2 hx;have hkeepA:∀ x∈Zw ks',w2.heap[x]?=w.heap[x]?:=fun x hx=>far x (K.new x hx).2 fun e=>hvK x e hx;have hs:=hg.size;have KK:=L.ks.app hLA K h0;refine ⟨⟨⟨KK.tree,fun x hx=>?_,KK.nodup,fun x hx=>?_⟩,?_,fun g' hg'=>?_⟩,far,⟨?_,?_,?_,?_,?_⟩⟩
 ·refine (KK.at' x hx).keepB fun y hy => ?_;rcases List.mem_append.1 hx with hx | hx;·exact hkeep y (by rw [Z0y]; exact List.mem_flatMap.2 ⟨x, hx, hy⟩)
  ·exact hkeepA y (by rw [Z0y]; exact List.mem_flatMap.2 ⟨x,hx,hy⟩)
 ·have:=KK.new x hx; omega
 ·rw [Yq,Yu]; exact hown
 ·simp only [Value.ownBlock,Option.some.injEq] at hg';subst hg';refine ⟨hg0,hgl,fun hm=>?_⟩;rw [Z1b,List.mem_append] at hm;exact hm.elim hgk hga
 ·exact hg.os.trans hF.os
 ·exact hg.tape.trans hF.tape
 ·exact hg.output.trans hF.output
 ·have:=hF.size; omega
 ·intro x hx hn;have:=hF.size;exact (far x (by omega) (fun e=>by have:=(L.own x e).1; omega)).trans (hF.block x hx hn)
end
def SInv (w wb:World) (C:QC) (B d f:Nat) (t:Tree) (σ':RS) (g:Nat) (v:Value) (wr:World):Prop:=
 ∃ (x:Tree) (a:ATree) (σ:RS),v=.pointer (some ⟨a.b,0,none⟩)∧refF g (.singleL x) d σ=some (t,σ')∧Got w B wr a x∧QS wr C σ∧RFr wb wr C.rb
theorem Ziv (f:Nat) (hS:Z14 116 qd .single f) (hFi:Z14 126 qd .first f) (hV:∀ g,g < f→Z14 54 qd .value g) :
 Z14 116 qd .single (f + 1):=by
 intro w C B d σ t σ' hQ hr hB hd hp;rw [refF] at hp;have HR:=lh hr;have HB:=lh hB;have HD:=lh hd;have HS:=lh hS;have HV:=lh hV;have HFI:=lh hFi;have HP:=lh hp;obtain ⟨bx,hbx⟩:=zX w.heap.size
 obtain ⟨wb,hwb⟩:=zX ((w.alloc (.cells #[.pointer (some ⟨C.rb,0,none⟩)] 53)).alloc (.cells #[.int .i64 d] 3))
 have hbb:Below w.heap.size w wb:=by rw [hwb]; exact ((Y8 _ _).alloc (Y5 _) _).alloc (by simp) _
 have hzb:wb.heap.size=bx + 2:=by rw [hwb,hbx]; simp
 have q1:wb.cell? ⟨bx,0,none⟩=some (.pointer (some ⟨C.rb,0,none⟩)):=by
  rw [hwb,hbx];exact (Z4 (by simp)).trans (World.cell?_alloc_new w _ _ 0)
 have q2:wb.cell? ⟨bx + 1,0,none⟩=some (.int .i64 d):=by
  have e:bx + 1=(w.alloc (.cells #[.pointer (some ⟨C.rb,0,none⟩)] 53)).heap.size:=by rw [hbx]; simp
  rw [hwb,e];exact World.cell?_alloc_new _ _ _ 0
 have HNE:=lh (show bx≠C.rb by have:=hQ.rlt; omega);have HNE2:=lh (show bx + 1≠C.rb by have:=hQ.rlt; omega);have HQB:=lh (hQ.below hbb);have FB:=lh (RFr.below (rb:=C.rb) hbb);have HBX1:=lh (show bx < wb.heap.size by omega);have HBX2:=lh (show bx + 1 < wb.heap.size by omega);have HQ1:=lh q1;have HQ2:=lh q2;have HWB:=lh hwb;have HBX:=lh hbx;have hmm:=@run_makeMap Tryz.prog;have h0:=World.ownsMap_made (H:=Unit) wb Tryz.prog 9 (plainElem Tryz.prog 3);have hB0:Below wb.heap.size wb (wb.alloc (.map #[] 0)):=(Y8 _ _).alloc (Y5 _) _
 have HB0:=lh hB0;rw [HWB.out,World.size_alloc,World.size_alloc] at h0;clear hB0 hQ hr hB hd hp hS hV hFi hbb hwb hbx hzb q1 q2;unfold qd;go_enter Tryz.func116,Tryz.ntmps116
 go_wp2_with (first | (refine Z7 _ rfl _ _ _ 88 rfl 9 3 Tryz.keyedS Tryz.underlying88 _ _ 0 _ rfl h0 (by unfold maxLen; omega) _ _ _ rfl rfl (Yw Yr (by decide)) _ [] (plainElem_int Ys (by decide)) ?_; intro v1 h1 g1) | (refine Z7 _ rfl _ _ _ 88 rfl 9 3 Tryz.keyedS Tryz.underlying88 _ _ 1 _ rfl h1 (by unfold maxLen; omega) _ _ _ rfl rfl (Yw Yr (by decide)) _ [] (plainElem_int Ys (by decide)) ?_; intro v2 h2 g2) | (refine Z7 _ rfl _ _ _ 88 rfl 9 3 Tryz.keyedS Tryz.underlying88 _ _ 2 _ rfl h2 (by unfold maxLen; omega) _ _ _ rfl rfl (Yw Yr (by decide)) _ [] (plainElem_int Ys (by decide)) ?_; intro v3 h3 g3) | (at_range; refine wpList_range_own _ rfl _ 88 rfl 9 3 Tryz.keyedS Tryz.underlying88 _ _ _ _ rfl h3 ?_; intro v4 hrg0 hg4 hs4))
 obtain ⟨mb,hmb⟩:=zX (w.heap.size + 1 + 1)
 have hz1:wb.heap.size=mb:=by rw [HWB.out,hmb]; simp
 obtain ⟨it,hit⟩:=zX v3.heap.size
 have B1':=Zo HB0.out (by rw [← HWB.out] at g1; exact g1) (by omega) HB0.out.size;have B2:=Zo B1' g2 (by omega) B1'.size;have B3:=Zo B2 g3 (by omega) B2.size;have B4:Below wb.heap.size wb v4:=B3.grown hg4 B3.size (fun j hj=>by cases hj);have hitl:wb.heap.size≤it:=by rw [hit]; exact B3.size
 have hrg:v4.ranges Tryz.prog 9 (plainElem Tryz.prog 3) mb it 3 unE (Maps.has unE) (Maps.size unE):=by rw [hmb,hit]; exact hrg0
 have HRG:=lh hrg;have B4:=lh B4;rw [← hmb,← hit];have HMB:=lh hmb;have HIT:=lh hit;have HZ1:=lh hz1;have HITL:=lh hitl;rw [← HBX.out];clear hrg0 hg4 hs4 h0 h1 h2 h3 g1 g2 g3 B1' B2 B3 hrg hmb hit hz1 hitl HB0 hmm
 go_loopw [] (fun wr=>∃ (left:Lit→Bool) (cnt:Nat),wr.ranges Tryz.prog 9 (plainElem Tryz.prog 3) mb it 3 unE left cnt∧Hid (∀ kl,left kl=true→Maps.has unE kl=true) ∧
  Hid (∀ s:ByteArray,Maps.has unE (.string s.data.toList)=true→left (.string s.data.toList)=false→Zd s σ=false)∧Hid (Below wb.heap.size wb wr)) (fun wr=>wr.rangeLeft mb it)
 case atStart=>exact ⟨_,_,HRG.out,lh (fun _ h=>h),lh (fun s h1 h2=>by rw [h1] at h2; cases h2),B4⟩
 case round=>
  obtain ⟨left,cnt,hrg,HLE,HNO,BW⟩:=hrel;go_wp2_with (at_next; refine wpList_next_ranges _ rfl _ rfl 9 Tryz.keyedS _ (fun x:ByteArray=>Value.string x) (fun c:Int=>Value.int .i64 c) (fun key kl h=>by obtain ⟨x,h,_⟩:=keyOf_string_inv Yr h; exact ⟨x,h⟩) (fun v y h=>by obtain ⟨c,h,_⟩:=plainElem_int_inv Ys h; exact ⟨c,h⟩) mb it 3 _ left cnt rfl hrg ?_ ?_)
  ·intro _ hl0;have hnone : Z5m σ = 0 := Zkh fun x hx => HNO.out x.1 (Zl0 hx).1 (hl0 _);have hq := HP.out;rw [Y9 (fun h => h hnone)] at hq;obtain ⟨x0, σ1, hx, hl⟩ := Ze hq;have HX := lh hx;have HL := lh hl;have QW := lh (HQB.out.below BW.out);have FW := lh (RFr.below (rb := C.rb) BW.out);have j1 : wr.cell? ⟨bx, 0, none⟩ = some (.pointer (some ⟨C.rb, 0, none⟩)) := (Yj (BW.out.block bx HBX1.out)).trans HQ1.out;have j2 : wr.cell? ⟨bx + 1, 0, none⟩ = some (.int .i64 d) := (Yj (BW.out.block _ HBX2.out)).trans HQ2.out;clear hl0 hnone hq hrg hx hl
   go_wp2_with fail
   refine (HFI.out wr C B d _ _ _ QW.out HR.out (Ya HB.out (FB.out.trans FW.out).size) (by have:=HD.out; omega) HX.out).mono ?_;rintro e w1 ⟨a0,rfl,h1,h2,h3⟩;have ST:=lh (show ∃ g,g≤f∧SInv w wb C B d f t σ' g (.pointer (some ⟨a0.b,0,none⟩)) w1 from ⟨f,Y5 _,x0,a0,σ1,rfl,HL.out,h1.pre (FB.out.trans FW.out),h2,FW.out.trans h3⟩);clear h1 h2 h3 j1 j2;go_wp2_with fail
   go_loopw [7] (fun v wr=>∃ g,g≤f∧SInv w wb C B d f t σ' g v wr) (fun v wr=>least fun g=>g≤f∧SInv w wb C B d f t σ' g v wr)
   case atStart=>exact ST.out
   case round=>
    clear ST;have hI:=Z3k hrel;obtain ⟨g,hg⟩:=zX (least fun g=>g≤f∧SInv w wb C B d f t σ' g u7 wr)
    rw [← hg] at hI;have HG:=lh hg;clear hg hrel;obtain ⟨hgF,x,a,σ2,rfl,hp,hN,hQ,hF⟩:=hI;cases g with
    | zero=>simp [refF] at hp
    | succ g=>
    rw [refF] at hp;have HO:=Z1x hQ;have hxw:=hF.size;have j1:wr.cell? ⟨bx,0,none⟩=some (.pointer (some ⟨C.rb,0,none⟩)):=(hF.cell HBX1.out HNE.out).trans HQ1.out;have j2:wr.cell? ⟨bx + 1,0,none⟩=some (.int .i64 d):=(hF.cell HBX2.out HNE2.out).trans HQ2.out;have HN:=lh hN;have Q2:=lh hQ;have F2:=lh hF;have HGF:=lh hgF;have HW:=lh hxw;clear hN hQ hF hgF hxw;by_cases hf:σ2.f.isNone=true;rotate_left
    ·have hf : σ2.f.isNone = false := Bool.eq_false_iff.2 hf;rw [hf] at HO;rw [Y9 (by simp [Zd, hf]), Y9 (by simp [Zd, hf])] at hp;simp only [Option.some.injEq, Prod.mk.injEq] at hp;have HO := lh HO;have HE := lh hp;clear hf hp;go_wp2_with fail
     refine HO.out.mono ?_;rintro e w3 ⟨rfl,rfl⟩;go_wp2;go_ret;obtain ⟨h4,h5⟩:=HE.out;exact ⟨a,rfl,by rw [← h4]; exact HN.out,by rw [← h5]; exact Q2.out,FB.out.trans F2.out⟩
    rw [hf] at HO;have HO:=lh HO;have HE:=lh hp;clear hf hp;go_wp2_with fail
    refine HO.out.mono ?_;rintro e w3 ⟨rfl,rfl⟩;clear HO;go_wp2_with fail
    have HT:=Z0u Q2.out Z98;have hE:=HE.out;by_cases hd:Zd Z98 σ2=true
    ·rw [hd, Yb rfl] at HT;rw [Yb hd] at hE;replace HE := lh hE
     clear hE hd;refine HT.mono ?_;rintro e w3 ⟨rfl,h3,f3⟩;have k1:=(f3.cell (Ye HBX1.out HW.out) HNE.out).trans j1;have Q3:=lh h3;have F3:=lh f3;clear h3 f3 HT j1 j2;go_wp2_with fail
     refine (Z2t Q3.out B HR.out (Ya HB.out ((FB.out.trans F2.out).trans F3.out).size)).mono ?_;rintro e w4 ⟨rfl,h4,f4⟩;have Q4:=lh h4;have F4:=lh (F3.out.trans f4);clear h4 f4 k1;go_wp2;have hal:=(Y8 w4.heap.size w4).alloc (Y5 _) (.cells #[.pointer (some ⟨a.b,0,none⟩)] 22);have hFF:=(FB.out.trans F2.out).trans F4.out;have hfin:=Got.one (k:=36) (t:=(Zj (advR σ2)).1) HB.out hFF (HN.out.rfr HR.out F4.out)
     have hinv:g≤f∧SInv w wb C B d f t σ' g (.pointer (some ⟨w4.heap.size + 1,0,none⟩)) ((w4.alloc (.cells #[.pointer (some ⟨a.b,0,none⟩)] 22)).alloc (.cells #[.int .i64 36,.string (Zj (advR σ2)).1,.int .i64 0,.slice (some ⟨w4.heap.size,0,none⟩) 1 1] 46)):=
      ⟨by have:=HGF.out; omega,_,_,_,rfl,HE.out,hfin,(Q4.out.below hal).below ((Y8 _ _).alloc (Y5 _) _),((F2.out.trans F4.out).trans (RFr.below hal)).trans (RFr.below ((Y8 _ _).alloc (Y5 _) _))⟩
     exact ⟨⟨g,hinv⟩,by rw [← HG.out]; exact Nat.lt_succ_of_le (Z32 hinv)⟩
    have hd:Zd Z98 σ2=false:=by simpa using hd
    rw [hd] at HT;simp only [Bool.false_eq_true,if_false] at HT;rw [Y9 (by simp [hd])] at hE;replace HE:=lh hE
    clear hE hd;refine HT.mono ?_;rintro e w3 ⟨rfl,h3,f3⟩;have k1:=(f3.cell (Ye HBX1.out HW.out) HNE.out).trans j1;have k2:=(f3.cell (Ye HBX2.out HW.out) HNE2.out).trans j2;have Q3:=lh h3;have F3:=lh f3;clear h3 f3 HT j1 j2;go_wp2_with fail
    have HT:=Z0u Q3.out Z08;have hE:=HE.out;by_cases hd:Zd Z08 σ2=true;rotate_left
    ·have hd : Zd Z08 σ2 = false := by simpa using hd
     rw [hd] at HT;simp only [Bool.false_eq_true,if_false] at HT;rw [Y9 (by simp [hd])] at hE;obtain ⟨rfl,rfl⟩:x=t∧σ2=σ':=by simpa using hE
     clear hE hd;refine HT.mono ?_;rintro e w4 ⟨rfl,h4,f4⟩;have Q4:=lh h4;have F4:=lh (F3.out.trans f4);clear h4 f4 HT k1 k2;go_wp2;go_ret;exact ⟨a,rfl,HN.out.rfr HR.out F4.out,Q4.out,(FB.out.trans F2.out).trans F4.out⟩
    rw [hd,Yb rfl] at HT;rw [Yb hd] at hE;obtain ⟨l,σ4,hl,hE⟩:=Ze hE;replace HE:=lh hE
    have HLL:=lh hl;clear hE hd hl;refine HT.mono ?_;rintro e w4 ⟨rfl,h4,f4⟩;have hw34:wr.heap.size≤w4.heap.size:=(F3.out.trans f4).size;have i1:=(f4.cell (Ye HBX1.out (Ya HW.out F3.out.size)) HNE.out).trans k1;have i2:=(f4.cell (Ye HBX2.out (Ya HW.out F3.out.size)) HNE2.out).trans k2;have Q4:=lh h4;have F4:=lh (F3.out.trans f4);have HW4:=lh (Ya HW.out hw34);clear h4 f4 HT k1 k2 hw34;go_wp2_with fail
    refine (Zfp g d 127 #[.pointer (some ⟨bx,0,none⟩),.pointer (some ⟨bx + 1,0,none⟩)] Z07 .args (fun g σ=>refF g .value (d + 1) σ) Zkv (fun g acc σ=>by rw [refF]) w4 C B HR.out (Ya HB.out ((FB.out.trans F2.out).trans F4.out).size) (fun g' hg' w2 σ x σ' hF hQ hi=>?_) _ Q4.out l σ4 HLL.out).mono ?_
    ·exact Zl8 g' (HV.out g' (by have:=HGF.out; omega)) w2 C B bx (bx + 1) d σ _ _ (by have:=HD.out; have:=HGF.out; omega) hi hQ HR.out (Ya HB.out (((FB.out.trans F2.out).trans F4.out).trans hF).size) ((hF.cell (Ye HBX1.out HW4.out) HNE.out).trans i1) ((hF.cell (Ye HBX2.out HW4.out) HNE2.out).trans i2)
    rintro e w5 ⟨v,kids,rfl,h1,h2,h3,h8⟩;obtain ⟨p,cp,rfl⟩:=h1.slice;have hX5:Got w B w5 a x:=(HN.out.rfr HR.out F4.out).rfr HR.out h3;have hF5:RFr w w5 C.rb:=((FB.out.trans F2.out).trans F4.out).trans h3;have hrow1:=(KidsAt.one hX5).lit (Ya HB.out hF5.size) hF5.size (by simp);have hal5:=(Y8 w5.heap.size w5).alloc (Y5 _) (.cells #[a.ptr] 22);have R1:=lh hrow1;have X5:=lh hX5;have L5:=lh h1;have Q5:=lh (h2.below hal5);have F5:=lh (hF5.trans (RFr.below (rb:=C.rb) hal5))
    have FW5:=lh (((F2.out.trans F4.out).trans h3).trans (RFr.below (rb:=C.rb) hal5));have HKL:=lh h1.len;have HW5:=lh (show wb.heap.size≤w5.heap.size from ((F2.out.trans F4.out).trans h3).size);have HWW5:=lh hF5.size;have H8:=lh h8;have HXA:=lh (fun y hy=>Ye (HN.out.new y hy).2 F4.out.size);have HS4:=lh ((FB.out.trans F2.out).trans F4.out).size;have hrw:=h1.row;obtain ⟨i0,hi,hz0,hz1,hz2⟩:=info_parts Tryz.infoPtr;clear h1 h2 h3 h8 hX5 hF5 hrow1 hal5 i1 i2;cases hkk:kids with
    | nil =>
      subst hkk;have hl0:l.kids.length=0:=HKL.out.symm;have hlk:l.kids=[]:=List.eq_nil_of_length_eq_zero hl0;have HLK:=lh hlk;rw [hl0];clear hl0 hlk hrw;go_wp2_with (at_builtin; go_must (refine Z6g rfl (.tmp 55) (.tmp 56) 44 rfl B 22 i0 1 Tryz.underlying44 hi (.slice (some ⟨w5.heap.size,0,none⟩) 1 1) 1 [a.ptr] rfl R1.out.row p cp rfl ?_))
      have hfin:=R1.out.node (k:=35) (tx:=⟨#[]⟩) (n:=0) (Ya HB.out F5.out.size) F5.out.size;have hinv:g≤f∧SInv w wb C B d f t σ' g (.pointer (some ⟨(w5.alloc (.cells #[a.ptr] 22)).heap.size,0,none⟩)) ((w5.alloc (.cells #[a.ptr] 22)).alloc (.cells #[.int .i64 35,.string ⟨#[]⟩,.int .i64 0,.slice (some ⟨w5.heap.size,0,none⟩) 1 1] 46)):=
       ⟨by have:=HGF.out; omega,_,_,_,rfl,(by have h:=HE.out; rw [HLK.out] at h; exact h),hfin,Q5.out.below ((Y8 _ _).alloc (Y5 _) _),FW5.out.trans (RFr.below ((Y8 _ _).alloc (Y5 _) _))⟩
      rw [World.size_alloc] at hinv;exact ⟨⟨g,hinv⟩,by rw [← HG.out]; exact Nat.lt_succ_of_le (Z32 hinv)⟩
    | cons k0 ks =>
      rcases Za hrw with ⟨_,h2⟩ | ⟨g0,cap0,hv0,b1,b2,b3⟩;·rw [hkk] at h2; simp at h2
      obtain rfl:p=some ⟨g0,0,none⟩:=by simp only [Value.slice.injEq] at hv0; exact hv0.1
      have hm0:0 < kids.length:=by rw [hkk]; simp
      clear hkk k0 ks;have hg0:g0 < w5.heap.size:=(hrw.lt g0 rfl).2;have NEWS:=lh (show ∀ (j:Nat) (u:Value),(kids.map ATree.ptr)[j]?=some u→(w5.alloc (.cells #[a.ptr] 22)).cell? ((⟨g0,0,none⟩:Addr).add j)=some u from fun j u hu=>by
       have hadd:(⟨g0,0,none⟩:Addr).add j=⟨g0,j,none⟩:=by unfold Addr.add; split <;> simp_all
       rw [hadd];exact (Z4 hg0).trans (Zl hrw (g:=g0) rfl hu))
      have hl8:kids.length≤8:=by rw [HKL.out]; exact H8.out
      rw [← HKL.out];have HG0:=lh hg0;clear hrw hv0 b1 b2 b3 hg0;go_wp2_with (at_builtin; go_must (refine wpList_append_lies _ rfl (.tmp 55) (.tmp 56) 44 rfl B 22 i0 _ 1 8 Tryz.underlying44 hi hz0 hz1 hz2 rfl (by decide) (.slice (some ⟨w5.heap.size,0,none⟩) 1 1) 1 [a.ptr] rfl R1.out.row ⟨g0,0,none⟩ kids.length cp (kids.map ATree.ptr) rfl (by simp) NEWS.out (fun u hu=>by obtain ⟨z,_,rfl⟩:=List.mem_map.1 hu; rfl) hm0 (by unfold maxLen; omega) (by omega) (Ya HB.out F5.out.size) (w5.heap.size + 1) (by simp) ?_); intro gg cap w6 hown2 hgrow2 hat2 hgl2)
      have hal5:=(Y8 w5.heap.size w5).alloc (Y5 _) (.cells #[a.ptr] 22);have hpush:=R1.out.pushL (wA:=w4) (fun y hy=>HXA.out y (by simpa [Zw] using hy)) (L5.out.rfr HR.out (RFr.below (rb:=C.rb) hal5)).ks (fun y hy hm=>by
       simp only [Value.ownBlock,Option.some.injEq] at hy;have:=(L5.out.ks.new _ hm).2; omega) HS4.out hgrow2 hown2 (by rcases hat2 with h | h; (exact .inl h); (exact .inr (by simp; omega))) hgl2 F5.out
      have hfin:=hpush.1.node (k:=35) (tx:=⟨#[]⟩) (n:=0) (Ya HB.out hpush.2.2.size) hpush.2.2.size;have hF6:RFr wb w6 C.rb:=by
       refine ⟨hgrow2.os.trans FW5.out.os,hgrow2.tape.trans FW5.out.tape,hgrow2.output.trans FW5.out.output,Ya FW5.out.size hgrow2.size,fun y hy hn=>?_⟩;have h5:=FW5.out.size;refine (hpush.2.1 y (Ye hy h5) (fun e=>?_)).trans (FW5.out.block y hy hn);simp only [Value.ownBlock,Option.some.injEq] at e;have:=HS4.out; have:=FW5.out.size; have:=HW5.out; omega
      have hQ6:=Q5.out.keep (w':=w6) fun y hy=>hpush.2.1 y (Nat.lt_of_le_of_lt hy Q5.out.rlt) (fun e=>by
       simp only [Value.ownBlock,Option.some.injEq] at e;have:=HR.out; have:=HB.out; have:=HWW5.out; omega)
      have hinv:g≤f∧SInv w wb C B d f t σ' g (.pointer (some ⟨w6.heap.size,0,none⟩)) (w6.alloc (.cells #[.int .i64 35,.string ⟨#[]⟩,.int .i64 0,.slice (some ⟨gg,0,none⟩) (1 + kids.length) cap] 46)):=
       ⟨by have:=HGF.out; omega,_,_,_,rfl,HE.out,hfin,hQ6.below ((Y8 _ _).alloc (Y5 _) _),hF6.trans (RFr.below ((Y8 _ _).alloc (Y5 _) _))⟩
      exact ⟨⟨g,hinv⟩,by rw [← HG.out]; exact Nat.lt_succ_of_le (Z32 hinv)⟩
  ·intro x c kl y ys w2 cnt2 hkx hlx hvx hat hrg2 hcnt hg2 hs2 hen;have hb2 : Below wb.heap.size wb w2 := Zo BW.out hg2 HITL.out BW.out.size;have B2 := lh hb2;obtain ⟨x', e, rfl⟩ := keyOf_string_inv Yr hkx;obtain rfl : x = x' := by cases e; rfl
   obtain ⟨z,hz,hzx⟩:=Zkn (HLE.out _ hlx);have hxz:x=z.1:=by
    have:x.data.toList=z.1.data.toList:=by simpa using hzx
    exact Z2f (by rw [Lib.toList_data,Lib.toList_data]; exact this)
   obtain ⟨c',e1,e2,_⟩:=plainElem_int_inv Ys hvx;obtain rfl:c=c':=by cases e1; rfl
   have hcz:c=z.2:=by
    have h1:=hat (.lit (.int .i64 0));simp only [Prod.mk.injEq] at e2;rw [hxz,(Zl0 hz).2,e2.1] at h1;simpa using h1.symm
   have HZ:=lh hz;have HXZ:=lh hxz;have HCZ:=lh hcz;have HRG2:=lh hrg2;have HRG:=lh hrg;have HLT:=lh hcnt;have Q2:=HQB.out.below hb2;have j1:w2.cell? ⟨bx,0,none⟩=some (.pointer (some ⟨C.rb,0,none⟩)):=(Yj (hb2.block bx HBX1.out)).trans HQ1.out;have j2:w2.cell? ⟨bx + 1,0,none⟩=some (.int .i64 d):=(Yj (hb2.block _ HBX2.out)).trans HQ2.out;clear e hzx hxz e1 e2 hcz hz hrg2 hrg hlx hvx hat hkx hcnt hg2 hs2;by_cases hs:Zd x σ=true
   ·have hh := Zkt HZ.out (σ := σ) (by rw [← HXZ.out]; exact hs);have hq := HP.out;rw [Yb (by rw [hh.1]; exact hh.2), hh.1, ← HCZ.out] at hq;have HT := Z0u Q2 x;rw [hs, Yb rfl] at HT;have HT := lh HT;have HQ := lh hq;have F2 := lh (FB.out.trans (RFr.below (rb := C.rb) hb2));have hz2 := lh hb2.size;clear hs hh hq Q2 hb2;go_wp2_with fail
    refine HT.out.mono ?_;rintro e w3 ⟨rfl,h3,f3⟩;have k1:w3.cell? ⟨bx,0,none⟩=some (.pointer (some ⟨C.rb,0,none⟩)):=(f3.cell (Ye HBX1.out hz2.out) HNE.out).trans j1;have k2:w3.cell? ⟨bx + 1,0,none⟩=some (.int .i64 d):=(f3.cell (Ye HBX2.out hz2.out) HNE2.out).trans j2;have Q3:=lh h3;have F3:=lh (F2.out.trans f3);have hdd:=HD.out;clear h3 f3 j1 j2 HT;by_cases h30:30 < d + 1
    ·have n30 : ((d : Int) + 1 > 30) = true := by simp; omega
     have hq:=HQ.out;rw [Yb h30] at hq;obtain ⟨rfl,rfl⟩:gT=t∧Z30 4 (advR σ)=σ':=by simpa using hq
     clear hq;go_wp2_with fail
     refine (Z2s Q3.out 4 (by decide) B HR.out (Ya HB.out F3.out.size)).mono ?_;rintro e w4 ⟨a,rfl,h4⟩;have H4:=lh h4;clear h4;go_wp2;go_ret;exact Z1l.pre F3.out ⟨a,rfl,H4.out⟩
    ·have hq := HQ.out;rw [Y9 h30] at hq;obtain ⟨x1, σ1, hx, hq⟩ := Ze hq;obtain ⟨rfl, rfl⟩ : Tree.mk c ByteArray.empty 0 [x1] = t ∧ σ1 = σ' := by simpa using hq
     have HX:=lh hx;clear hq hx;go_wp2_with fail
     refine (HS.out w3 C B (d + 1) _ _ _ Q3.out HR.out (Ya HB.out F3.out.size) (by omega) HX.out).mono ?_;rintro e w4 ⟨a,rfl,h4,h5,h6⟩;have G4:=lh h4;have Q4:=lh h5;have F4:=lh h6;clear h4 h5 h6 k1 k2;go_wp2;go_ret;have hal:=(Y8 w4.heap.size w4).alloc (Y5 _) (.cells #[.pointer (some ⟨a.b,0,none⟩)] 22)
     refine ⟨_,?_,Got.one (k:=c) (t:=⟨#[]⟩) HB.out (F3.out.trans F4.out) (G4.out.pre F3.out),(Q4.out.below hal).below ((Y8 _ _).alloc (Y5 _) _),((F3.out.trans F4.out).trans (RFr.below hal)).trans (RFr.below ((Y8 _ _).alloc (Y5 _) _))⟩;simp [ATree.b]
   ·have hs' : Zd x σ = false := by simpa using hs
    have HT:=lh (Zn Q2 x hs');have HSN:=lh hs';clear hs hs' Q2 hb2;go_wp2_with fail
    refine HT.out.mono ?_;rintro e w3 ⟨rfl,hB3⟩;have B3:=lh hB3;have hg3:w2.grownBy w3 none:=⟨hB3.os,hB3.tape,hB3.output,hB3.size,fun i hi _=>hB3.block i hi⟩
    have HRG3:=lh (HRG2.out.kept hg3 (by simp) (by simp));clear hB3 hg3;go_wp2;go_roundw
    case rel=>
     refine ⟨_,cnt2,HRG3.out,lh (fun kl hkl=>HLE.out kl (by simp only [Bool.and_eq_true] at hkl; exact hkl.1)),lh (fun s h1 h2=>?_),lh (B2.out.trans (B3.out.mono B2.out.size))⟩;by_cases hl:left (.string s.data.toList)=true
     ·rw [hl] at h2;simp only [Bool.true_and,Bool.not_eq_false'] at h2;have e:=WideAt.sameKey_eq h2;have:s=x:=Z2f (by rw [Lib.toList_data,Lib.toList_data]; simpa using e);rw [this]; exact HSN.out
     ·exact HNO.out s h1 (by simpa using hl)
    case measure=>rw [HRG3.out.left_eq,HRG.out.left_eq]; exact HLT.out
end Go.Proofs.YtmjfllklcpjddaaGreatDoor
namespace Go.Proofs.YtmjfllklcpjddaaGreatDoor
open Go Go.RowKit
set_option maxRecDepth 100000
set_option maxHeartbeats 20000000
set_option linter.unusedVariables false
theorem Zgb (w:World) (C:QC) (B d:Nat) (σ:RS) (hQ:QS w C σ) (hr:C.rb < B) (hB:B≤w.heap.size) (hd:30 < d) (hd2:d≤1000000000000):Calls Tryz.prog 21 (qd C.rb d) w (Z1l w C B gT (Z30 4 σ)):=by
 have HF:=lh (Z2s hQ 4 (by decide) B hr hB);have n30:((d:Int) > 30)=true:=by simp; omega
 clear hQ hr hB hd;unfold qd;go_enter Tryz.func21,Tryz.ntmps21
 go_wp2_with fail
 refine HF.out.mono ?_;rintro e w3 ⟨a,rfl,h1⟩;have H1:=lh h1;clear h1;go_wp2;go_ret;exact ⟨a,rfl,H1.out⟩
theorem Zcg (f:Nat) (hBr:Z14 47 (Zaq false) (.braces false) f) (w:World) (C:QC) (B d:Nat) (σ:RS) (t:Tree) (σ':RS) (hQ:QS w C σ) (hr:C.rb < B) (hB:B≤w.heap.size) (hd:d≤30) (hdf:d + (f + 1)≤1000000000000) (hn:Zd Zb σ=true) (hp:refF f (.braces false) d σ=some (t,σ')) :
 Calls Tryz.prog 21 (qd C.rb d) w (Z1l w C B t σ'):=by
 have n30:¬ (d:Int) > 30:=by omega
 have hal:Below w.heap.size w (w.alloc (.cells #[.int .i64 0,.string ⟨#[]⟩,.int .i64 0,.slice none 0 0] 46)):=(Y8 _ _).alloc (Y5 _) _;have HN:=Zc (hQ.below hal) Zb;rw [hn] at HN;have HN:=lh HN;have Q0:=lh (hQ.below hal);have F0:=lh (RFr.below (rb:=C.rb) hal);have HBR:=lh hBr;have HP:=lh hp;have HR:=lh hr;have HB:=lh hB;have HD:=lh hdf;clear hQ hr hB hd hn hp hBr hal hdf;unfold qd;go_enter Tryz.func21,Tryz.ntmps21
 go_wp2_with fail
 refine HN.out.mono ?_;rintro e w1 ⟨rfl,hb1⟩;have Q1:=lh (Q0.out.below hb1);have F1:=lh (F0.out.trans (RFr.below (rb:=C.rb) hb1));clear hb1 HN;go_wp2_with fail
 refine (HBR.out w1 C B d _ _ _ Q1.out HR.out (Ya HB.out F1.out.size) (by have:=HD.out; omega) HP.out).mono ?_;rintro e w3 ⟨a,rfl,h1⟩;have H1:=lh h1;clear h1;go_wp2;go_ret;exact Z1l.pre F1.out ⟨a,rfl,H1.out⟩
theorem Zhp (w:World) (C:QC) (B d:Nat) (σ:RS) (hQ:QS w C σ) (hr:C.rb < B) (hB:B≤w.heap.size) (hd:d≤30) (hn:Zd Zg σ=true) :
 Calls Tryz.prog 21 (qd C.rb d) w (Z1l w C B (.mk 16 ByteArray.empty 0 []) (advR σ)):=by
 have n30:¬ (d:Int) > 30:=by omega
 obtain ⟨nb,hnb⟩:=zX w.heap.size
 obtain ⟨w0,hw0⟩:=zX (w.alloc (.cells #[.int .i64 0,.string ⟨#[]⟩,.int .i64 0,.slice none 0 0] 46))
 have hal:Below w.heap.size w w0:=by rw [hw0]; exact (Y8 _ _).alloc (Y5 _) _
 have HN:=Zc (hQ.below hal) Zb;rw [Z2d hn (by decide)] at HN;have HN:=lh HN;have Q0:=lh (hQ.below hal);have F0:=lh (RFr.below (rb:=C.rb) hal);have G0:=lh (show Got w B w0 (.mk nb (.slice none 0 0) 0 ⟨#[]⟩ 0 []) (.mk 0 ⟨#[]⟩ 0 []) by rw [hw0,hnb]; exact Got.leaf hB (RFr.refl w C.rb));have HR:=lh hr;have HB:=lh hB;have HS:=lh hn;have HW0:=lh hw0;have HNB:=lh hnb;clear hQ hr hB hd hn hal hw0 hnb;unfold qd;go_enter Tryz.func21,Tryz.ntmps21
 go_wp2_with fail
 rw [← HW0.out,← HNB.out];refine HN.out.mono ?_;rintro e w1 ⟨rfl,hb1⟩;have Q1:=lh (Q0.out.below hb1);have F1:=lh (RFr.below (rb:=C.rb) hb1);clear hb1 HN;go_wp2_with fail
 have HT:=Z0u Q1.out Zg;rw [HS.out,Yb rfl] at HT;refine HT.mono ?_;rintro e w2 ⟨rfl,h2,f2⟩;have hF2:=F1.out.trans f2;have hG2:=G0.out.rfr HR.out hF2;have hblk:=hG2.at'.blkOf;simp only [ATree.b,ATree.v,ATree.kind,ATree.text,ATree.n] at hblk;have y0:w2.cell? ⟨nb,0,none⟩=some (.int .i64 0):=by simp [World.cell?,hblk]
 have z0:w2.frozen? ⟨nb,0,none⟩=false:=by simp [World.frozen?,hblk]
 have FIN:=lh (Got.kind0 (k':=16) HR.out HB.out hG2 (F0.out.trans hF2));have Q2:=lh h2;clear HT h2 f2 hF2 hG2 hblk;go_wp2;go_ret;obtain ⟨g1,g2,g3⟩:=FIN.out;exact ⟨_,rfl,g1,Q2.out.keep fun k hk=>g3 k (by have:=HR.out; omega),g2⟩
theorem ListAt.far {w0 w w':World} {B b:Nat} {v:Value} {kids:List ATree} {ts:List Tree} (L:ListAt w0 B w v kids ts) (hs:w.heap.size≤w'.heap.size) (h:∀ x,x≠b→w'.heap[x]?=w.heap[x]?) (h1:v.ownBlock≠some b) (h2:b ∉ Zw kids):ListAt w0 B w' v kids ts:=by
 refine ⟨⟨L.ks.tree,fun a ha=>(L.ks.at' a ha).keepB fun y hy=>h y fun e=>h2 ?_,L.ks.nodup,fun x hx=>⟨(L.ks.new x hx).1,Ye (L.ks.new x hx).2 hs⟩⟩,Zh L.row fun g hg=>h g (fun e=>h1 (by rw [← e]; exact hg)),fun g hg=>⟨(L.own g hg).1,Ye (L.own g hg).2.1 hs,(L.own g hg).2.2⟩⟩;rw [← e,Z0y];exact List.mem_flatMap.2 ⟨a,ha,hy⟩
theorem Got.kindKids {w0 w:World} {rb B b:Nat} {v v':Value} {k k' n:Int} {tx:ByteArray} {kids kids':List ATree} {l tn:List Tree} (hr:rb < B) (hB0:B≤w0.heap.size) (N:Got w0 B w (.mk b v k tx n kids) (.mk k tx n tn)) (L:ListAt w0 B w v' kids' l) (h1:v'.ownBlock≠some b) (h2:b ∉ Zw kids') (F:RFr w0 w rb) :
 Got w0 B ((w.setCell ⟨b,0,none⟩ (.int .i64 k')).setCell ⟨b,3,none⟩ v') (.mk b v' k' tx n kids') (.mk k' tx n l)∧RFr w0 ((w.setCell ⟨b,0,none⟩ (.int .i64 k')).setCell ⟨b,3,none⟩ v') rb∧(∀ x,x < B→((w.setCell ⟨b,0,none⟩ (.int .i64 k')).setCell ⟨b,3,none⟩ v').heap[x]?=w.heap[x]?):=by
 obtain ⟨g1,g2,g3⟩:=Got.kind0 (k':=k') hr hB0 N F;have L2:ListAt w0 B (w.setCell ⟨b,0,none⟩ (.int .i64 k')) v' kids' l:=L.far (by rw [Yn]; exact Y5 _) (fun x hx=>Yg _ _ _ _ hx) h1 h2;obtain ⟨e1,e2,e3⟩:=Got.kids0 hr hB0 g1.at' (N.new b (by simp [ATree.blocks])).1 L2 h1 h2 g2;exact ⟨e1,e2,fun x hx=>(e3 x hx).trans (g3 x hx)⟩
theorem Zap (f:Nat) (hFn:∀ s,Z14 50 (fArg 5 s) (.func 5 s) f) (w:World) (C:QC) (B d:Nat) (σ:RS) (t:Tree) (σ':RS) (hQ:QS w C σ) (hr:C.rb < B) (hB:B≤w.heap.size) (hd:d≤30) (hdf:d + (f + 1)≤1000000000000) (hsee:∀ s:ByteArray,s≠Z9→Zd s σ=false) (hn:Zd Z9 σ=true) (hp:refF f (.func 5 (Zj (advR σ)).1) d (Zj (advR σ)).2=some (t,σ')) :
 Calls Tryz.prog 21 (qd C.rb d) w (Z1l w C B t σ'):=by
 have n30:¬ (d:Int) > 30:=by omega
 obtain ⟨nb,hnb⟩:=zX w.heap.size
 obtain ⟨w0,hw0⟩:=zX (w.alloc (.cells #[.int .i64 0,.string ⟨#[]⟩,.int .i64 0,.slice none 0 0] 46))
 have hal:Below w.heap.size w w0:=by rw [hw0]; exact (Y8 _ _).alloc (Y5 _) _
 have Q0:=lh (hQ.below hal);have F0:=lh (RFr.below (rb:=C.rb) hal);have G0:=lh (show Got w B w0 (.mk nb (.slice none 0 0) 0 ⟨#[]⟩ 0 []) (.mk 0 ⟨#[]⟩ 0 []) by rw [hw0,hnb]; exact Got.leaf hB (RFr.refl w C.rb));have HR:=lh hr;have HB:=lh hB;have HW0:=lh hw0;have HNB:=lh hnb;have HNBW:=lh (show nb < w0.heap.size by rw [hw0,hnb]; simp);have HD:=lh hd;have HDF:=lh hdf;have HSEE:=lh hsee;have HSN:=lh hn;have HFN:=lh hFn;have HP:=lh hp;clear hQ hr hB hd hdf hsee hn hal hw0 hnb hFn hp;unfold qd;go_enter Tryz.func21,Tryz.ntmps21
 go_wp2_with fail
 rw [← HW0.out,← HNB.out];have BA0:=lh (Y8 w0.heap.size w0);have HT:=Zc Q0.out Zb;rw [HSEE.out Zb (by decide)] at HT;refine HT.mono ?_;rintro e wt1 ⟨rfl,hb⟩;have BA1:=lh (BA0.out.trans (hb.mono BA0.out.size));have Q1:=lh (Q0.out.below hb);clear hb HT;go_wp2_with fail
 have HT:=Zn Q1.out Zg (HSEE.out Zg (by decide));refine HT.mono ?_;rintro e wt2 ⟨rfl,hb⟩;have BA2:=lh (BA1.out.trans (hb.mono BA1.out.size));have Q2:=lh (Q1.out.below hb);clear hb HT;go_wp2_with fail
 have HT:=Z0u Q2.out Z9;rw [HSN.out,Yb rfl] at HT;refine HT.mono ?_;rintro e w3 ⟨rfl,h3,f3⟩;have Q3:=lh h3;have F3:=lh ((F0.out.trans (RFr.below (rb:=C.rb) BA2.out)).trans f3);clear h3 f3 HT;go_wp2_with fail
 refine (Z2t Q3.out B HR.out (Ya HB.out F3.out.size)).mono ?_;rintro e w4 ⟨rfl,h4,f4⟩;have Q4:=lh h4;have F4:=lh (F3.out.trans f4);clear h4 f4;go_wp2_with fail
 refine (HFN.out _ w4 C B d _ _ _ Q4.out HR.out (Ya HB.out F4.out.size) (by have:=HDF.out; omega) HP.out).mono ?_;rintro e w5 ⟨a,rfl,h5⟩;have H5:=lh h5;clear h5;go_wp2;go_ret;exact Z1l.pre F4.out ⟨a,rfl,H5.out⟩
theorem Zew (f:Nat) (hV:Z14 54 qd .value f) (x:Tree) (σ1:RS) (w:World) (C:QC) (B d:Nat) (σ:RS) (t:Tree) (σ':RS) (hQ:QS w C σ) (hr:C.rb < B) (hB:B≤w.heap.size) (hd:d≤30) (hdf:d + (f + 1)≤1000000000000) (hsee:∀ s:ByteArray,s≠Z1h→Zd s σ=false) (hn:Zd Z1h σ=true) (ht:t=.mk 11 ByteArray.empty 0 [x]) (hs1:σ'=Z09 Zg σ1) (hp:refF f .value (d + 1) (advR σ)=some (x,σ1)) :
 Calls Tryz.prog 21 (qd C.rb d) w (Z1l w C B t σ'):=by
 have n30:¬ (d:Int) > 30:=by omega
 obtain ⟨nb,hnb⟩:=zX w.heap.size
 obtain ⟨w0,hw0⟩:=zX (w.alloc (.cells #[.int .i64 0,.string ⟨#[]⟩,.int .i64 0,.slice none 0 0] 46))
 have hal:Below w.heap.size w w0:=by rw [hw0]; exact (Y8 _ _).alloc (Y5 _) _
 have Q0:=lh (hQ.below hal);have F0:=lh (RFr.below (rb:=C.rb) hal);have G0:=lh (show Got w B w0 (.mk nb (.slice none 0 0) 0 ⟨#[]⟩ 0 []) (.mk 0 ⟨#[]⟩ 0 []) by rw [hw0,hnb]; exact Got.leaf hB (RFr.refl w C.rb));have HR:=lh hr;have HB:=lh hB;have HW0:=lh hw0;have HNB:=lh hnb;have HNBW:=lh (show nb < w0.heap.size by rw [hw0,hnb]; simp);have HD:=lh hd;have HDF:=lh hdf;have HSEE:=lh hsee;have HSN:=lh hn;have HV:=lh hV;have HP:=lh hp;subst ht hs1;clear hQ hr hB hd hdf hsee hn hal hw0 hnb hV hp;unfold qd;go_enter Tryz.func21,Tryz.ntmps21
 go_wp2_with fail
 rw [← HW0.out,← HNB.out];have BA0:=lh (Y8 w0.heap.size w0);have HT:=Zc Q0.out Zb;rw [HSEE.out Zb (by decide)] at HT;refine HT.mono ?_;rintro e wt1 ⟨rfl,hb⟩;have BA1:=lh (BA0.out.trans (hb.mono BA0.out.size));have Q1:=lh (Q0.out.below hb);clear hb HT;go_wp2_with fail
 have HT:=Zn Q1.out Zg (HSEE.out Zg (by decide));refine HT.mono ?_;rintro e wt2 ⟨rfl,hb⟩;have BA2:=lh (BA1.out.trans (hb.mono BA1.out.size));have Q2:=lh (Q1.out.below hb);clear hb HT;go_wp2_with fail
 have HT:=Zn Q2.out Z9 (HSEE.out Z9 (by decide));refine HT.mono ?_;rintro e wt3 ⟨rfl,hb⟩;have BA3:=lh (BA2.out.trans (hb.mono BA2.out.size));have Q3:=lh (Q2.out.below hb);clear hb HT;go_wp2_with fail
 have HT:=Zn Q3.out s_if (HSEE.out s_if (by decide));refine HT.mono ?_;rintro e wt4 ⟨rfl,hb⟩;have BA4:=lh (BA3.out.trans (hb.mono BA3.out.size));have Q4:=lh (Q3.out.below hb);clear hb HT;go_wp2_with fail
 have HT:=Zc Q4.out Zv;rw [HSEE.out Zv (by decide)] at HT;refine HT.mono ?_;rintro e wt5 ⟨rfl,hb⟩;have BA5:=lh (BA4.out.trans (hb.mono BA4.out.size));have Q5:=lh (Q4.out.below hb);clear hb HT;go_wp2_with fail
 have HT:=Zc Q5.out Z04;rw [HSEE.out Z04 (by decide)] at HT;refine HT.mono ?_;rintro e wt6 ⟨rfl,hb⟩;have BA6:=lh (BA5.out.trans (hb.mono BA5.out.size));have Q6:=lh (Q5.out.below hb);clear hb HT;go_wp2_with fail
 have HT:=Zn Q6.out Z23 (HSEE.out Z23 (by decide));refine HT.mono ?_;rintro e wt7 ⟨rfl,hb⟩;have BA7:=lh (BA6.out.trans (hb.mono BA6.out.size));have Q7:=lh (Q6.out.below hb);clear hb HT;go_wp2_with fail
 have HT:=Zc Q7.out Z19;rw [HSEE.out Z19 (by decide)] at HT;refine HT.mono ?_;rintro e wt8 ⟨rfl,hb⟩;have BA8:=lh (BA7.out.trans (hb.mono BA7.out.size));have Q8:=lh (Q7.out.below hb);clear hb HT;go_wp2_with fail
 have HT:=Zc Q8.out Z1a;rw [HSEE.out Z1a (by decide)] at HT;refine HT.mono ?_;rintro e wt9 ⟨rfl,hb⟩;have BA9:=lh (BA8.out.trans (hb.mono BA8.out.size));have Q9:=lh (Q8.out.below hb);clear hb HT;go_wp2_with fail
 have HT:=Zc Q9.out Z02;rw [HSEE.out Z02 (by decide)] at HT;refine HT.mono ?_;rintro e wt10 ⟨rfl,hb⟩;have BA10:=lh (BA9.out.trans (hb.mono BA9.out.size));have Q10:=lh (Q9.out.below hb);clear hb HT;go_wp2_with fail
 have HT:=Zn Q10.out Z0d (HSEE.out Z0d (by decide));refine HT.mono ?_;rintro e wt11 ⟨rfl,hb⟩;have BA11:=lh (BA10.out.trans (hb.mono BA10.out.size));have Q11:=lh (Q10.out.below hb);clear hb HT;go_wp2_with fail
 have HT:=Z0u Q11.out Z1h;rw [HSN.out,Yb rfl] at HT;refine HT.mono ?_;rintro e w3 ⟨rfl,h3,f3⟩;have Q3:=lh h3;have F3:=lh ((RFr.below (rb:=C.rb) BA11.out).trans f3);have hdd:=HD.out;clear h3 f3 HT;go_wp2_with fail
 refine (HV.out w3 C B (d + 1) _ _ _ Q3.out HR.out (Ya HB.out (F0.out.trans F3.out).size) (by have:=HDF.out; omega) HP.out).mono ?_;rintro e w4 ⟨a,rfl,h4,h5,h6⟩;have hal4:=(Y8 w4.heap.size w4).alloc (Y5 _) (.cells #[a.ptr] 22);have hFF:=(F3.out.trans h6).trans (RFr.below (rb:=C.rb) hal4);have hG:=G0.out.rfr HR.out hFF;have hblk:=hG.at'.blkOf;replace hblk:(w4.alloc (.cells #[.pointer (some ⟨a.b,0,none⟩)] 22)).heap[nb]?=some (.cells #[.int .i64 0,.string ⟨#[]⟩,.int .i64 0,.slice none 0 0] 46 (0,0)):=hblk
 have hL:=(KidsAt.one h4).lit (Ya HB.out ((F0.out.trans F3.out).trans h6).size) h6.size (by simp);have hap:=hL.apart (b:=nb) (Ye HNBW.out F3.out.size);have FIN:=lh (Got.kindKids (k':=11) HR.out HB.out hG (hL.pre (w0:=w) (F0.out.trans F3.out).size) hap.1 hap.2 (F0.out.trans hFF));have Q5:=lh (h5.below hal4);have y0:(w4.alloc (.cells #[.pointer (some ⟨a.b,0,none⟩)] 22)).cell? ⟨nb,0,none⟩=some (.int .i64 0):=by simp only [World.cell?,hblk]; rfl
 have z0:(w4.alloc (.cells #[.pointer (some ⟨a.b,0,none⟩)] 22)).frozen? ⟨nb,0,none⟩=false:=by simp only [World.frozen?,hblk]; rfl
 have y3:(w4.alloc (.cells #[.pointer (some ⟨a.b,0,none⟩)] 22)).cell? ⟨nb,3,none⟩=some (.slice none 0 0):=by simp only [World.cell?,hblk]; rfl
 have z3:(w4.alloc (.cells #[.pointer (some ⟨a.b,0,none⟩)] 22)).frozen? ⟨nb,3,none⟩=false:=by simp only [World.frozen?,hblk]; rfl
 clear h4 h5 h6 hal4 hFF hG hblk hL hap;go_wp2_with fail
 obtain ⟨g1,g2,g3⟩:=FIN.out;have Q6:=Q5.out.keep fun k hk=>g3 k (by have:=HR.out; omega);refine (Z06 Q6 Zg B HR.out (Ya HB.out g2.size)).mono ?_;rintro e w7 ⟨rfl,h7,f7⟩;have G7:=lh (g1.rfr HR.out f7);have Q7:=lh h7;have F7:=lh (g2.trans f7);clear g1 g2 g3 Q6 h7 f7 y0 z0 y3 z3;go_wp2;go_ret;exact ⟨_,rfl,G7.out,Q7.out,F7.out⟩
end Go.Proofs.YtmjfllklcpjddaaGreatDoor
