/- HoistClosed, plain: with a var for each of its free names a program ha -/
import Derived.Test.YtedopiahfejdfaaGreatDoorJ15
import Derived.Shelf.Strings.Trim
import Derived.Shelf.Strings.SlTrimAscii
import Derived.WalkMore
import Derived.ScopeJumps
namespace Go.Proofs.YtedopiahfejdfaaGreatDoor
open Go Go.RowKit
set_option maxRecDepth 100000
set_option maxHeartbeats 20000000
set_option linter.unusedVariables false
theorem Ze7 {K K':List ByteArray} (h:∀ s∈K,s∈K') (k:Int) (t:ByteArray) (ps:ATree):∀ s∈Z4t K k t ps ++ [Zy],s∈Z4t K' k t ps ++ [Zy]:=by
 intro s hs;unfold Z4t at hs ⊢;simp only [List.mem_append] at hs ⊢;rcases hs with (hs | hs) | hs
 ·refine .inl (.inl ?_);split at hs
  ·rw [Y5 (by assumption)];simp only [List.mem_append] at hs ⊢;exact hs.imp (h s) id
  ·rw [Y3 (by assumption)];exact h s hs
 ·exact .inl (.inr hs)
 ·exact .inr hs
theorem Zee (K:List ByteArray) (k:Int) (t:ByteArray) (ps:ATree):∀ s∈K,s∈Z4t K k t ps ++ [Zy]:=by
 intro s hs;unfold Z4t;simp only [List.mem_append];refine .inl (.inl ?_);split;·simp [hs]
 ·exact hs
mutual
theorem Zal:∀ (a:ATree) (K K':List ByteArray) (body:Bool),(∀ s∈K,s∈K')→∀ s∈Z10 a K' body,s ∉ K'∧s∈Z10 a K body
 | .mk b v k t n ks, K, K', body, h, s, hs => by
   rw [Z10.eq_def] at hs ⊢;simp only [] at hs ⊢;by_cases h1:k=23
   ·rw [Y5 h1] at hs ⊢;split at hs;·cases hs
    ·rename_i hc;simp only [List.mem_singleton] at hs;subst hs;rw [Lib.containsS_iff] at hc;refine ⟨hc,?_⟩;rw [Y3 (by rw [Lib.containsS_iff]; exact fun h2=>hc (h _ h2))];simp
   rw [Y3 h1] at hs ⊢;by_cases h2:k=1∨k=6
   ·rw [Y5 h2] at hs ⊢;obtain ⟨g1,g2⟩:=Z3v ks (K ++ Z0y body (.mk b v k t n ks)) _ (fun x hx=>by
     simp only [List.mem_append] at hx ⊢;exact hx.imp (h x) id) s hs
    exact ⟨fun h3=>g1 (List.mem_append_left _ h3),g2⟩
   rw [Y3 h2] at hs ⊢;by_cases h3:k=5∨k=37
   ·rw [Y5 h3] at hs ⊢;match ks, hs with
    | [],hs=>cases hs
    | [_],hs=>cases hs
    | ps :: bd :: r, hs =>
      obtain ⟨g1,g2⟩:=Zal bd (Z4t K k t ps ++ [Zy]) _ true (Ze7 h k t ps) s hs;exact ⟨fun h4=>g1 (Zee K' k t ps s h4),g2⟩
   rw [Y3 h3] at hs ⊢;by_cases h4:k=13
   ·rw [Y5 h4] at hs ⊢;obtain ⟨g1,g2⟩:=Z3v ks (K ++ [t]) _ (fun x hx=>by
     simp only [List.mem_append] at hx ⊢;exact hx.imp (h x) id) s hs
    exact ⟨fun h3=>g1 (List.mem_append_left _ h3),g2⟩
   rw [Y3 h4] at hs ⊢;exact Z3v ks K K' h s hs
theorem Z3v:∀ (l:List ATree) (K K':List ByteArray),(∀ s∈K,s∈K')→∀ s∈Z18 l K',s ∉ K'∧s∈Z18 l K
 | [],_,_,_,s,hs=>by cases hs
 | a :: l, K, K', h, s, hs => by
   simp only [Z18,List.mem_append] at hs ⊢;rcases hs with hs | hs
   ·obtain ⟨g1,g2⟩:=Zal a K K' false h s hs;exact ⟨g1,.inl g2⟩
   ·obtain ⟨g1,g2⟩:=Z3v l K K' h s hs;exact ⟨g1,.inr g2⟩
end
mutual
theorem Z5b:∀ (a:ATree) (K:List ByteArray) (body:Bool),MTL a.tree.kids→(a.kind=23→Z3l a.text)→∀ s∈Z10 a K body,Z3l s
 | .mk b v k t n ks, K, body, hm, hk, s, hs => by
   simp only [ATree.tree,Tree.kids] at hm;simp only [ATree.kind,ATree.text] at hk;rw [Z10.eq_def] at hs;simp only [] at hs;by_cases h1:k=23
   ·rw [Y5 h1] at hs;split at hs;·cases hs
    ·simp only [List.mem_singleton] at hs;subst hs;exact hk h1
   rw [Y3 h1] at hs;by_cases h2:k=1∨k=6
   ·rw [Y5 h2] at hs;exact Z3d ks _ hm s hs
   rw [Y3 h2] at hs;by_cases h3:k=5∨k=37
   ·rw [Y5 h3] at hs;match ks, hm, hs with
    | [],_,hs=>cases hs
    | [_],_,hs=>cases hs
    | ps :: bd :: r, hm, hs =>
      simp only [Zp,MTL] at hm;have hb:=hm.2.1;have hbk:MTL bd.tree.kids:=MT.kids hb;have hb2:bd.kind=23→Z3l bd.text:=by
       obtain ⟨b2,v2,k2,t2,n2,ks2⟩:=bd;simp only [ATree.tree,MT] at hb;exact fun e=>(hb.1.2 e).1
      exact Z5b bd _ true hbk hb2 s hs
   rw [Y3 h3] at hs;by_cases h4:k=13
   ·rw [Y5 h4] at hs;exact Z3d ks _ hm s hs
   rw [Y3 h4] at hs;exact Z3d ks _ hm s hs
theorem Z3d:∀ (l:List ATree) (K:List ByteArray),MTL (Zp l)→∀ s∈Z18 l K,Z3l s
 | [],_,_,s,hs=>by cases hs
 | a :: l, K, hm, s, hs => by
   simp only [Zp,MTL] at hm;simp only [Z18,List.mem_append] at hs;rcases hs with hs | hs
   ·have hb:=hm.1;have hbk:MTL a.tree.kids:=MT.kids hb;have hb2:a.kind=23→Z3l a.text:=by
     obtain ⟨b2,v2,k2,t2,n2,ks2⟩:=a;simp only [ATree.tree,MT] at hb;exact fun e=>(hb.1.2 e).1
    exact Z5b a K false hbk hb2 s hs
   ·exact Z3d l K hm.2 s hs
end
theorem Zdp {l l':List ByteArray} (h:∀ s∈l,s∈l') (x:ByteArray):∀ s∈addL l x,s∈addL l' x:=by
 intro s hs;rcases Z5w hs with h1 | h1;·exact Z4p (h s h1)
 ·rw [h1]; exact Z4l _ _
theorem Z98 {l l':List ByteArray} (h:∀ s∈l,s∈l') (a:ATree):∀ s∈ownV a l,s∈ownV a l':=by
 unfold ownV;split;·exact Zdp h _
 ·exact h
theorem Z8u (l:List ByteArray) (a:ATree):∀ s∈l,s∈ownV a l:=by
 unfold ownV;split;·exact fun s hs=>Z4p hs
 ·exact fun s hs=>hs
mutual
theorem Zav:∀ (a:ATree) (l l':List ByteArray),(∀ s∈l,s∈l')→∀ s∈Z3j Z1f a l,s∈Z3j Z1f a l'
 | .mk b v k t n ks, l, l', h, s, hs => by
   rw [Z43] at hs ⊢;revert hs;cases Z2l (ATree.mk b v k t n ks);·exact fun hs=>Z4f ks _ _ (Z98 h _) s hs
   ·exact fun hs=>Z98 h _ s hs
theorem Z4f:∀ (ks:List ATree) (l l':List ByteArray),(∀ s∈l,s∈l')→∀ s∈Z17 Z1f ks l,s∈Z17 Z1f ks l'
 | [],l,l',h,s,hs=>h s hs
 | a :: ks,l,l',h,s,hs=>Z4f ks _ _ (Zav a l l' h) s hs
end
mutual
theorem Zbh:∀ (a:ATree) (l:List ByteArray),∀ s∈l,s∈Z3j Z1f a l
 | .mk b v k t n ks, l, s, hs => by
   rw [Z43];cases Z2l (ATree.mk b v k t n ks);·exact Z3b ks _ s (Z8u _ _ s hs)
   ·exact Z8u _ _ s hs
theorem Z3b:∀ (ks:List ATree) (l:List ByteArray),∀ s∈l,s∈Z17 Z1f ks l
 | [],l,s,hs=>hs
 | a :: ks,l,s,hs=>Z3b ks _ s (Zbh a l s hs)
end
theorem Zba (l1 l2:List ATree):∀ l:List ByteArray,Z17 Z1f (l1 ++ l2) l=Z17 Z1f l2 (Z17 Z1f l1 l):=by
 induction l1 with
 | nil=>intro l; rfl
 | cons a l1 ih=>intro l; exact ih _
theorem Za9:∀ (l:List ATree) (A B:List Tree),Zp l=A ++ B→∃ l1 l2,l=l1 ++ l2∧Zp l1=A∧Zp l2=B:=by
 intro l;induction l with
 | nil =>
   intro A B h;simp only [Zp] at h;have:=List.append_eq_nil_iff.1 h.symm;exact ⟨[],[],rfl,this.1.symm,this.2.symm⟩
 | cons a l ih =>
   intro A B h;cases A with
   | nil=>exact ⟨[],a :: l,rfl,rfl,h⟩
   | cons x A =>
     simp only [Zp,List.cons_append,List.cons.injEq] at h;obtain ⟨l1,l2,e1,e2,e3⟩:=ih A B h.2;exact ⟨a :: l1,l2,by rw [e1]; rfl,by simp only [Zp]; rw [h.1,e2],e3⟩
theorem Zda:∀ (l1:List ATree) (L:List ByteArray),Zp l1=L.map varT→(∀ K,Z18 l1 K=[])∧∀ l:List ByteArray,∀ s∈L,s∈Z17 Z1f l1 l:=by
 intro l1;induction l1 with
 | nil =>
   intro L h;cases L with
   | nil=>exact ⟨fun K=>rfl,fun l s hs=>by cases hs⟩
   | cons s L=>simp [Zp] at h
 | cons a l1 ih =>
   intro L h;cases L with
   | nil=>simp [Zp] at h
   | cons s L =>
     simp only [Zp,List.map_cons,List.cons.injEq] at h;obtain ⟨i1,i2⟩:=ih L h.2;obtain ⟨b,v,k,t,n,ks⟩:=a;have h1:=h.1;unfold varT at h1;simp only [ATree.tree,Tree.mk.injEq] at h1;obtain ⟨rfl,rfl,_,h4⟩:=h1;have hks:ks=[]:=by
      cases ks with
      | nil=>rfl
      | cons x l=>simp [Zp] at h4
     subst hks;refine ⟨fun K=>?_,fun l s hs=>?_⟩
     ·have e:Z10 (.mk b v 2 t n []) K false=[]:=by
       rw [Z10.eq_def];simp [Z18]
      simp only [Z18,e,i1,List.append_nil]
     ·have e:Z3j Z1f (.mk b v 2 t n []) l=addL l t:=by
       rw [Z43];rfl
      show s∈Z17 Z1f l1 (Z3j Z1f (.mk b v 2 t n []) l);rw [e];rcases List.mem_cons.1 hs with h5 | h5;·exact Z3b _ _ _ (by rw [h5]; exact Z4l _ _)
      ·exact i2 _ _ h5
theorem Z92 (body:Bool) (a:ATree) (s:ByteArray):s∈Z0y body a↔(s∈(if body then Z45 a else [])∨s∈(a.kids.filter Z19).map ATree.text)∨s∈(a.kids.filter Z26).map ATree.text:=by
 unfold Z0y;rw [Z6b,Z6b]
theorem Zcp (L:List ByteArray) (s:ByteArray):s∈Z3r L↔s∈L:=by
 unfold Z3r;rw [List.mem_map];constructor
 ·rintro ⟨x,hx,rfl⟩;rw [List.mem_mergeSort,List.mem_map] at hx;obtain ⟨y,hy,rfl⟩:=hx;exact hy
 ·intro hs;exact ⟨s.data.toList,by rw [List.mem_mergeSort]; exact List.mem_map.2 ⟨s,hs,rfl⟩,rfl⟩
theorem closed {a b:ATree} {L:List ByteArray} (ha:a.kind=1) (hb:b.kind=1) (hn:MTL a.tree.kids) (hnt:NTL a.tree.kids) (hf:FT a.tree) (hL:∀ s,s∈Z10 a [] true→s∈L) (hk:b.tree.kids=L.map varT ++ a.tree.kids):Z10 b [] true=[]:=by
 have hkb:Zp b.kids=b.tree.kids:=by obtain ⟨bb,v,k,t,n,ks⟩:=b; rfl
 have hka:Zp a.kids=a.tree.kids:=by obtain ⟨bb,v,k,t,n,ks⟩:=a; rfl
 have root:∀ x:ATree,x.kind=1→Z10 x [] true=Z18 x.kids (Z0y true x):=by
  intro x hx;obtain ⟨bb,v,k,t,n,ks⟩:=x;simp only [ATree.kind] at hx;rw [Z10.eq_def];simp only [];rw [Y3 (by omega),Y5 (.inl hx)];rfl
 obtain ⟨l1,l2,e1,e2,e3⟩:=Za9 b.kids (L.map varT) (Zp a.kids) (by rw [hkb,hk,hka]);obtain ⟨v1,v2⟩:=Zda l1 L e2;have hvars:∀ s,s∈L∨s∈Z45 a→s∈Z45 b:=by
  intro s hs;show s∈Z17 Z1f b.kids [];rw [e1,Zba];rcases hs with hs | hs;·exact Z3b _ _ _ (v2 [] s hs)
  ·have hs2 : s ∈ Z17 Z1f l2 [] := by rw [Z3f _ _ e3]; exact hs
   exact Z4f _ _ _ (fun x hx=>by cases hx) s hs2
 have hsub:∀ s∈Z0y true a,s∈Z0y true b:=by
  intro s hs;rw [Z92] at hs ⊢;simp only [if_true] at hs ⊢;rw [e1,List.filter_append,List.filter_append,Yl,Yl,List.mem_append,List.mem_append];rcases hs with (hs | hs) | hs;·exact .inl (.inl (hvars s (.inr hs)))
  ·exact .inl (.inr (.inr (by rw [Z1x Z19 Z6t _ _ e3]; exact hs)))
  ·exact .inr (.inr (by rw [Z1x Z26 Z7l _ _ e3]; exact hs))
 rw [root b hb];have e4:∀ K,Z18 l2 K=Z18 a.kids K:=by
  intro K;have hn2:NTL (Zp l2):=by rw [e3,hka]; exact hnt
  have hn3:NTL (Zp a.kids):=by rw [hka]; exact hnt
  have hfk:FTL (Zp a.kids):=by rw [hka]; exact FT.kids hf
  have h1:=Z4x (free_eq (Z0h l2)) l2 a.kids K K (Y0 _) e3 hn2 (by rw [e3]; exact hfk) (fun s _=>Iff.rfl);have h2:=Z4x (free_eq (Z0h a.kids)) a.kids a.kids K K (Y0 _) rfl hn3 hfk (fun s _=>Iff.rfl);rw [h1,h2]
 have e5:Z18 b.kids (Z0y true b)=Z18 a.kids (Z0y true b):=by
  have:∀ (p q:List ATree) K,Z18 (p ++ q) K=Z18 p K ++ Z18 q K:=by
   intro p;induction p with
   | nil=>intro q K; rfl
   | cons x p ih=>intro q K; simp only [List.cons_append,Z18,ih,List.append_assoc]
  rw [e1,this,v1,List.nil_append,e4]
 rw [e5];apply List.eq_nil_iff_forall_not_mem.2;intro s hs;obtain ⟨g1,g2⟩:=Z3v a.kids (Z0y true a) (Z0y true b) hsub s hs;rw [← root a ha] at g2;refine g1 ?_;rw [Z92];exact .inl (.inl (hvars s (.inl (hL s g2))))
theorem Zem {L:List ByteArray} (h:L.Nodup):(Z3r L).Pairwise fun x y=>x.data.toList < y.data.toList:=by
 have ht:∀ a b c:List UInt8,decide (a≤b)=true→decide (b≤c)=true→decide (a≤c)=true:=by
  intro a b c h1 h2;exact decide_eq_true (List.le_trans (of_decide_eq_true h1) (of_decide_eq_true h2))
 have hto:∀ a b:List UInt8,(decide (a≤b) || decide (b≤a))=true:=by
  intro a b;rcases List.le_total a b with h1 | h1;·rw [decide_eq_true h1]; rfl
  ·rw [decide_eq_true h1,Bool.or_true]
 have hs:=List.pairwise_mergeSort ht hto (L.map fun s=>s.data.toList);have hn:((L.map fun s=>s.data.toList).mergeSort fun x y=>decide (x≤y)).Nodup:=by
  rw [(List.mergeSort_perm _ _).nodup_iff];exact List.Pairwise.map _ (fun x y hxy e=>hxy (ByteArray.ext (Array.ext' e))) h
 unfold Z3r;rw [List.pairwise_map];refine (hs.and hn).imp fun {x y} hxy=>?_;show x < y;have h1:=of_decide_eq_true hxy.1;rcases Decidable.em (x < y) with h2 | h2;·exact h2
 ·exact absurd (List.le_antisymm h1 (List.not_lt.1 h2)) hxy.2
end Go.Proofs.YtedopiahfejdfaaGreatDoor
namespace Go.Proofs
def Tryz.lays160_ren:Go.Shelf.Ren:=⟨fun | 160=>15 | 232=>32 | 231=>31 | 227=>33 | 234=>35 | 233=>34 | 236=>37 | 235=>36 | 228=>67 | 271=>70 | 151=>69 | 197=>68 | 120=>97 | 152=>96 | 260=>95 | 137=>44 | 119=>103 | 224=>104 | 225=>105 | 217=>75 | 266=>99 | n=>n,fun | 9=>9 | 4=>4 | 3=>3 | 5=>5 | 117=>69 | 116=>68 | 0=>0 | 124=>72 | 21=>21 | 105=>115 | 46=>65 | 119=>155 | 139=>158 | 138=>157 | n=>n,fun | 3=>2 | 4=>3 | n=>n⟩
theorem Tryz.lays160:Go.Proofs.Lays.n160 Tryz.prog Tryz.lays160_ren:={
 mixed:=by kernel_rfl
 f119:=Tryz.func103.trans (congrArg some (by kernel_rfl))
 f120:=Tryz.func97.trans (congrArg some (by kernel_rfl))
 f137:=Tryz.func44.trans (congrArg some (by kernel_rfl))
 f151:=Tryz.func69.trans (congrArg some (by kernel_rfl))
 f152:=Tryz.func96.trans (congrArg some (by kernel_rfl))
 f160:=Tryz.func15.trans (congrArg some (by kernel_rfl))
 f197:=Tryz.func68.trans (congrArg some (by kernel_rfl))
 f217:=Tryz.func75.trans (congrArg some (by kernel_rfl))
 f224:=Tryz.func104.trans (congrArg some (by kernel_rfl))
 f225:=Tryz.func105.trans (congrArg some (by kernel_rfl))
 f227:=Tryz.func33.trans (congrArg some (by kernel_rfl))
 f228:=Tryz.func67.trans (congrArg some (by kernel_rfl))
 f231:=Tryz.func31.trans (congrArg some (by kernel_rfl))
 f232:=Tryz.func32.trans (congrArg some (by kernel_rfl))
 f233:=Tryz.func34.trans (congrArg some (by kernel_rfl))
 f234:=Tryz.func35.trans (congrArg some (by kernel_rfl))
 f235:=Tryz.func36.trans (congrArg some (by kernel_rfl))
 f236:=Tryz.func37.trans (congrArg some (by kernel_rfl))
 f260:=Tryz.func95.trans (congrArg some (by kernel_rfl))
 f266:=Tryz.func99.trans (congrArg some (by kernel_rfl))
 f271:=Tryz.func70.trans (congrArg some (by kernel_rfl))
 t0:=Tryz.underlying0
 a0:=Tryz.isAgg0
 z0:=Tryz.sizeOf0
 v0:=Tryz.zeroValue0
 t3:=Tryz.underlying3
 a3:=Tryz.isAgg3
 z3:=Tryz.sizeOf3
 v3:=Tryz.zeroValue3
 t4:=Tryz.underlying4
 a4:=Tryz.isAgg4
 z4:=Tryz.sizeOf4
 v4:=Tryz.zeroValue4
 t5:=Tryz.underlying5
 a5:=Tryz.isAgg5
 z5:=Tryz.sizeOf5
 v5:=Tryz.zeroValue5
 t9:=Tryz.underlying9
 a9:=Tryz.isAgg9
 z9:=Tryz.sizeOf9
 v9:=Tryz.zeroValue9
 t21:=Tryz.underlying21
 a21:=Tryz.isAgg21
 z21:=Tryz.sizeOf21
 v21:=Tryz.zeroValue21
 t46:=Tryz.underlying65
 a46:=Tryz.isAgg65
 z46:=Tryz.sizeOf65
 v46:=Tryz.zeroValue65
 t105:=Tryz.underlying115
 a105:=Tryz.isAgg115
 z105:=Tryz.sizeOf115
 v105:=Tryz.zeroValue115
 t116:=Tryz.underlying68
 a116:=Tryz.isAgg68
 z116:=Tryz.sizeOf68
 t117:=Tryz.underlying69
 a117:=Tryz.isAgg69
 z117:=Tryz.sizeOf69
 v117:=Tryz.zeroValue69
 t119:=Tryz.underlying155
 a119:=Tryz.isAgg155
 z119:=Tryz.sizeOf155
 t124:=Tryz.underlying72
 a124:=Tryz.isAgg72
 z124:=Tryz.sizeOf72
 v124:=Tryz.zeroValue72
 t138:=Tryz.underlying157
 a138:=Tryz.isAgg157
 z138:=Tryz.sizeOf157
 v138:=Tryz.zeroValue157
 t139:=Tryz.underlying158
 a139:=Tryz.isAgg158
 z139:=Tryz.sizeOf158
 v139:=Tryz.zeroValue158
 g3:=by kernel_rfl
 g4:=by kernel_rfl }
end Go.Proofs
namespace Go.Proofs.YtedopiahfejdfaaGreatDoor
open Go Go.RowKit
set_option maxRecDepth 100000
set_option maxHeartbeats 20000000
def Z5t:List UInt8:=[97,98,99,100,101,102,103,104,105,106,107,108,109,110,111,112,113,114,115,116,117,118,119,120,121,122,48,49,50,51,52,53,54,55,56,57,95]
def Zex:ByteArray:=⟨#[97,98,99,100,101,102,103,104,105,106,107,108,109,110,111,112,113,114,115,116,117,118,119,120,121,122,48,49,50,51,52,53,54,55,56,57,95]⟩
theorem Z7u (u:UInt8):Z5t.contains u=Z1g u.toNat:=by
 have key:∀ n:Fin 256,Z5t.contains (UInt8.ofNat n.val)=Z1g ((UInt8.ofNat n.val).toNat:Int):=by decide +kernel
 have h:=key ⟨u.toNat,by have:=u.toNat_lt; omega⟩;simpa using h
theorem Z51 {α:Type} (p:α→Bool) (l:List α):l.dropWhile p=[]↔∀ x∈l,p x=true:=by
 induction l with
 | nil=>simp
 | cons a l ih =>
   rw [List.dropWhile_cons];by_cases h:p a=true;·rw [Y5 h,ih]; simp [h]
   ·rw [Y3 h]; simp [h]
theorem Zef (l cs:List UInt8):Lib.trimS l cs=[]↔∀ x∈l,cs.contains x=true:=by
 unfold Lib.trimS Lib.trimLeftS Lib.trimRightS;rw [Z51];constructor
 ·intro h;have h2:l.reverse.dropWhile (cs.contains ·)=[]:=by
   cases hd:l.reverse.dropWhile (cs.contains ·) with
   | nil=>rfl
   | cons a r =>
     have h3:=h a (by rw [hd]; simp);have h4:(cs.contains a)=false:=by
      have:∀ (m:List UInt8),m.dropWhile (cs.contains ·)=a :: r→cs.contains a=false:=by
       intro m;induction m with
       | nil=>simp
       | cons b m ih =>
         rw [List.dropWhile_cons];by_cases hb:cs.contains b=true;·rw [Y5 hb]; exact ih
         ·rw [Y3 hb];intro e;simp only [List.cons.injEq] at e;rw [← e.1]; simpa using hb
      exact this _ hd
     rw [h3] at h4;cases h4
  rw [Z51] at h2;intro x hx;exact h2 x (by simpa using hx)
 ·intro h x hx;have:x∈l:=by
   have h1:x∈l.reverse.dropWhile (cs.contains ·):=by simpa using hx
   have h2:=(List.dropWhile_sublist (cs.contains ·) (l:=l.reverse)).subset h1;simpa using h2
  exact h x this
def badB (s:ByteArray) (i:Nat):Bool:=!Z01 (Z2 s i) && (decide (i=0) || !Z09 (Z2 s i))
def Z64 (s:ByteArray):Bool:=decide (1≤s.size) && decide (s.size≤20) && ((List.range s.size).all fun i=>!badB s i) && !Z1q s
theorem Z86 (s:ByteArray):((List.range s.size).all fun i=>!badB s i)=true↔∀ i,i < s.size→badB s i=false:=by simp
theorem Zea (s:ByteArray) (p:UInt8→Prop):(∀ x∈s.data.toList,p x)↔∀ i,i < s.size→p (s.data.getD i 0):=by
 constructor
 ·intro h i hi;have hi' : i < s.data.size := hi;have e : s.data.getD i 0 = s.data[i] := by unfold Array.getD; rw [dif_pos hi']; rfl
  rw [e];exact h _ (by simp)
 ·intro h x hx;obtain ⟨i, hi, rfl⟩ := List.mem_iff_getElem.1 hx;have hi' : i < s.data.size := by simpa using hi
  have e:s.data.getD i 0=s.data[i]:=by unfold Array.getD; rw [dif_pos hi']; rfl
  have:=h i hi';rw [e] at this;simpa using this
theorem Zdl (s:ByteArray):Lib.trimS s.data.toList Z5t=[]↔∀ i,i < s.size→Z1g (Z2 s i)=true:=by
 rw [Zef,Zea s (fun x=>Z5t.contains x=true)];constructor;·intro h i hi; rw [← h i hi,Z7u]; rfl
 ·intro h i hi; rw [Z7u]; exact h i hi
theorem Zaq (s:ByteArray) (hl:Z01 (Z2 s 0)=true):((List.range s.size).all fun i=>!badB s i)=true↔Lib.trimS s.data.toList Z5t=[]:=by
 rw [Z86,Zdl];constructor
 ·intro h i hi;have:=h i hi;unfold badB at this;unfold Z1g;cases h1:Z01 (Z2 s i) <;> cases h2:Z09 (Z2 s i) <;> simp_all
 ·intro h i hi;have := h i hi;unfold Z1g at this;unfold badB;by_cases e : i = 0;·subst e; simp [hl]
  ·cases h1:Z01 (Z2 s i) <;> cases h2:Z09 (Z2 s i) <;> simp_all
theorem Zei (s:ByteArray) (w:World) (hs:s.size≤9223372036854775807) :
 Calls Tryz.prog 15 #[.string s,.string Zex] w fun e w'=>e=.returned (.string ⟨(Lib.trimS s.data.toList Z5t).toArray⟩)∧Below w.heap.size w w':=
 Any.strings_Trim_laid Tryz.lays160 (by kernel_rfl) s Zex w hs (by decide) (ascii_of_all (by decide))
theorem Zbl (s:ByteArray) (w:World) (hs:s.size≤60) (hW:Words w) :
 Calls Tryz.prog 7 #[.string s] w fun e w'=>e=.returned (.bool (Z64 s))∧Below w.heap.size w w':=by
 by_cases h0:s.size=0
 ·obtain rfl:s=⟨#[]⟩:=by
   obtain ⟨a⟩:=s;have:a.size=0:=h0;rw [Array.eq_empty_of_size_eq_zero this]
  clear hW;go_enter Tryz.func7,Tryz.ntmps7
  go_wp2;go_ret;exact ⟨rfl,Y2 _ _⟩
 have hne:s.toList.isEmpty=false:=by
  rw [Lib.toList_data];cases h:s.data.toList with
  | nil=>have:=Lib.size_eq s; rw [h,List.length_nil] at this; omega
  | cons _ _=>rfl
 have hne2:¬ s.toList=[]:=by intro h; rw [h] at hne; cases hne
 by_cases h20:20 < s.size
 ·have e:Z64 s=false:=by
   have h:decide (s.size≤20)=false:=by simp; omega
   simp only [Z64,h,Bool.and_false,Bool.false_and]
  rw [e];clear hW h0;go_enter Tryz.func7,Tryz.ntmps7
  go_wp2;go_ret;exact ⟨rfl,Y2 _ _⟩
 have hlt:0 < s.size:=by omega
 have hby:=Z2d (text:=s) hlt;obtain ⟨c,hc⟩:=zX (Z2 s 0)
 rw [← hc] at hby;have hb2:=hby.symm;obtain ⟨Bl,hBl⟩:=zX (Z01 c)
 have HLt:Hid (∀ w,Calls Tryz.prog 14 #[.int .u8 c] w fun e w'=>e=.returned (.bool Bl)∧w=w'):=lh fun w=>by rw [hBl]; exact (Z5j w c).mono fun e w' h=>⟨h.1,h.2.symm⟩
 cases Bl
 ·have e:Z64 s=false:=by
   have hb:badB s 0=true:=by simp [badB,← hc,← hBl]
   have:((List.range s.size).all fun i=>!badB s i)=false:=by
    rw [← Bool.not_eq_true,Z86];intro h; rw [h 0 hlt] at hb; cases hb
   simp [Z64,this]
  rw [e];clear hW h0 hby hc hBl e;go_enter Tryz.func7,Tryz.ntmps7
  go_wp2_with fail
  refine (HLt.out _).mono ?_;rintro e w1 ⟨rfl,rfl⟩;go_wp2;go_ret;exact ⟨rfl,Y2 _ _⟩
 have hcs:=Zaq s (by rw [← hc]; exact hBl.symm);have HT:=Zei s w (by omega);by_cases ht:Lib.trimS s.data.toList Z5t=[]
 ·rw [ht] at HT;have HT := lh HT;obtain ⟨Bw, hBw⟩ := zX (Z1q s)
  have e:Z64 s=!Bw:=by
   have h1:=hcs.2 ht;have h2:s.size≤20:=by omega
   have h3:1≤s.size:=by omega
   simp only [Z64,h1,hBw,h2,h3,decide_true,Bool.true_and]
  rw [e];have HW:=lh hW;clear hW h0 hby hc hBl e ht hcs;go_enter Tryz.func7,Tryz.ntmps7
  go_wp2_with fail
  refine (HLt.out _).mono ?_;rintro e w1 ⟨rfl,rfl⟩;go_wp2_with fail
  refine HT.out.mono ?_;rintro e w1 ⟨rfl,hB⟩;have HI:=Z83 w1 s (by
   intro j hj;have hcj:=HW.out j hj;have hl:0 < w.heap.size:=by
    rcases Nat.lt_or_ge 0 w.heap.size with h' | h';·exact h'
    ·simp [World.cell?,Array.getElem?_eq_none h'] at hcj
   exact (hB.cell (p:=⟨0,j,none⟩) hl).trans hcj)
  rw [← hBw] at HI;have HI:=lh (HI.mono (R':=fun e w'=>e=.returned (.bool Bw)∧w1=w') fun e w' h=>⟨h.1,h.2.symm⟩);have HB:=lh hB;clear hB HT hBw;go_wp2_with fail
  refine HI.out.mono ?_;rintro e w2 ⟨rfl,rfl⟩;go_wp2;go_ret;exact ⟨rfl,HB.out⟩
 ·obtain ⟨r, hr⟩ := zX (Lib.trimS s.data.toList Z5t)
  rw [← hr] at HT ht;have e:Z64 s=false:=by
   have:((List.range s.size).all fun i=>!badB s i)=false:=by
    rw [← Bool.not_eq_true,hcs,← hr]; exact ht
   simp [Z64,this]
  rw [e];obtain ⟨x,hx⟩:∃ x:ByteArray,x=⟨r.toArray⟩:=⟨_,rfl⟩
  rw [← hx] at HT;have HT:=lh HT;have hrl:x.toList=r:=by rw [Lib.toList_data,hx]
  have hre:x.toList.isEmpty=false:=by rw [hrl]; cases r <;> simp_all
  have hre2:¬ x.toList=[]:=by rw [hrl]; exact ht
  clear hW h0 hby hc hBl e ht hcs hr hx hrl;go_enter Tryz.func7,Tryz.ntmps7
  go_wp2_with fail
  refine (HLt.out _).mono ?_;rintro e w1 ⟨rfl,rfl⟩;go_wp2_with fail
  refine HT.out.mono ?_;rintro e w1 ⟨rfl,hB⟩;have HB:=lh hB;clear hB;go_wp2;go_ret;exact ⟨rfl,HB.out⟩
end Go.Proofs.YtedopiahfejdfaaGreatDoor
namespace Go.Proofs.YtedopiahfejdfaaGreatDoor
open Go Go.RowKit Go.Maps
set_option maxRecDepth 100000
set_option maxHeartbeats 20000000
set_option linter.unusedVariables false
theorem Ze1 (w:World) (s:ByteArray) (hlen:s.size≤maxLen) (c0:Int) (hc:(litD Zfv).atKey (.string s.data.toList) (.lit (.int .i64 0))=.lit (.int .i64 c0)) :
 Calls Tryz.prog 109 #[.string s] w fun e w'=>e=.returned (.int .i64 c0)∧Below w.heap.size w w':=by
 have hmm:=@run_makeMap Tryz.prog;have h0:=World.ownsMap_made (H:=Unit) w Tryz.prog 9 (plainElem Tryz.prog 3);have hB0:Below w.heap.size w (w.alloc (.map #[] 0)):=(Y2 _ _).alloc (Y0 _) _;have HL:=lh hlen;have HC:=lh hc;clear hlen hc;go_enter Tryz.func109,Tryz.ntmps109
 go_wp2_with (first | (refine Zt _ rfl _ _ _ 166 rfl 9 3 Tryz.keyedS Tryz.underlying166 _ _ 0 _ rfl h0 (by unfold maxLen; omega) _ _ _ rfl rfl (Yn Yj (by decide)) _ [] (plainElem_int Yk (by decide)) ?_; intro w1 h1 g1) | (refine Zt _ rfl _ _ _ 166 rfl 9 3 Tryz.keyedS Tryz.underlying166 _ _ 1 _ rfl h1 (by unfold maxLen; omega) _ _ _ rfl rfl (Yn Yj (by decide)) _ [] (plainElem_int Yk (by decide)) ?_; intro w2 h2 g2) | (refine Zt _ rfl _ _ _ 166 rfl 9 3 Tryz.keyedS Tryz.underlying166 _ _ 2 _ rfl h2 (by unfold maxLen; omega) _ _ _ rfl rfl (Yn Yj (by decide)) _ [] (plainElem_int Yk (by decide)) ?_; intro w3 h3 g3) | (refine Zt _ rfl _ _ _ 166 rfl 9 3 Tryz.keyedS Tryz.underlying166 _ _ 3 _ rfl h3 (by unfold maxLen; omega) _ _ _ rfl rfl (Yn Yj (by decide)) _ [] (plainElem_int Yk (by decide)) ?_; intro w4 h4 g4) | (refine Zt _ rfl _ _ _ 166 rfl 9 3 Tryz.keyedS Tryz.underlying166 _ _ 4 _ rfl h4 (by unfold maxLen; omega) _ _ _ rfl rfl (Yn Yj (by decide)) _ [] (plainElem_int Yk (by decide)) ?_; intro w5 h5 g5) | (refine Zt _ rfl _ _ _ 166 rfl 9 3 Tryz.keyedS Tryz.underlying166 _ _ 5 _ rfl h5 (by unfold maxLen; omega) _ _ _ rfl rfl (Yn Yj (by decide)) _ [] (plainElem_int Yk (by decide)) ?_; intro w6 h6 g6) | (refine Zt _ rfl _ _ _ 166 rfl 9 3 Tryz.keyedS Tryz.underlying166 _ _ 6 _ rfl h6 (by unfold maxLen; omega) _ _ _ rfl rfl (Yn Yj (by decide)) _ [] (plainElem_int Yk (by decide)) ?_; intro w7 h7 g7) | (at_lookup; refine wpList_lookup_own_int _ rfl _ _ 166 rfl 9 3 .i64 Tryz.keyedS Tryz.underlying166 Yk (Tryz.zeroI _) _ 7 _ rfl h7 _ _ rfl (Yn Yj HL.out) ?_; intro c hat hwc))
 go_ret;have e:=HC.out.symm.trans hat;obtain rfl:c0=c:=by
  have:(DataW.lit (.int .i64 c0):DataW Unit)=.lit (.int .i64 c):=e;simpa using this
 have s0:w.heap.size≤(w.alloc (.map #[] 0)).heap.size:=hB0.size;have B1:=Z14 hB0 g1 (Y0 _) s0;have B2:=Z14 B1 g2 (Y0 _) B1.size;have B3:=Z14 B2 g3 (Y0 _) B2.size;have B4:=Z14 B3 g4 (Y0 _) B3.size;have B5:=Z14 B4 g5 (Y0 _) B4.size;have B6:=Z14 B5 g6 (Y0 _) B5.size;exact ⟨rfl,Z14 B6 g7 (Y0 _) B6.size⟩
theorem Zfo (w:World) (s:ByteArray) (hs:Z8a s≠0):Calls Tryz.prog 109 #[.string s] w fun e w'=>e=.returned (.int .i64 (Z8a s))∧Below w.heap.size w w':=by
 have key:s=s_or∨s=Z77∨s=Z4c∨s=Z4d∨s=Z6e∨s=Z7c∨s=Z7i:=by
  unfold Z8a Z0r at hs;simp only [decide_eq_true_eq] at hs;by_cases h1:s=s_or;·exact .inl h1
  by_cases h2:s=Z77;·exact .inr (.inl h2)
  by_cases h3:s=Z4c;·exact .inr (.inr (.inl h3))
  by_cases h4:s=Z4d;·exact .inr (.inr (.inr (.inl h4)))
  by_cases h5:s=Z6e;·exact .inr (.inr (.inr (.inr (.inl h5))))
  by_cases h6:s=Z7c;·exact .inr (.inr (.inr (.inr (.inr (.inl h6)))))
  by_cases h7:s=Z7i;·exact .inr (.inr (.inr (.inr (.inr (.inr h7)))))
  simp [h1,h2,h3,h4,h5,h6,h7] at hs
 rcases key with rfl | rfl | rfl | rfl | rfl | rfl | rfl;all_goals exact Ze1 w _ (by decide) _ (by kernel_rfl)
end Go.Proofs.YtedopiahfejdfaaGreatDoor
namespace Go.Proofs.YtedopiahfejdfaaGreatDoor
open Go Go.RowKit
set_option maxRecDepth 100000
set_option maxHeartbeats 20000000
set_option linter.unusedVariables false
def bArg (lv:Nat) (rb:Nat):Array Value:=#[.pointer (some ⟨rb,0,none⟩),.int .i64 lv]
theorem Zbs {lv:Nat} {ts:List Tok} (h:∀ (i:Nat) (x:ByteArray),(levL lv)[i]?=some x→isT x ts=false):Z03 lv ts=0:=by
 match lv with
 | 0=>have h0:=h 0 s_or rfl; simp [Z03,h0]
 | 1=>have h0:=h 0 Z77 rfl; simp [Z03,h0]
 | 2=>have h0:=h 0 Z4c rfl; simp [Z03,h0]
 | 3=>have h0:=h 0 Z4d rfl; simp [Z03,h0]
 | 4=>have h0:=h 0 Z6e rfl; have h1:=h 1 Z7c rfl; simp [Z03,h0,h1]
 | 5=>have h0:=h 0 Z7i rfl; simp [Z03,h0]
 | n + 6=>rfl
theorem Zbn {lv:Nat} {ts:List Tok} {k:Nat} {x:ByteArray} (hk:(levL lv)[k]?=some x) (hx:isT x ts=true) (h:∀ (i:Nat) (y:ByteArray),i < k→(levL lv)[i]?=some y→isT y ts=false):Z03 lv ts=Z8a x∧Z8a x≠0:=by
 match lv with
 | 0 =>
   match k with
   | 0 => obtain rfl : s_or = x := by simpa [levL] using hk
          exact ⟨by simp [Z03,hx]; decide,by decide⟩
   | k + 1=>simp [levL] at hk
 | 1 =>
   match k with
   | 0 => obtain rfl : Z77 = x := by simpa [levL] using hk
          exact ⟨by simp [Z03,hx]; decide,by decide⟩
   | k + 1=>simp [levL] at hk
 | 2 =>
   match k with
   | 0 => obtain rfl : Z4c = x := by simpa [levL] using hk
          exact ⟨by simp [Z03,hx]; decide,by decide⟩
   | k + 1=>simp [levL] at hk
 | 3 =>
   match k with
   | 0 => obtain rfl : Z4d = x := by simpa [levL] using hk
          exact ⟨by simp [Z03,hx]; decide,by decide⟩
   | k + 1=>simp [levL] at hk
 | 4 =>
   match k with
   | 0 => obtain rfl : Z6e = x := by simpa [levL] using hk
          exact ⟨by simp [Z03,hx]; decide,by decide⟩
   | 1 => obtain rfl : Z7c = x := by simpa [levL] using hk
          have h0:=h 0 Z6e (by omega) rfl;exact ⟨by simp [Z03,hx,h0]; decide,by decide⟩
   | k + 2=>simp [levL] at hk
 | 5 =>
   match k with
   | 0 => obtain rfl : Z7i = x := by simpa [levL] using hk
          exact ⟨by simp [Z03,hx]; decide,by decide⟩
   | k + 1=>simp [levL] at hk
 | n + 6=>simp [levL] at hk
theorem Zd9 (f:Nat) (hU:Says 108 rArg .unary f):Says 107 (bArg 6) (.bin 6) (f + 1):=by
 intro w rb B d ts r hP hp;have hw:Z0 f .unary d ts=some r:=hp;have HC:=lh (hU w rb B d ts r hP hw);clear hP hp hw hU;unfold rArg at HC;unfold bArg;go_enter Tryz.func107,Tryz.ntmps107
 go_wp2;go_step3
 go_wp2_with fail
 refine HC.out.mono ?_;rcases r with ⟨c,p⟩ | ⟨t,ts'⟩
 ·rintro e w2 ⟨⟨b,rfl,h1,h2⟩,hF⟩;exact ⟨rfl,⟨b,rfl,h1,h2⟩,hF⟩
 ·rintro e w2 ⟨a, rfl, hG, hR, hF⟩;have HG := lh hG;have HR := lh hR;have HF := lh hF;clear hG hR hF HC;go_wp2;try rw [Exit.noGoto_ret]
  go_ret;exact ⟨a,rfl,HG.out,HR.out,HF.out⟩
theorem Z8f {P:Program} {a:Act} {w:World} {Q:Exit→Act→World→Prop} {c rest:Code} (l:Nat) (J:Act→World→Prop) (μ:Act→World→Nat) (hf:findLabel c l=some (Code.skip.seq rest))
 (first:(∀ a w,J a w→rest.wp P (Exit.jump l J Q) a w)→c.wp P (Exit.jump l J Q) a w)
 (pass:∀ a w,J a w→rest.wp P (Exit.jump l (fun a' w'=>J a' w'∧μ a' w' < μ a w) Q) a w):(Code.scope c).wp P Q a w:=
 wp_scope_jumps l J μ hf (first fun a w h=>Code.wp_mono (fun e a' w' hq=>by cases e <;> first | exact hq | exact ⟨hq.1,hq.2.1⟩) (pass a w h)) fun a w h=>wp_seq (wp_skip (pass a w h))
def BinJ (f lv d:Nat) (w:World) (rb B:Nat) (r:Except (Int×Nat) (Tree×List Tok)) (n:Nat) (a:ATree) (w':World):Prop:=
 ∃ (g:Nat) (us:List Tok) (t:Tree),g≤f∧Z0 g (.binLoop lv t) d us=some r∧Got w B w' a t∧Pre w' rb B d us∧RFr w w' rb∧us.length≤n
theorem Zdz (f lv:Nat) (hlv:lv < 6) (hB:∀ g,g≤f→Says 107 (bArg (lv + 1)) (.bin (lv + 1)) g):Says 107 (bArg lv) (.bin lv) (f + 1):=by
 intro w rb B d ts r hP hp;have hw:Zh (Z0 f (.bin (lv + 1)) d ts) (fun x ts=>Z0 f (.binLoop lv x) d ts)=some r:=by rw [← hp,Z0,Y3 (by omega)]
 have HP:=lh hP;have HB:=lh hB;have H1:=lh hw;have l6:((lv:Int) == 6)=false:=by simp; omega
 have l0:0≤(lv:Int):=by omega
 have l1:(lv:Int) < 6:=by omega
 have lw:((lv + 1:Nat):Int)=(lv:Int) + 1:=by omega
 clear hP hp hw hB;unfold bArg;go_enter Tryz.func107,Tryz.ntmps107
 go_wp2;refine Z8f 0 (fun a' w'=>∃ (a:ATree) (u2 u3 u6 u7 u8 u9 u10 u11 u12 u13 u14 u15 u16 u17 u18 u19 u20 u21 u22 u23 u24 u25 u26 u27 u28 u29 u30 u31 u32 u33 u34 u35 u36 u37 u38:Value),a'={ tmps:=#[.pointer (some ⟨rb,0,none⟩),.int .i64 lv,u2,u3,.pointer none,.pointer (some ⟨a.b,0,none⟩),u6,u7,u8,u9,u10,u11,u12,u13,u14,u15,u16,u17,u18,u19,u20,u21,u22,u23,u24,u25,u26,u27,u28,u29,u30,u31,u32,u33,u34,u35,u36,u37,u38],defers:=[] }∧BinJ f lv d w rb B r ts.length a w') (fun _ w'=>leftOf w' rb) rfl (fun PASS=>?_) ?_
 ·have PASS := lh PASS;rcases Zb H1.out with ⟨⟨c, p⟩, hv, rfl⟩ | ⟨t, us, hv, h2⟩
  ·have HV := (HB.out f (Y0 _)) w rb B d _ _ HP.out hv;unfold bArg at HV;rw [lw] at HV;have HV := lh HV;clear hv lw;go_wp2_with fail
   refine HV.out.mono ?_;rintro e w2 ⟨⟨b,rfl,h1,h2⟩,hF⟩;exact ⟨rfl,⟨b,rfl,h1,h2⟩,hF⟩
  ·have HV := (HB.out f (Y0 _)) w rb B d _ _ HP.out hv;unfold bArg at HV;rw [lw] at HV;have HV := lh HV;have hl := Z08 hv;have H2 := lh h2;clear hv h2 lw;go_wp2_with fail
   refine HV.out.mono ?_;rintro e w2 ⟨a,rfl,hG,hR2,hF2⟩;have hJ:BinJ f lv d w rb B r ts.length a w2:=⟨f,us,t,Y0 _,H2.out,hG,HP.out.next hR2 hF2 hl,hF2,hl⟩
   have HJ:=lh hJ;clear hG hR2 hF2 hl hJ;go_wp2_with fail
   go_step3
   rename_i Q1 K1 hK1;refine hK1 _ _ (PASS.out _ _ ?_);exact ⟨a,_,_,_,_,_,_,_,_,_,_,_,_,_,_,_,_,_,_,_,_,_,_,_,_,_,_,_,_,_,_,_,_,_,_,_,rfl,HJ.out⟩
 ·rintro a' w1 ⟨a, u2, u3, u6, u7, u8, u9, u10, u11, u12, u13, u14, u15, u16, u17, u18, u19, u20, u21, u22, u23, u24, u25, u26, u27, u28, u29, u30, u31, u32, u33, u34, u35, u36, u37, u38, rfl, g, us, t, hg, hq, hG, hP1, hF, hl⟩;have G1 := lh hG;have P1 := lh hP1;have F1 := lh hF;have RL := lh hP1.rd.left;have HL := lh hl;have HQ := lh hq;obtain ⟨tb, off, cap, hR⟩ := hP1.rd;obtain ⟨sb, so, sc, hgl, hsl, hc0, hsc, hcs⟩ := hR.lev lv hlv;have HCS := lh hcs;obtain ⟨n, hn⟩ := zX ((levL lv).length)
  have n2:n≤2:=by rw [hn]; match lv,hlv with | 0,_=>decide | 1,_=>decide | 2,_=>decide | 3,_=>decide | 4,_=>decide | 5,_=>decide
  rw [← hn] at hc0 hsc;have HN:=lh hn;have hsz:sb < w1.heap.size:=Nat.lt_trans hsl hR.rlt;obtain ⟨ab,hab⟩:=zX a.b
  rw [← hab];have HAB:=lh hab;clear hG hP1 hF hl hR hcs hn hq hab lw;go_wp2_with fail
  go_loopw [5,20] (fun v5 i wr=>v5=.pointer (some ⟨ab,0,none⟩)∧∃ k:Nat,k≤n∧i=.int .i64 k∧Hid (∀ (j:Nat) (y:ByteArray),j < k→(levL lv)[j]?=some y→isT y us=false)∧Hid (Below w1.heap.size w1 wr)) (fun _ i _=>n - (intOf i).toNat)
  case atStart=>exact ⟨rfl,0,Yh _,rfl,lh (fun j y hj=>by omega),lh (Y2 _ _)⟩
  case round=>
   obtain ⟨rfl,k,hk,rfl,NO,BW⟩:=hrel;by_cases hkn:k < n
   ·obtain ⟨x, hx⟩ : ∃ x, (levL lv)[k]? = some x := ⟨_, Y6 (by rw [← HN.out]; exact hkn)⟩
    have cx:=(BW.out.cell (p:=⟨sb,so + k,none⟩) hsz).trans (HCS.out k x hx);have HX:=lh hx;have R2:=P1.out.rd.below BW.out;clear hx;by_cases hs:isT x us=true
    ·have hlt := Zbn HX.out hs (fun j y hj hy => NO.out j y hj hy);have HT := lh (Z05 wr rb us d x R2 hs);have HS := lh hs;have LT := lh hlt;have hpos := Zg hs;have HPOS := lh hpos;clear hs R2 hlt hpos;cases g with
     | zero=>cases HQ.out
     | succ g=>
     have hq:Zh (Z0 g (.bin (lv + 1)) d us.tail) (fun y ts'=>Z0 g (.binLoop lv (.mk (Z03 lv us) ByteArray.empty 0 [t,y])) d ts')=some r:=by
      have hq:=HQ.out;rw [Z0,Y3 (by rw [LT.out.1]; exact LT.out.2)] at hq;exact hq
     rw [LT.out.1] at hq;have HQ2:=lh hq;clear hq;go_wp2_with fail
     refine HT.out.mono ?_;rintro e w2 ⟨rfl,hR2,hF2⟩;have P2:=lh ((P1.out.below BW.out).tail hR2 hF2);have F12:=lh ((RFr.below (rb:=rb) BW.out).trans hF2);have HSG:=lh (Zfo w2 x LT.out.2);obtain ⟨sk,hsk⟩:=zX (Z8a x)
     rw [← hsk] at HSG;have HSK:=lh hsk;clear hR2 hF2 HT hsk;go_wp2_with fail
     refine HSG.out.mono ?_;rintro e w3 ⟨rfl,hB3⟩;have P3:=lh (P2.out.below hB3);have F13:=lh (F12.out.trans (RFr.below (rb:=rb) hB3));have lw:((lv + 1:Nat):Int)=(lv:Int) + 1:=by omega
     clear hB3 HSG;rcases Zb HQ2.out with ⟨⟨c,p⟩,hv,rfl⟩ | ⟨y,vs,hv,h4⟩
     ·have HV := (HB.out g (by omega)) w3 rb B d _ _ P3.out hv;unfold bArg at HV;rw [lw] at HV;have HV := lh HV;clear hv lw;go_wp2_with fail
      refine HV.out.mono ?_;rintro e w4 ⟨⟨b,rfl,h1,h2⟩,hF⟩;exact ⟨rfl,Zo.pre (F1.out.trans F13.out) (r:=.error (c,p)) ⟨⟨b,rfl,h1,h2⟩,hF⟩⟩
     ·have HV := (HB.out g (by omega)) w3 rb B d _ _ P3.out hv;unfold bArg at HV;rw [lw] at HV;have HV := lh HV;have hll := Z08 hv;have H4 := lh h4;clear hv lw h4;go_wp2_with fail
      refine HV.out.mono ?_;rintro e w4 ⟨c,rfl,hC,hR4,hF4⟩;have hG13:=G1.out.rfr P1.out.lt F13.out;have hG4:=hG13.rfr P1.out.lt hF4;have F4:=(F1.out.trans F13.out).trans hF4;have hfin:=Got.two (k:=sk) (t:=⟨#[]⟩) HP.out.le F4 hG4 (wA:=w3) (fun x hx=>(hG13.new x hx).2) (F1.out.trans F13.out).size hC;have hb1:Below w4.heap.size w4 (w4.alloc (.cells #[.pointer (some ⟨ab,0,none⟩),.pointer (some ⟨c.b,0,none⟩)] 22)):=(Y2 _ _).alloc (Y0 _) _
      have hb2:Below w4.heap.size w4 ((w4.alloc (.cells #[.pointer (some ⟨ab,0,none⟩),.pointer (some ⟨c.b,0,none⟩)] 22)).alloc (.cells #[.int .i64 sk,.string ⟨#[]⟩,.int .i64 0,.slice (some ⟨w4.heap.size,0,none⟩) 2 2] 37)):=hb1.alloc (by simp) _;have F6:=lh (F4.trans (RFr.below (rb:=rb) hb2));have P6:=lh (((P3.out.next hR4 hF4 hll).below hb2));have FIN:=lh hfin;have HLL:=lh hll;clear hC hR4 hF4 hG4 hG13 F4 HV hb1 hb2 hfin hll;go_wp2_with fail
      refine (Zw _ rb sk ⟨#[]⟩ _ 2 2).mono ?_;rintro e w7 ⟨rfl,rfl⟩;go_wp2;go_step3
      refine ⟨rfl,⟨.mk (w4.heap.size + 1) (.slice (some ⟨w4.heap.size,0,none⟩) 2 2) sk ⟨#[]⟩ 0 [a,c],_,_,_,_,_,_,_,_,_,_,_,_,_,_,_,_,_,_,_,_,_,_,_,_,_,_,_,_,_,_,_,_,_,_,_,rfl,g,vs,.mk sk ByteArray.empty 0 [t,y],by omega,?_,?_,P6.out,F6.out,?_⟩,?_⟩;·rw [HSK.out]; exact H4.out
      ·rw [HAB.out]; exact FIN.out
      ·have:=HLL.out; have:=HL.out; have:=Zz us; omega
      ·rw [P6.out.rd.left,RL.out]; have:=HLL.out; have:=HPOS.out; omega
    ·have hs' : isT x us = false := by simpa using hs
     have HT:=lh (Z0m wr rb us d x R2 hs');have HS:=lh hs';clear hs hs' R2;go_wp2_with fail
     refine HT.out.mono ?_;rintro e w2 ⟨rfl,hB2⟩;have B2:=lh hB2;clear hB2;go_wp2;go_roundw
     case rel=>exact ⟨rfl,k + 1,by omega,by go_num,lh (fun j y hj hy=>by
      by_cases e:j=k;·subst e; obtain rfl:=Yc (HX.out.symm.trans hy); exact HS.out
      ·exact NO.out j y (by omega) hy),lh (BW.out.trans (B2.out.mono BW.out.size))⟩
     case measure=>simp [intOf]; omega
   ·have hkk : k = n := by omega
    have NO2:Hid (Z03 lv us=0):=lh (Zbs fun i y hi=>NO.out i y (by rw [hkk,HN.out]; exact (List.getElem?_eq_some_iff.1 hi).1) hi);clear hkk;go_wp2_with fail
    simp only [Exit.jump];go_ret;cases g with
    | zero=>cases HQ.out
    | succ g =>
      have hq:=HQ.out;rw [Z0,Y5 NO2.out] at hq;obtain rfl:=Yc hq;rw [HAB.out];exact ⟨a,rfl,G1.out.rfr P1.out.lt (RFr.below BW.out),P1.out.rd.below BW.out,F1.out.trans (RFr.below BW.out)⟩
end Go.Proofs.YtedopiahfejdfaaGreatDoor
namespace Go.Proofs.YtedopiahfejdfaaGreatDoor
open Go
section
variable {P:Program} {ops:Array Oper} {md:Region.Mode}
def Za2 (P:Program) (ops:Array Oper) (K:Act→Prop):List Oper→Act→Prop
 | [],a=>K a
 | o :: r,a=>∃ v,YieldsIf P ops (fun _=>True) o v a∧Za2 P ops K r (a.put o.dst v)
theorem Zb3 {K:Act→Prop} {o:Oper} {r:List Oper} {a:Act} (v:Value)
 (hw:Region.wanted o (yielded ops a.tmps)=true) (hy:∀ w',True→(execOp a.eval o).run P w'=.ok (.value v) w') (h:Za2 P ops K r (a.put o.dst v)):Za2 P ops K (o :: r) a:=
 ⟨v,.inl ⟨hw,hy⟩,h⟩
def Zen (md:Region.Mode) (ops:Array Oper):List Nat→Array Bool→Bool
 | [],_=>true
 | i :: r,listed=>(Region.ready md ops listed).contains i && Region.free md ops listed i && Zen md ops r (listed.setIfInBounds i true)
def dagB (md:Region.Mode) (ops:Array Oper) (pre L ph:List Nat):Bool:=
 Region.noSelect ops && Z28 md ops ph && Z9i md ops ph (((List.range ops.size).map fun j=>!ph.contains j).toArray) && Zen md ops pre (Z0e ph (Array.replicate ops.size false)) &&
  decide (pre.length + L.length + ph.length=ops.size) && (pre.all fun i=>decide (i < ops.size)) && ((List.range ops.size).all fun j=>pre.contains j || L.contains j || ph.contains j)
theorem Z1r {m:Array Bool} {i j:Nat} (h:i < m.size):(m.setIfInBounds i true).getD j false=if i=j then true else m.getD j false:=by
 by_cases e:i=j;·subst e; simp [h]
 ·rw [getD_set_ne false e,Y3 e]
theorem Zca {Q:Exit→Act→World→Prop} {L:List Nat} (Inv:Array Bool→Act→World→Prop) (hback:Zcv md ops=true)
 (hS:∀ listed i a w,listed.size=ops.size→i∈L→i < ops.size→listed.getD i false=false→(∀ j,waits md ops i j=true→listed.getD j false=true)→Inv listed a w→wpOp P ops Q i (fun a' w'=>Inv (listed.setIfInBounds i true) a' w') a w)
 (hE:∀ listed a w,(∀ j,j < ops.size→listed.getD j false=true)→Inv listed a w→Q .normal a w) :
 ∀ (k:Nat) (listed:Array Bool) (a:Act) (w:World),listed.size=ops.size→(∀ j,j < ops.size→listed.getD j false=true∨j∈L)→(L.filter fun j=>!listed.getD j true).length≤k→Inv listed a w→wpAnyH P md ops Q (fun _=>True) k listed a w:=by
 have done:∀ listed:Array Bool,listed.size=ops.size→Region.ready md ops listed=[]→∀ j,j < ops.size→listed.getD j false=true:=by
  intro listed hs hr j hj;cases h:listed.getD j false with
  | true=>rfl
  | false=>exact absurd hr (Z5f hback hs j hj h)
 intro k;induction k with
 | zero =>
   intro listed a w hs hL hk hI;have hr:Region.ready md ops listed=[]:=by
    refine List.eq_nil_iff_forall_not_mem.2 fun i hi=>?_;obtain ⟨h0,o,ho,_⟩:=mem_ready.1 hi;have hil:i < ops.size:=(Y1.1 ho).1;have h1:i∈L:=(hL i hil).resolve_left (by rw [← Z8b (by omega),h0]; simp);have:i∈L.filter fun j=>!listed.getD j true:=List.mem_filter.2 ⟨h1,by rw [h0]; rfl⟩;have:=List.length_pos_of_mem this;omega
   exact ⟨hr,hE listed a w (done listed hs hr) hI⟩
 | succ k ih =>
   intro listed a w hs hL hk hI;refine ⟨fun hr=>hE listed a w (done listed hs hr) hI,fun i hi=>?_⟩;obtain ⟨h0,o,ho,hall⟩:=mem_ready.1 hi;have hil:i < ops.size:=(Y1.1 ho).1;have h0':listed.getD i false=false:=by rw [← Z8b (by omega)]; exact h0
   have h1:i∈L:=(hL i hil).resolve_left (by rw [h0']; simp);refine wpOp_mono (fun a' w' h=>⟨trivial,ih _ a' w' (by simpa using hs) (fun j hj=>?_) ?_ h⟩) (hS listed i a w hs h1 hil h0' (fun j hj=>Z58 hj hi) hI)
   ·rw [Z1r (by omega)];by_cases e : i = j;·rw [Y5 e]; exact .inl rfl
    ·rw [Y3 e]; exact hL j hj
   ·have hlt:(L.filter fun j=>!(listed.setIfInBounds i true).getD j true).length < (L.filter fun j=>!listed.getD j true).length:=by
     have sub:∀ l:List Nat,(l.filter fun j=>!(listed.setIfInBounds i true).getD j true).length≤(l.filter fun j=>!listed.getD j true).length∧(i∈l→(l.filter fun j=>!(listed.setIfInBounds i true).getD j true).length < (l.filter fun j=>!listed.getD j true).length):=by
      intro l;induction l with
      | nil=>exact ⟨Y0 _,fun h=>by cases h⟩
      | cons x l ihl =>
        by_cases e:i=x
        ·subst e;have e1 : (listed.setIfInBounds i true).getD i true = true := by simp [show i < listed.size by omega]
         simp only [List.filter_cons,e1,h0,Bool.not_true,Bool.not_false,if_true,Bool.false_eq_true,if_false,List.length_cons];exact ⟨by omega,fun _=>by omega⟩
        ·have e1 : (listed.setIfInBounds i true).getD x true = listed.getD x true := getD_set_ne true e;simp only [List.filter_cons, e1];cases listed.getD x true
         ·simp only [Bool.not_false,if_true,List.length_cons];exact ⟨by omega,fun h=>by have:=ihl.2 (by rcases List.mem_cons.1 h with h | h; exact absurd h e; exact h); omega⟩
         ·simp only [Bool.not_true,Bool.false_eq_true,if_false];exact ⟨ihl.1,fun h=>ihl.2 (by rcases List.mem_cons.1 h with h | h; exact absurd h e; exact h)⟩
     exact (sub L).2 h1
    omega
theorem Z95 {Q:Exit→Act→World→Prop} (hsel:Region.noSelect ops=true) (hQ:∀ c a d v w,Q (.panic c) (Act.put a d v) w→Q (.panic c) a w) {w:World} {fuel:Nat} :
 ∀ (l:List Nat) (listed:Array Bool) (a:Act),Zen md ops l listed=true→(∀ i∈l,i < ops.size)→Za2 P ops (fun a'=>wpAnyH P md ops Q (fun _=>True) fuel (Z0e l listed) a' w) (l.filterMap (ops[·]?)) a→wpAnyH P md ops Q (fun _=>True) (fuel + l.length) listed a w
 | [],listed,a,_,_,h=>h
 | i :: l, listed, a, hB, hin, h => by
   simp only [Zen,Bool.and_eq_true] at hB;obtain ⟨⟨hr,hf⟩,hB'⟩:=hB;have hil:=hin i (List.mem_cons_self ..);have ho:ops[i]?=some ops[i]:=Array.getElem?_eq_getElem hil;rw [List.filterMap_cons,ho] at h;obtain ⟨v,hy,h'⟩:=h;have e:fuel + (i :: l).length=(fuel + l.length) + 1:=by simp; omega
   rw [e];exact wpAnyH_take ho hsel hf hr (fun c a w=>hQ c a _ _ w) hy trivial (Z95 hsel hQ l _ _ hB' (fun j hj=>hin j (List.mem_cons_of_mem _ hj)) h')
theorem Z87 {Q:Exit→Act→World→Prop} {id:Nat} {l:List Oper} {a:Act} {w:World} (pre L ph:List Nat) (hm:P.follows .mixedOrders=true)
 (hB:dagB .any l.toArray pre L ph=true) (hQ:∀ c a d v w,Q (.panic c) (Act.put a d v) w→Q (.panic c) a w) (Inv:Array Bool→Act→World→Prop)
 (hP:Za2 P l.toArray (fun a'=>Inv (Z0e pre (Z0e ph (Array.replicate l.toArray.size false))) a' w.drew) (pre.filterMap (l.toArray[·]?)) a)
 (hS:∀ listed i a w,listed.size=l.toArray.size→i∈L→i < l.toArray.size→listed.getD i false=false→(∀ j,waits .any l.toArray i j=true→listed.getD j false=true)→Inv listed a w→wpOp P l.toArray (Ends (wpList P l.toArray Q (ph.filterMap (l.toArray[·]?))) Q) i (fun a' w'=>Inv (listed.setIfInBounds i true) a' w') a w)
 (hE:∀ listed a w,(∀ j,j < l.toArray.size→listed.getD j false=true)→Inv listed a w→wpList P l.toArray Q (ph.filterMap (l.toArray[·]?)) a w):(Code.region id l.toArray true).wp P Q a w:=by
 simp only [dagB,Bool.and_eq_true,decide_eq_true_eq] at hB;obtain ⟨⟨⟨⟨⟨⟨hsel,hph⟩,hseq⟩,hpre⟩,hlen⟩,hin1⟩,hcov⟩:=hB;refine wp_region_any hm ?_;have hback:Zcv .any l.toArray=true:=by
  cases ph with
  | nil=>simp [Z28] at hph
  | cons t r=>simp only [Z28,Bool.and_eq_true] at hph; exact hph.1.1.1
 have hin:∀ t∈ph,t < l.toArray.size:=by
  cases ph with
  | nil=>simp [Z28] at hph
  | cons t r =>
    simp only [Z28,Bool.and_eq_true] at hph;intro u hu;simpa using List.all_eq_true.1 hph.1.1.2 u hu
 have hsz:(Z0e pre (Z0e ph (Array.replicate l.toArray.size false))).size=l.toArray.size:=by rw [Z23,Z23]; simp
 have G:∀ a w,Inv (Z0e pre (Z0e ph (Array.replicate l.toArray.size false))) a w→wpAnyH P .any l.toArray (Ends (wpList P l.toArray Q (ph.filterMap (l.toArray[·]?))) Q) (fun _=>True) L.length (Z0e pre (Z0e ph (Array.replicate l.toArray.size false))) a w:=fun a w h=>
  Zca (P:=P) (Q:=Ends (wpList P l.toArray Q (ph.filterMap (l.toArray[·]?))) Q) Inv hback hS hE L.length _ a w hsz (fun j hj=>by
   have h1:=List.all_eq_true.1 hcov j (List.mem_range.2 hj);simp only [Bool.or_eq_true,List.contains_eq_mem,decide_eq_true_eq] at h1;rcases h1 with (h1 | h1) | h1;·exact .inl (Z2h h1 (by rw [Z23]; simpa using hj))
   ·exact .inr h1
   ·exact .inl (Z1u (Z2h h1 (by simpa using hj)))) (List.length_filter_le _ _) h
 have mono:∀ (os:List Oper) (a:Act),Za2 P l.toArray (fun a'=>Inv (Z0e pre (Z0e ph (Array.replicate l.toArray.size false))) a' w.drew) os a→Za2 P l.toArray (fun a'=>wpAnyH P .any l.toArray (Ends (wpList P l.toArray Q (ph.filterMap (l.toArray[·]?))) Q) (fun _=>True) L.length (Z0e pre (Z0e ph (Array.replicate l.toArray.size false))) a' w.drew) os a:=by
  intro os;induction os with
  | nil=>intro a h; exact G a w.drew h
  | cons o os ih=>intro a h; obtain ⟨v,hy,h⟩:=h; exact ⟨v,hy,ih _ h⟩
 have H:=Z95 (P:=P) (md:=.any) (Q:=Ends (wpList P l.toArray Q (ph.filterMap (l.toArray[·]?))) Q) hsel hQ pre _ a hpre (fun i hi=>by simpa using List.all_eq_true.1 hin1 i hi) (mono _ a hP);have key:=Z5z (Q:=Q) hph (fun m hs hm'=>?_) (L.length + pre.length) (Array.replicate l.toArray.size false) a w.drew (by simp) ?_ ?_ (wpAny_of_held _ _ _ _ H);·rw [show L.length + pre.length + ph.length=l.toArray.size by omega] at key; exact key
 ·have:m=((List.range l.toArray.size).map fun j=>!ph.contains j).toArray:=by
   apply Array.ext;·simp only [hs,List.size_toArray,List.length_map,List.length_range]
   ·intro j h1 h2;have:=hm' j (by omega);simp only [List.getElem_toArray,List.getElem_map,List.getElem_range];rw [← this];simp [h1]
  rw [this]; exact hseq
 ·intro j o _ hl;rw [Z3t] at hl;cases hl
 ·intro t _;exact Z3t _ _
end
end Go.Proofs.YtedopiahfejdfaaGreatDoor
