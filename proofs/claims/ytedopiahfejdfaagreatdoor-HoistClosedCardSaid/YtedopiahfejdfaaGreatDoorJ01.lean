/- Package lex: classes of bytes. -/
import Derived.Test.YtedopiahfejdfaaGreatDoorProg
import Derived.WalkKit
import Derived.Lib.Hide
import Derived.OrdersHeld
import Derived.Tactics
import Derived.KernelRfl
import Derived.Laws.World
import Derived.Laws.AppendOwn
import Derived.Deep.AppendLies
import Derived.Lib.Builder
import Derived.Deep.RegionHeld3
import Derived.Deep.RegionLaw
import Derived.Deep.DeepMust
import Derived.WalkSpells
import Derived.WalkLawsBesides
import Derived.Shelf.Strings.Builder1
import Derived.Shelf.Slices.Turned
namespace Go.Proofs.YtedopiahfejdfaaGreatDoor
open Go Go.RowKit
set_option maxRecDepth 100000
set_option maxHeartbeats 20000000
def Z01 (c:Int):Bool:=(decide (97≤c) && decide (c≤122)) || decide (c=95)
def Z09 (c:Int):Bool:=decide (48≤c) && decide (c≤57)
def Zn (c:Int):Bool:=decide (c=32) || decide (c=10)
def Z1g (c:Int):Bool:=Z01 c || Z09 c
theorem Z5j (w:World) (c:Int):Calls Tryz.prog 14 #[.int .u8 c] w fun e w'=>e=.returned (.bool (Z01 c))∧w'=w:=by
 by_cases h1:97≤c
 ·by_cases h2 : c ≤ 122
  ·have e : Z01 c = true := by simp [Z01, h1, h2]
   rw [e];go_enter Tryz.func14,Tryz.ntmps14
   go_wp2;go_ret;exact ⟨rfl,rfl⟩
  ·have e : Z01 c = false := by simp [Z01, h1, h2]; omega
   have h3:(c == 95)=false:=by simp; omega
   rw [e];go_enter Tryz.func14,Tryz.ntmps14
   go_wp2;go_ret;exact ⟨rfl,rfl⟩
 ·by_cases h3 : c = 95
  ·subst h3;go_enter Tryz.func14, Tryz.ntmps14
   go_wp2;go_ret;exact ⟨rfl,rfl⟩
  ·have e : Z01 c = false := by simp [Z01, h1, h3]
   have h3':(c == 95)=false:=by simp [h3]
   rw [e];go_enter Tryz.func14,Tryz.ntmps14
   go_wp2;go_ret;exact ⟨rfl,rfl⟩
theorem Z6j (w:World) (c:Int):Calls Tryz.prog 41 #[.int .u8 c] w fun e w'=>e=.returned (.bool (Z09 c))∧w'=w:=by
 by_cases h1:48≤c
 ·by_cases h2 : c ≤ 57
  ·have e : Z09 c = true := by simp [Z09, h1, h2]
   rw [e];go_enter Tryz.func41,Tryz.ntmps41
   go_wp2;go_ret;exact ⟨rfl,rfl⟩
  ·have e : Z09 c = false := by simp [Z09, h2]
   rw [e];go_enter Tryz.func41,Tryz.ntmps41
   go_wp2;go_ret;exact ⟨rfl,rfl⟩
 ·have e : Z09 c = false := by simp [Z09, h1]
  rw [e];go_enter Tryz.func41,Tryz.ntmps41
  go_wp2;go_ret;exact ⟨rfl,rfl⟩
theorem Zd5 (w:World) (c:Int):Calls Tryz.prog 39 #[.int .u8 c] w fun e w'=>e=.returned (.bool (Zn c))∧w'=w:=by
 by_cases h1:c=32
 ·subst h1;go_enter Tryz.func39, Tryz.ntmps39
  go_wp2;go_ret;exact ⟨rfl,rfl⟩
 ·have q1 : (c == 32) = false := by simp [h1]
  have e:Zn c=(c == 10):=by simp [Zn,h1]; rfl
  rw [e];go_enter Tryz.func39,Tryz.ntmps39
  go_wp2;go_ret;exact ⟨rfl,rfl⟩
theorem Ze6 (w:World) (c:Int):Calls Tryz.prog 40 #[.int .u8 c] w fun e w'=>e=.returned (.bool (Z1g c))∧w'=w:=by
 have HL:=Lib.hid (Z5j w c);have HD:=Lib.hid (Z6j w c);unfold Z1g;cases hl:Z01 c
 ·rw [hl] at HL;go_enter Tryz.func40, Tryz.ntmps40
  go_wp2_with fail
  refine HL.out.mono ?_;rintro e w1 ⟨rfl,rfl⟩;go_wp2_with fail
  refine HD.out.mono ?_;rintro e w1 ⟨rfl,rfl⟩;go_wp2;go_ret;exact ⟨rfl,rfl⟩
 ·rw [hl] at HL;go_enter Tryz.func40, Tryz.ntmps40
  go_wp2_with fail
  refine HL.out.mono ?_;rintro e w1 ⟨rfl,rfl⟩;go_wp2;go_ret;exact ⟨rfl,rfl⟩
end Go.Proofs.YtedopiahfejdfaaGreatDoor
namespace Go.Proofs.YtedopiahfejdfaaGreatDoor
open Go
section
variable {P:Program} {ops:Array Oper} {md:Region.Mode}
def Ends (K:Act→World→Prop) (Q:Exit→Act→World→Prop):Exit→Act→World→Prop
 | .normal,a,w=>K a w
 | e,a,w=>Q e a w
theorem Zfp {Q Q':Exit→Act→World→Prop} {o:Oper} {a:Act} {w:World} {K:Act→World→Prop}
 (hp:∀ c a w,Q' (.panic c) a w→Q (.panic c) a w) (ho:LetsOut Q'→LetsOut Q) (h:o.wp P a w K Q'):o.wp P a w K Q:=by
 unfold Oper.wp at *;generalize (execOp a.eval o).run P w=r at *;cases r with
 | ok n w' =>
   cases n <;> simp only [Oper.upon] at h ⊢ <;>
    first
     | exact h
     | exact Calls.mono h (fun e w'' he=>by cases e <;> first | exact he | exact hp _ _ _ he | exact ho he)
 | halt x w'=>cases x <;> simp only [Oper.upon] at h ⊢ <;> exact hp _ _ _ h
theorem Zdt {Q:Exit→Act→World→Prop} {R:Act→World→Prop} {i:Nat} {a:Act} {w:World} {K:Act→World→Prop}
 (h:wpOp P ops (Ends R Q) i K a w):wpOp P ops Q i K a w:=by
 unfold wpOp at *;split;·rename_i ho; simp only [ho] at h; exact h
 ·rename_i o ho;simp only [ho] at h;split
  ·rename_i hw;simp only [hw, if_true] at h;rcases h with h | ⟨h1, h2⟩;·exact .inl (Zfp (fun _ _ _ h => h) (fun h => h) h)
   ·exact .inr ⟨h1,h2⟩
  ·rename_i hw; simp only [hw] at h; exact h
theorem Z7q {Q:Exit→Act→World→Prop}:∀ (f:Nat) (listed:Array Bool) (a:Act) (w:World),wpAny P md ops Q f listed a w→wpAny P md ops Q (f + 1) listed a w
 | 0,listed,a,w,h=>⟨fun _=>h.2,by rw [h.1]; simp⟩
 | f + 1,listed,a,w,h=>⟨h.1,fun i hi=>wpOp_mono (fun a' w' h'=>Z7q f _ a' w' h') (h.2 i hi)⟩
theorem Z9y {Q:Exit→Act→World→Prop} {f g:Nat} (hfg:f≤g) {listed:Array Bool} {a:Act} {w:World} (h:wpAny P md ops Q f listed a w):wpAny P md ops Q g listed a w:=by
 obtain ⟨d,rfl⟩:=Nat.exists_eq_add_of_le hfg;induction d with
 | zero=>exact h
 | succ d ih=>exact Z7q _ _ _ _ (ih (by omega))
theorem Z3t (m j:Nat):(Array.replicate m false).getD j false=false:=by
 rcases Nat.lt_or_ge j m with h | h <;> simp [h]
def Z0e (l:List Nat) (m:Array Bool):Array Bool:=l.foldl (fun m i=>m.setIfInBounds i true) m
theorem Z23 (l:List Nat) (m:Array Bool):(Z0e l m).size=m.size:=by
 unfold Z0e;induction l generalizing m with
 | nil=>rfl
 | cons i l ih=>simp only [List.foldl_cons]; rw [ih]; simp
theorem Z25 {l:List Nat} {m:Array Bool} {j:Nat} (d:Bool) (h:j ∉ l):(Z0e l m).getD j d=m.getD j d:=by
 unfold Z0e;induction l generalizing m with
 | nil=>rfl
 | cons i l ih =>
   simp only [List.mem_cons,not_or] at h;simp only [List.foldl_cons];rw [ih h.2,getD_set_ne d (Ne.symm h.1)]
theorem Z1u {l:List Nat} {m:Array Bool} {j:Nat} (h:m.getD j false=true):(Z0e l m).getD j false=true:=by
 unfold Z0e;induction l generalizing m with
 | nil=>exact h
 | cons i l ih=>simp only [List.foldl_cons]; exact ih (getD_set_true h)
theorem Z2h {l:List Nat} {m:Array Bool} {j:Nat} (h:j∈l) (hj:j < m.size):(Z0e l m).getD j false=true:=by
 unfold Z0e;induction l generalizing m with
 | nil=>cases h
 | cons i l ih =>
   simp only [List.foldl_cons];rcases List.mem_cons.1 h with rfl | h;·exact Z1u (l:=l) (by simp [hj])
   ·exact ih h (by simpa using hj)
theorem Z4v (m:Array Bool) (i j:Nat):(m.setIfInBounds i true).setIfInBounds j true=(m.setIfInBounds j true).setIfInBounds i true:=by
 by_cases h:i=j;·subst h; rfl
 ·exact Array.setIfInBounds_comm _ _ h
theorem Z9s (l:List Nat) (m:Array Bool) (i:Nat):Z0e l (m.setIfInBounds i true)=(Z0e l m).setIfInBounds i true:=by
 unfold Z0e;induction l generalizing m with
 | nil=>rfl
 | cons j l ih=>simp only [List.foldl_cons]; rw [Z4v,ih]
def Closed (md:Region.Mode) (ops:Array Oper) (m:Array Bool):Prop:=
 ∀ j o,ops[j]?=some o→m.getD j false=true→∀ e∈o.after,Region.binds md e=true→m.getD e.on false=true
theorem Closed.set {m:Array Bool} (h:Closed md ops m) {i:Nat} (hi:i∈Region.ready md ops m):Closed md ops (m.setIfInBounds i true):=by
 obtain ⟨_,oi,hoi,hall⟩:=mem_ready.1 hi;intro j o hj hl e he hb;by_cases hij:i=j
 ·subst hij;have:o=oi:=Option.some.inj (hj.symm.trans hoi);subst this;exact getD_set_true (hall e he hb)
 ·rw [getD_set_ne false hij] at hl;exact getD_set_true (h j o hj hl e he hb)
def Z31 (md:Region.Mode) (ops:Array Oper) (m:Array Bool) (j:Nat):Array Bool:=
 match ops[j]? with
 | some o=>o.after.toList.foldl (fun m e=>if Region.binds md e then m.setIfInBounds e.on true else m) m
 | none=>m
def Zf9 (md:Region.Mode) (ops:Array Oper) (t:Nat):Array Bool:=
 (List.range t).reverse.foldl (fun m j=>if m.getD j false then Z31 md ops m j else m) (Z31 md ops (Array.replicate ops.size false) t)
theorem Z4y {m listed:Array Bool} (hm:∀ k,m.getD k false=true→listed.getD k false=true) {j:Nat}
 (hj:∀ o,ops[j]?=some o→∀ e∈o.after,Region.binds md e=true→listed.getD e.on false=true):∀ k,(Z31 md ops m j).getD k false=true→listed.getD k false=true:=by
 unfold Z31;cases ho:ops[j]? with
 | none=>exact hm
 | some o =>
   simp only;have hall:=hj o ho
   have:∀ (l:List Edge),(∀ e∈l,Region.binds md e=true→listed.getD e.on false=true)→∀ m:Array Bool,(∀ k,m.getD k false=true→listed.getD k false=true) →
    ∀ k,(l.foldl (fun m e=>if Region.binds md e then m.setIfInBounds e.on true else m) m).getD k false=true→listed.getD k false=true:=by
    intro l;induction l with
    | nil=>intro _ m hm; exact hm
    | cons e l ih =>
      intro he m hm;simp only [List.foldl_cons];refine ih (fun e' h'=>he e' (List.mem_cons_of_mem _ h')) _ fun k hk=>?_;by_cases hb:Region.binds md e=true
      ·rw [if_pos hb] at hk;by_cases hke : e.on = k;·subst hke; exact he e (List.mem_cons_self ..) hb
       ·rw [getD_set_ne false hke] at hk; exact hm k hk
      ·rw [if_neg hb] at hk; exact hm k hk
   exact this o.after.toList (fun e he=>hall e (Array.mem_toList_iff.1 he)) m hm
theorem Zcb {listed:Array Bool} (hc:Closed md ops listed) {t:Nat} (ht:∀ o,ops[t]?=some o→∀ e∈o.after,Region.binds md e=true→listed.getD e.on false=true) :
 ∀ k,(Zf9 md ops t).getD k false=true→listed.getD k false=true:=by
 unfold Zf9;have h0:∀ k,(Z31 md ops (Array.replicate ops.size false) t).getD k false=true→listed.getD k false=true:=
  Z4y (fun k hk=>by
   rcases Nat.lt_or_ge k ops.size with h | h;·simp [h] at hk
   ·simp [h] at hk) ht
 have:∀ (l:List Nat) (m:Array Bool),(∀ k,m.getD k false=true→listed.getD k false=true) →
  ∀ k,(l.foldl (fun m j=>if m.getD j false then Z31 md ops m j else m) m).getD k false=true→listed.getD k false=true:=by
  intro l;induction l with
  | nil=>intro m hm; exact hm
  | cons j l ih =>
    intro m hm;simp only [List.foldl_cons];refine ih _ ?_;by_cases hj:m.getD j false=true
    ·rw [if_pos hj];exact Z4y hm (fun o ho e he hb=>hc j o ho (hm j hj) e he hb)
    ·rw [if_neg hj]; exact hm
 exact this _ _ h0
def waits (md:Region.Mode) (ops:Array Oper) (j i:Nat):Bool:=
 match ops[j]? with
 | some o=>o.after.any fun e=>Region.binds md e && e.on == i
 | none=>false
def Zcv (md:Region.Mode) (ops:Array Oper):Bool:=
 (List.range ops.size).all fun j=>match ops[j]? with | some o=>o.after.all fun e=>!Region.binds md e || decide (e.on < j) | none=>true
def Z8h (md:Region.Mode) (ops:Array Oper):Nat→List Nat→Bool
 | _,[]=>true
 | t,u :: r=>waits md ops u t && Z8h md ops u r
def Z28 (md:Region.Mode) (ops:Array Oper):List Nat→Bool
 | []=>false
 | t :: r=>Zcv md ops && ((t :: r).all fun j=>decide (j < ops.size)) && ((List.range ops.size).all fun j=>(t :: r).contains j || (Zf9 md ops t).getD j false) && Z8h md ops t r
def Z9i (md:Region.Mode) (ops:Array Oper):List Nat→Array Bool→Bool
 | [],listed=>(Region.ready md ops listed).isEmpty
 | t :: r,listed=>decide (Region.ready md ops listed=[t]) && Z9i md ops r (listed.setIfInBounds t true)
theorem Z8p {t:Nat}:∀ {r:List Nat},Z8h md ops t r=true→∀ u∈r,∃ s∈t :: r,waits md ops u s=true:=by
 intro r;induction r generalizing t with
 | nil=>intro _ u hu; cases hu
 | cons v r ih =>
   intro h u hu;simp only [Z8h,Bool.and_eq_true] at h;rcases List.mem_cons.1 hu with rfl | hu;·exact ⟨t,List.mem_cons_self ..,h.1⟩
   ·obtain ⟨s,hs,hw⟩:=ih h.2 u hu;exact ⟨s,List.mem_cons_of_mem _ hs,hw⟩
theorem Z58 {j i:Nat} (h:waits md ops j i=true) {m:Array Bool} (hj:j∈Region.ready md ops m):m.getD i false=true:=by
 obtain ⟨_,o,ho,hall⟩:=mem_ready.1 hj;unfold waits at h;rw [ho] at h;obtain ⟨e,he,hb⟩:=Array.any_eq_true'.1 h;simp only [Bool.and_eq_true,beq_iff_eq] at hb;rw [← hb.2];exact hall e he hb.1
theorem Zde {ph:List Nat} (hB:Z28 md ops ph=true) {m:Array Bool} (hc:Closed md ops m) (hun:∀ t∈ph,m.getD t false=false)
 {j:Nat} (hj:j < ops.size) (hjp:j ∉ ph) (hju:m.getD j false=false):∀ t∈ph,t ∉ Region.ready md ops m:=by
 cases ph with
 | nil=>simp [Z28] at hB
 | cons t r =>
   simp only [Z28,Bool.and_eq_true] at hB;obtain ⟨⟨⟨_,_⟩,hd⟩,hch⟩:=hB;intro u hu hr;rcases List.mem_cons.1 hu with rfl | hu'
   ·obtain ⟨_,o,ho,hall⟩:=mem_ready.1 hr;have h1:=List.all_eq_true.1 hd j (List.mem_range.2 hj);simp only [Bool.or_eq_true,List.contains_eq_mem,decide_eq_true_eq] at h1;have h2:=h1.resolve_left hjp;have:=Zcb hc (t:=u) (fun o' ho' e he hb=>by
     have:o'=o:=Option.some.inj (ho'.symm.trans ho);subst this;exact hall e he hb) j h2
    rw [hju] at this;cases this
   ·obtain ⟨s,hs,hw⟩:=Z8p hch u hu';have h3:=Z58 hw hr;rw [hun s hs] at h3;cases h3
theorem Z8b {m:Array Bool} {j:Nat} (h:j < m.size):m.getD j true=m.getD j false:=by simp [h]
theorem Z5f (hB:Zcv md ops=true) {m:Array Bool} (hs:m.size=ops.size):∀ j,j < ops.size→m.getD j false=false→Region.ready md ops m≠[]:=by
 intro j;induction j using Nat.strongRecOn with
 | _ j ih =>
   intro hj hju;have ho:ops[j]?=some ops[j]:=Array.getElem?_eq_getElem hj;have h1:=List.all_eq_true.1 hB j (List.mem_range.2 hj);rw [ho] at h1;simp only [Array.all_eq_true_iff_forall_mem,Bool.or_eq_true,Bool.not_eq_true',decide_eq_true_eq] at h1;by_cases hall:∀ e∈ops[j].after,Region.binds md e=true→m.getD e.on false=true
   ·intro h0;have:j∈Region.ready md ops m:=mem_ready.2 ⟨by rw [Z8b (by omega)]; exact hju,_,ho,hall⟩;rw [h0] at this;cases this
   ·simp only [Classical.not_forall] at hall;obtain ⟨e,he,hb,hn⟩:=hall;have hlt:e.on < j:=(h1 e he).resolve_left (by simp [hb]);exact ih e.on hlt (by omega) (by simpa using hn)
theorem Z54 {Q:Exit→Act→World→Prop}:∀ (l:List Nat) (listed:Array Bool) (a:Act) (w:World),Z9i md ops l listed=true →
 wpList P ops Q (l.filterMap (ops[·]?)) a w→wpAny P md ops Q l.length listed a w
 | [],listed,a,w,hB,h=>⟨by simpa [Z9i] using hB,h⟩
 | t :: l, listed, a, w, hB, h => by
   simp only [Z9i,Bool.and_eq_true,decide_eq_true_eq] at hB;refine ⟨fun h1=>(by rw [hB.1] at h1; cases h1),fun i hi=>?_⟩;have hi':=hi;rw [hB.1] at hi;have hit:i=t:=by simpa using hi
   subst hit;obtain ⟨_,o,ho,_⟩:=mem_ready.1 hi';rw [List.filterMap_cons,ho] at h;simp only [wpList] at h;have hw:wpOp P ops Q i (wpList P ops Q (l.filterMap (ops[·]?))) a w:=by unfold wpOp; simp only [ho]; exact h
   exact wpOp_mono (fun a' w' h'=>Z54 l _ a' w' hB.2 h') hw
theorem Z5z {Q:Exit→Act→World→Prop} {ph:List Nat} (hB:Z28 md ops ph=true) (hseq:∀ m:Array Bool,m.size=ops.size→(∀ j,j < ops.size→m.getD j false=!ph.contains j)→Z9i md ops ph m=true) :
 ∀ (f : Nat) (listed : Array Bool) (a : Act) (w : World), listed.size = ops.size → Closed md ops listed → (∀ t ∈ ph, listed.getD t false = false) →
   wpAny P md ops (Ends (wpList P ops Q (ph.filterMap (ops[·]?))) Q) f (Z0e ph listed) a w→wpAny P md ops Q (f + ph.length) listed a w:=by
 have hback:Zcv md ops=true:=by
  cases ph with
  | nil=>simp [Z28] at hB
  | cons t r=>simp only [Z28,Bool.and_eq_true] at hB; exact hB.1.1.1
 have hin:∀ t∈ph,t < ops.size:=by
  cases ph with
  | nil=>simp [Z28] at hB
  | cons t r =>
    simp only [Z28,Bool.and_eq_true] at hB;intro u hu;simpa using List.all_eq_true.1 hB.1.1.2 u hu
 have fin:∀ (g:Nat) (listed:Array Bool) (a:Act) (w:World),listed.size=ops.size→(∀ t∈ph,listed.getD t false=false)→(∀ j,j < ops.size→j ∉ ph→listed.getD j false=true) →
  wpList P ops Q (ph.filterMap (ops[·]?)) a w→wpAny P md ops Q (g + ph.length) listed a w:=by
  intro g listed a w hs hun hall h;refine Z9y (Nat.le_add_left _ _) (Z54 ph listed a w (hseq listed hs fun j hj=>?_) h);by_cases hjp:j∈ph;·rw [hun j hjp]; simp [hjp]
  ·rw [hall j hj hjp]; simp [hjp]
 have done:∀ (listed:Array Bool),listed.size=ops.size→Region.ready md ops (Z0e ph listed)=[]→∀ j,j < ops.size→j ∉ ph→listed.getD j false=true:=by
  intro listed hs hr j hj hjp;cases h:listed.getD j false with
  | true=>rfl
  | false=>exact absurd hr (Z5f hback (by rw [Z23]; exact hs) j hj (by rw [Z25 false hjp]; exact h))
 intro f;induction f with
 | zero =>
   intro listed a w hs hc hun h;exact fin 0 listed a w hs hun (done listed hs h.1) h.2
 | succ f ih =>
   intro listed a w hs hc hun h;by_cases hall:∀ j,j < ops.size→j ∉ ph→listed.getD j false=true
   ·refine fin (f + 1) listed a w hs hun hall (h.1 ?_);refine List.eq_nil_iff_forall_not_mem.2 fun i hi => ?_;obtain ⟨h0, o, ho, _⟩ := mem_ready.1 hi;have hil : i < ops.size := (Array.getElem?_eq_some_iff.1 ho).1;rw [Z8b (by rw [Z23]; omega)] at h0;by_cases hip : i ∈ ph;·rw [Z2h hip (by omega)] at h0; cases h0
    ·rw [Z25 false hip,hall i hil hip] at h0; cases h0
   ·simp only [Classical.not_forall] at hall;obtain ⟨j, hj, hjp, hju⟩ := hall;have hju' : listed.getD j false = false := by simpa using hju
    have hnr:=Zde hB hc hun hj hjp hju';rw [show f + 1 + ph.length=(f + ph.length) + 1 by omega];refine ⟨fun h0=>absurd h0 (Z5f hback hs j hj hju'),fun i hi=>?_⟩;have hip:i ∉ ph:=fun hp=>hnr i hp hi;obtain ⟨h0,o,ho,hae⟩:=mem_ready.1 hi;have hi':i∈Region.ready md ops (Z0e ph listed):=mem_ready.2 ⟨by rw [Z25 true hip]; exact h0,o,ho,fun e he hb=>Z1u (hae e he hb)⟩;refine wpOp_mono (fun a' w' h'=>?_) (Zdt (h.2 i hi'));refine ih _ a' w' (by simpa using hs) (hc.set hi) (fun t ht=>?_) (by rw [Z9s]; exact h');rw [getD_set_ne false (by rintro rfl; exact hip ht)]
    exact hun t ht
def Z2b (P:Program) (ops:Array Oper) (Q:Exit→Act→World→Prop) (S:World→Prop):List (Bool×Oper)→Act→World→Prop
 | [],a,w=>Q .normal a w
 | (true,o) :: r,a,w=>∃ v,YieldsIf P ops S o v a∧Z2b P ops Q S r (a.put o.dst v) w
 | (false,o) :: r,a,w=>if Region.wanted o (yielded ops a.tmps)=true then o.wp P a w (fun a' w'=>S w'∧Z2b P ops Q S r a' w') Q else Z2b P ops Q S r (a.put o.dst undef) w
def Za1 (md:Region.Mode) (ops:Array Oper):List (Bool×Nat)→Array Bool→Bool
 | [],listed=>(Region.ready md ops listed).isEmpty
 | (true,i) :: r,listed=>(Region.ready md ops listed).contains i && Region.free md ops listed i && Za1 md ops r (listed.setIfInBounds i true)
 | (false,i) :: r,listed=>decide (Region.ready md ops listed=[i]) && Za1 md ops r (listed.setIfInBounds i true)
def Zc (ops:Array Oper) (l:List (Bool×Nat)):List (Bool×Oper):=l.filterMap fun x=>(ops[x.2]?).map fun o=>(x.1,o)
theorem Z2p {Q:Exit→Act→World→Prop} {S:World→Prop} (hsel:Region.noSelect ops=true) (hQ:∀ c a d v w,Q (.panic c) (Act.put a d v) w→Q (.panic c) a w) :
 ∀ (l:List (Bool×Nat)) (listed:Array Bool) (a:Act) (w:World),Za1 md ops l listed=true→S w→Z2b P ops Q S (Zc ops l) a w→wpAnyH P md ops Q S l.length listed a w
 | [],listed,a,w,hB,_,h=>⟨by simpa [Za1] using hB,h⟩
 | (true, i) :: l, listed, a, w, hB, hS, h => by
   simp only [Za1,Bool.and_eq_true] at hB;obtain ⟨⟨hr,hf⟩,hB'⟩:=hB;obtain ⟨_,o,ho,_⟩:=mem_ready.1 (show i∈Region.ready md ops listed by simpa using hr);have e:Zc ops ((true,i) :: l)=(true,o) :: Zc ops l:=by simp [Zc,ho]
   rw [e] at h;obtain ⟨v,hy,h'⟩:=h;exact wpAnyH_take ho hsel hf hr (fun c a w=>hQ c a _ _ w) hy hS (Z2p hsel hQ l _ _ w hB' hS h')
 | (false, i) :: l, listed, a, w, hB, hS, h => by
   simp only [Za1,Bool.and_eq_true,decide_eq_true_eq] at hB;obtain ⟨hr,hB'⟩:=hB;obtain ⟨_,o,ho,_⟩:=mem_ready.1 (show i∈Region.ready md ops listed by rw [hr]; simp);have e:Zc ops ((false,i) :: l)=(false,o) :: Zc ops l:=by simp [Zc,ho]
   rw [e] at h;refine wpAnyH_all hr (by simp) fun k hk=>?_;have hki:k=i:=by simpa using hk
   subst hki;unfold wpOp;simp only [ho];unfold Z2b at h;split at h
   ·rename_i hw;rw [if_pos hw];exact .inl (Oper.wp_mono (fun a' w' h'=>⟨h'.1,Z2p hsel hQ l _ a' w' hB' h'.1 h'.2⟩) h)
   ·rename_i hw;rw [if_neg hw];exact ⟨hS,Z2p hsel hQ l _ _ w hB' hS h⟩
theorem Z3 {Q:Exit→Act→World→Prop} {S:World→Prop} {o:Oper} {r:List (Bool×Oper)} {a:Act} {w:World} (v:Value)
 (hw:Region.wanted o (yielded ops a.tmps)=true) (hy:∀ w',S w'→(execOp a.eval o).run P w'=.ok (.value v) w') (h:Z2b P ops Q S r (a.put o.dst v) w):Z2b P ops Q S ((true,o) :: r) a w:=
 ⟨v,.inl ⟨hw,hy⟩,h⟩
theorem Z4 {Q:Exit→Act→World→Prop} {S:World→Prop} {o:Oper} {r:List (Bool×Oper)} {a:Act} {w:World}
 (hw:Region.wanted o (yielded ops a.tmps)=false) (h:Z2b P ops Q S r (a.put o.dst undef) w):Z2b P ops Q S ((true,o) :: r) a w:=
 ⟨undef,.inr ⟨hw,rfl⟩,h⟩
theorem Z5 {Q:Exit→Act→World→Prop} {S:World→Prop} {o:Oper} {r:List (Bool×Oper)} {a:Act} {w:World}
 (h:∀ K:Act→World→Prop,(∀ a' w',S w'→Z2b P ops Q S r a' w'→K a' w')→if Region.wanted o (yielded ops a.tmps)=true then o.wp P a w K Q else K (a.put o.dst undef) w) :
 Z2b P ops Q S ((false,o) :: r) a w:=by
 unfold Z2b;by_cases hw:Region.wanted o (yielded ops a.tmps)=true
 ·rw [if_pos hw];have:=h (fun a' w'=>S w'∧Z2b P ops Q S r a' w') (fun _ _ h1 h2=>⟨h1,h2⟩);rwa [if_pos hw] at this
 ·rw [if_neg hw];have:=h (fun a' w'=>S w'∧Z2b P ops Q S r a' w') (fun _ _ h1 h2=>⟨h1,h2⟩);rw [if_neg hw] at this;exact this.2
theorem Z6 {Q:Exit→Act→World→Prop} {S:World→Prop} {a:Act} {w:World} {l:List Oper} (h:wpList P ops Q l a w):Z2b P ops (Ends (wpList P ops Q l) Q) S [] a w:=h
def allB (md:Region.Mode) (ops:Array Oper) (plan:List (Bool×Nat)) (ph:List Nat):Bool:=
 Region.noSelect ops && Z28 md ops ph && Z9i md ops ph (((List.range ops.size).map fun j=>!ph.contains j).toArray) && Za1 md ops plan (Z0e ph (Array.replicate ops.size false)) && decide (plan.length + ph.length=ops.size)
theorem Z1 {Q:Exit→Act→World→Prop} {id:Nat} {l:List Oper} {a:Act} {w:World} (plan:List (Bool×Nat)) (ph:List Nat) (S:World→Prop) (hm:P.follows .mixedOrders=true)
 (hB:allB .any l.toArray plan ph=true) (hQ:∀ c a d v w,Q (.panic c) (Act.put a d v) w→Q (.panic c) a w) (hS:S w.drew)
 (h:S w.drew→Z2b P l.toArray (Ends (wpList P l.toArray Q (ph.filterMap (l.toArray[·]?))) Q) S (Zc l.toArray plan) a w.drew):(Code.region id l.toArray true).wp P Q a w:=by
 simp only [allB,Bool.and_eq_true,decide_eq_true_eq] at hB;obtain ⟨⟨⟨⟨hsel,hph⟩,hseq⟩,hplan⟩,hlen⟩:=hB;refine wp_region_any hm ?_;have hin:∀ t∈ph,t < l.toArray.size:=by
  cases ph with
  | nil=>simp [Z28] at hph
  | cons t r =>
    simp only [Z28,Bool.and_eq_true] at hph;intro u hu;simpa using List.all_eq_true.1 hph.1.1.2 u hu
 have H:=Z2p (P:=P) (md:=.any) (Q:=Ends (wpList P l.toArray Q (ph.filterMap (l.toArray[·]?))) Q) hsel hQ plan _ a w.drew hplan hS (h hS);have key:=Z5z (Q:=Q) hph (fun m hs hm'=>?_) plan.length (Array.replicate l.toArray.size false) a w.drew (by simp) ?_ ?_ (wpAny_of_held _ _ _ _ H);·rw [hlen] at key; exact key
 ·have:m=((List.range l.toArray.size).map fun j=>!ph.contains j).toArray:=by
   apply Array.ext;·simp only [hs,List.size_toArray,List.length_map,List.length_range]
   ·intro j h1 h2;have:=hm' j (by omega);simp only [List.getElem_toArray,List.getElem_map,List.getElem_range];rw [← this];simp [h1]
  rw [this]; exact hseq
 ·intro j o _ hl;rw [Z3t] at hl;cases hl
 ·intro t _;exact Z3t _ _
end
end Go.Proofs.YtedopiahfejdfaaGreatDoor
namespace Go.Proofs.YtedopiahfejdfaaGreatDoor
open Go Go.RowKit
set_option maxRecDepth 100000
set_option maxHeartbeats 20000000
def Z0r (a b:ByteArray):Bool:=decide (a=b)
theorem Z6h {a b:ByteArray}:Z0r a b=true↔a=b:=by simp [Z0r]
theorem Z34 {a b:ByteArray} (h:a.toList=b.toList):a=b:=by
 obtain ⟨⟨a⟩⟩:=a; obtain ⟨⟨b⟩⟩:=b;simpa [ByteArray.toList_eq] using h
theorem Z5c (a b:ByteArray):(a.toList == b.toList)=Z0r a b:=by
 unfold Z0r;by_cases h:a=b;·simp [h]
 ·simp only [h,decide_false,beq_eq_false_iff_ne,ne_eq];exact fun e=>h (Z34 e)
theorem getElem?_flatMap {α β:Type} (f:α→List β) (m:Nat) (hf:∀ a,(f a).length=m) (l:List α) (i j:Nat) (hj:j < m) :
 (l.flatMap f)[i * m + j]?=(l[i]?).bind fun a=>(f a)[j]?:=by
 induction l generalizing i with
 | nil=>simp
 | cons a l ih =>
   rw [List.flatMap_cons];cases i with
   | zero=>rw [List.getElem?_append_left (by rw [hf]; omega)]; simp
   | succ i =>
     rw [List.getElem?_append_right (by rw [hf,Nat.succ_mul]; omega),hf,show (i + 1) * m + j - m=i * m + j by rw [Nat.succ_mul]; omega,ih];simp
theorem Zej {w:World} {base:Nat} {e:TypeId} {m:Nat} {v:Value} {n:Nat} {α:Type} {f:α→List Value} {l:List α} (hf:∀ a,(f a).length=m)
 (h:w.ownsRow base e m v n (l.flatMap f)) {g:Nat} (hg:v.ownBlock=some g) {i j:Nat} {a:α} {x:Value} (hi:l[i]?=some a) (hj:(f a)[j]?=some x) :
 w.cell? ⟨g,i * m + j,none⟩=some x:=by
 have hjm:j < m:=by rw [← hf a]; exact (List.getElem?_eq_some_iff.1 hj).1
 have:=h.cells hg (i * m + j) x (by rw [getElem?_flatMap f m hf l i j hjm,hi]; exact hj);rwa [show ((⟨g,0,none⟩:Addr).add (i * m + j))=⟨g,i * m + j,none⟩ by unfold Addr.add; split <;> simp_all] at this
theorem Ze {w w':World} {base:Nat} {e:TypeId} {m:Nat} {v:Value} {n:Nat} {xs:List Value} (h:w.ownsRow base e m v n xs)
 (hb:∀ g,v.ownBlock=some g→w'.heap[g]?=w.heap[g]?):w'.ownsRow base e m v n xs:=by
 refine ⟨h.1,?_⟩;rcases h.2 with hn | ⟨g,cap,cur,rfl,hbg,hgg,rest⟩;·exact .inl hn
 ·exact .inr ⟨g,cap,cur,rfl,hbg,by rw [hb g rfl]; exact hgg,rest⟩
theorem Z8 {w:World} {base:Nat} {e:TypeId} {m:Nat} {v:Value} {n:Nat} {xs:List Value} (h:w.ownsRow base e m v n xs) :
 (v=.slice none 0 0∧n=0)∨∃ g cap,v=.slice (some ⟨g,0,none⟩) n cap∧n≤cap∧cap≤maxLen∧g < w.heap.size:=by
 rcases h.2 with hn | ⟨g,cap,cur,rfl,_,hgg,h1,h2,_⟩;·exact .inl hn
 ·exact .inr ⟨g,cap,rfl,h1,h2,(Array.getElem?_eq_some_iff.1 hgg).1⟩
theorem Zd {w:World} {o:Obj} {p:Addr} (h:p.block < w.heap.size):(w.alloc o).cell? p=w.cell? p:=((Below.refl w.heap.size w).alloc (Nat.le_refl _) o).cell h
theorem Z0b {w:World} {o:Obj} {p:Addr} (h:p.block < w.heap.size):(w.alloc o).frozen? p=w.frozen? p:=((Below.refl w.heap.size w).alloc (Nat.le_refl _) o).frozen h
end Go.Proofs.YtedopiahfejdfaaGreatDoor
namespace Go.Proofs.YtedopiahfejdfaaGreatDoor
open Go Go.RowKit
set_option maxRecDepth 100000
set_option maxHeartbeats 20000000
theorem Zm {w:World} {b o:Nat} {c:Array Value} {T:TypeId} {mk:Nat×Nat} (v:Value) (h:w.heap[b]?=some (.cells c T mk)) :
 (w.setCell ⟨b,o,none⟩ v).heap[b]?=some (.cells (c.setIfInBounds o v) T mk):=by
 simp [World.setCell,Array.getElem?_modify,h]
end Go.Proofs.YtedopiahfejdfaaGreatDoor
namespace Go.Proofs.YtedopiahfejdfaaGreatDoor
open Go Go.RowKit
set_option maxRecDepth 100000
set_option maxHeartbeats 20000000
structure ScanAt (w0 w:World) (sb:Nat) (text:ByteArray) (at':Nat):Prop where
 blk:w.heap[sb]?=some (.cells #[.string text,.int .i64 at'] 76 (0,0))
 os:w.os=w0.os
 tape:w.tape=w0.tape
 output:w.output=w0.output
 size:w0.heap.size≤w.heap.size
 block:∀ k,k < w0.heap.size→k≠sb→w.heap[k]?=w0.heap[k]?
variable {w0 w w':World} {sb:Nat} {text:ByteArray} {a b:Nat}
theorem ScanAt.refl (h:w.heap[sb]?=some (.cells #[.string text,.int .i64 a] 76 (0,0))):ScanAt w w sb text a:=⟨h,rfl,rfl,rfl,Nat.le_refl _,fun _ _ _=>rfl⟩
theorem ScanAt.trans (h:ScanAt w0 w sb text a) (g:ScanAt w w' sb text b):ScanAt w0 w' sb text b:=
 ⟨g.blk,g.os.trans h.os,g.tape.trans h.tape,g.output.trans h.output,Nat.le_trans h.size g.size,fun k hk hn=>(g.block k (Nat.lt_of_lt_of_le hk h.size) hn).trans (h.block k hk hn)⟩
theorem ScanAt.drew (h:ScanAt w0 w sb text a):ScanAt w0 w.drew sb text a:=⟨h.blk,h.os,h.tape,h.output,h.size,h.block⟩
theorem ScanAt.lt (h:ScanAt w0 w sb text a):sb < w.heap.size:=(Array.getElem?_eq_some_iff.1 h.blk).1
theorem ScanAt.below (h:ScanAt w0 w sb text a) (hB:Below w.heap.size w w'):ScanAt w0 w' sb text a:=
 ⟨(hB.block sb h.lt).trans h.blk,hB.os.trans h.os,hB.tape.trans h.tape,hB.output.trans h.output,Nat.le_trans h.size hB.size,fun k hk hn=>(hB.block k (Nat.lt_of_lt_of_le hk h.size)).trans (h.block k hk hn)⟩
theorem ScanAt.c0 (h:ScanAt w0 w sb text a):w.cell? ⟨sb,0,none⟩=some (.string text):=by simp [World.cell?,h.blk]
theorem ScanAt.c1 (h:ScanAt w0 w sb text a):w.cell? ⟨sb,1,none⟩=some (.int .i64 a):=by simp [World.cell?,h.blk]
theorem ScanAt.fz (h:ScanAt w0 w sb text a) (o:Nat):w.frozen? ⟨sb,o,none⟩=false:=by simp [World.frozen?,h.blk]
theorem ScanAt.set (h:ScanAt w0 w sb text a) (b:Nat):ScanAt w0 (w.setCell ⟨sb,1,none⟩ (.int .i64 b)) sb text b:=
 ⟨Zm _ h.blk,h.os,h.tape,h.output,by simpa using h.size,fun k hk hn=>(Below.heap_setCell _ _ _ _ hn).trans (h.block k hk hn)⟩
def Z2 (text:ByteArray) (i:Nat):Int:=((text.data.getD i 0).toNat:Int)
def Z9 (p:Int→Bool) (text:ByteArray):Nat→Nat→Nat
 | 0,i=>i
 | f + 1,i=>if i < text.size && p (Z2 text i) then Z9 p text f (i + 1) else i
theorem Z2d {i:Nat} (h:i < text.size):Z2 text i=((text[i]'h).toNat:Int):=by
 unfold Z2;have:i < text.data.size:=h;simp only [Array.getD,dif_pos this];rfl
theorem Z94 {p:Int→Bool} {j:Nat} (h:j < text.size) (hp:p (Z2 text j)=true):Z9 p text (text.size - j) j=Z9 p text (text.size - (j + 1)) (j + 1):=by
 obtain ⟨f,hf⟩:∃ f,text.size - j=f + 1:=⟨text.size - j - 1,by omega⟩
 rw [hf,show text.size - (j + 1)=f by omega];simp [Z9,h,hp]
theorem Z5p {p:Int→Bool} {j:Nat} (hp:¬ j < text.size∨p (Z2 text j)=false):Z9 p text (text.size - j) j=j:=by
 cases hf:text.size - j with
 | zero=>rfl
 | succ f =>
   rcases hp with h | h;·omega
   ·simp [Z9,h]
theorem Z9x {fv:Value} {p:Int→Bool} (hfp:(fv=.func (.func 39) #[] #[]∧p=Zn)∨(fv=.func (.func 40) #[] #[]∧p=Z1g)∨(fv=.func (.func 41) #[] #[]∧p=Z09)) (h:w.heap[sb]?=some (.cells #[.string text,.int .i64 a] 76 (0,0))) (ha:a≤text.size) (hm:text.size≤1000000) :
 Calls Tryz.prog 38 #[.pointer (some ⟨sb,0,none⟩),fv] w fun e w'=>∃ b,b=Z9 p text (text.size - a) a∧a≤b∧b≤text.size∧e=.returned (.string (text.extract a b))∧ScanAt w w' sb text b:=by
 rcases hfp with ⟨rfl,rfl⟩ | ⟨rfl,rfl⟩ | ⟨rfl,rfl⟩;have HL:=Lib.hid (fun w c=>Zd5 w c);obtain ⟨P,hP⟩:∃ P,P=Zn:=⟨_,rfl⟩
 rw [← hP] at HL ⊢;clear hP;rotate_left
 have HL:=Lib.hid (fun w c=>Ze6 w c);obtain ⟨P,hP⟩:∃ P,P=Z1g:=⟨_,rfl⟩
 rw [← hP] at HL ⊢;clear hP;rotate_left
 have HL:=Lib.hid (fun w c=>Z6j w c);obtain ⟨P,hP⟩:∃ P,P=Z09:=⟨_,rfl⟩
 rw [← hP] at HL ⊢;clear hP;rotate_left
 all_goals
  have S0:=Lib.hid (ScanAt.refl h);have c0:=S0.out.c0;have c1:=S0.out.c1;clear h;go_enter Tryz.func38,Tryz.ntmps38
  go_wp2;go_loopw [] (fun wr=>∃ j:Nat,a≤j∧j≤text.size∧Z9 P text (text.size - j) j=Z9 P text (text.size - a) a∧ScanAt w wr sb text j) (fun wr=>text.size - (intOf ((wr.cell? ⟨sb,1,none⟩).getD .nilIface)).toNat)
  case atStart=>exact ⟨a,Nat.le_refl _,ha,rfl,S0.out⟩
  case round=>
   obtain ⟨j,hj1,hj2,hsp,hS⟩:=hrel;have q0:=hS.c0;have q1:=hS.c1;have SJ:=Lib.hid hS;have HSP:=Lib.hid hsp;clear hS hsp c0 c1;by_cases hlt:j < text.size
   ·obtain ⟨B, hB⟩ : ∃ B, B = P (Z2 text j) := ⟨_, rfl⟩
    have HB:=Lib.hid hB;have HC:=HL.out wr.drew (Z2 text j);rw [← hB,Z2d hlt] at HC;have HC:=Lib.hid HC;clear hB;cases B
    all_goals
     go_wp2_with fail
     refine Z1 [(true,0),(true,1),(true,2),(true,3),(true,4),(true,5),(true,6),(true,7),(true,8),(true,9),(true,10),(true,11),(true,12),(true,13),(true,14),(true,15),(true,16),(true,17),(true,18),(true,19),(true,20)] [21,22] (fun W=>W.cell? ⟨sb,0,none⟩=some (.string text)∧W.cell? ⟨sb,1,none⟩=some (.int .i64 j)) (by kernel_rfl) (by kernel_rfl) (fun _ _ d _ _ h=>by cases d <;> exact h) ⟨q0,q1⟩ (fun hS0=>?_)
     simp only [Zc,List.filterMap_cons,List.filterMap_nil,List.getElem?_toArray,List.getElem?_cons_zero,List.getElem?_cons_succ,Option.map_some]
     iterate 21
      first
       | (refine Z3 ?_ (by rfl) (fun w' hS'=>?_) ?_; rotate_left; (obtain ⟨s0,s1⟩:=hS'; go_simp; first | done | with_reducible rfl); simp only [Act.put,List.setIfInBounds_toArray,List.set_cons_zero,List.set_cons_succ])
       | (refine Z4 (by rfl) ?_; simp only [Act.put,List.setIfInBounds_toArray,List.set_cons_zero,List.set_cons_succ])
     refine Z6 ?_;go_wp2_with fail
     refine HC.out.mono ?_;rintro e w1 ⟨rfl,rfl⟩
    ·go_wp2_with fail
     refine Z1 [(true,0),(true,1),(true,2),(true,3),(true,4),(true,5),(true,6),(true,7),(true,8)] [9,10] (fun W=>W.cell? ⟨sb,0,none⟩=some (.string text)∧W.cell? ⟨sb,1,none⟩=some (.int .i64 j)) (by kernel_rfl) (by kernel_rfl) (fun _ _ d _ _ h=>by cases d <;> exact h) ⟨q0,q1⟩ (fun hS0=>?_);simp only [Zc,List.filterMap_cons,List.filterMap_nil,List.getElem?_toArray,List.getElem?_cons_zero,List.getElem?_cons_succ,Option.map_some]
     iterate 9
      first
       | (refine Z3 ?_ (by rfl) (fun w' hS'=>?_) ?_; rotate_left; (obtain ⟨s0,s1⟩:=hS'; go_simp; first | done | with_reducible rfl); simp only [Act.put,List.setIfInBounds_toArray,List.set_cons_zero,List.set_cons_succ])
       | (refine Z4 (by rfl) ?_; simp only [Act.put,List.setIfInBounds_toArray,List.set_cons_zero,List.set_cons_succ])
     refine Z6 ?_;go_wp2;go_ret;exact ⟨j,by rw [← HSP.out]; exact (Z5p (.inr HB.out.symm)).symm,hj1,hj2,rfl,SJ.out.drew.drew⟩
    ·have z1 := SJ.out.fz 1;go_wp2;go_roundw
     case rel=>exact ⟨j + 1,by omega,by omega,by rw [← Z94 hlt HB.out.symm]; exact HSP.out,SJ.out.drew.set (j + 1)⟩
     case measure=>
      have e1:(wr.setCell ⟨sb,1,none⟩ (.int .i64 ((j:Int) + 1))).cell? ⟨sb,1,none⟩=some (.int .i64 ((j:Int) + 1)):=(SJ.out.set (j + 1)).c1;have e2:=SJ.out.c1;rw [World.cell?_drew,e1,e2];simp [intOf];omega
   ·go_wp2_with fail
    refine Z1 [(true,0),(true,1),(true,2),(true,3),(true,4),(true,5),(true,6),(true,7),(true,8),(true,9),(true,10),(true,11),(true,12),(true,13),(true,14),(true,15),(true,16),(true,17),(true,18),(true,19),(true,20)] [21,22] (fun W=>W.cell? ⟨sb,0,none⟩=some (.string text)∧W.cell? ⟨sb,1,none⟩=some (.int .i64 j)) (by kernel_rfl) (by kernel_rfl) (fun _ _ d _ _ h=>by cases d <;> exact h) ⟨q0,q1⟩ (fun hS0=>?_)
    simp only [Zc,List.filterMap_cons,List.filterMap_nil,List.getElem?_toArray,List.getElem?_cons_zero,List.getElem?_cons_succ,Option.map_some]
    iterate 21
     first
      | (refine Z3 ?_ (by rfl) (fun w' hS'=>?_) ?_; rotate_left; (obtain ⟨s0,s1⟩:=hS'; go_simp; first | done | with_reducible rfl); simp only [Act.put,List.setIfInBounds_toArray,List.set_cons_zero,List.set_cons_succ])
      | (refine Z4 (by rfl) ?_; simp only [Act.put,List.setIfInBounds_toArray,List.set_cons_zero,List.set_cons_succ])
    refine Z6 ?_;go_wp2_with fail
    refine Z1 [(true,0),(true,1),(true,2),(true,3),(true,4),(true,5),(true,6),(true,7),(true,8)] [9,10] (fun W=>W.cell? ⟨sb,0,none⟩=some (.string text)∧W.cell? ⟨sb,1,none⟩=some (.int .i64 j)) (by kernel_rfl) (by kernel_rfl) (fun _ _ d _ _ h=>by cases d <;> exact h) ⟨q0,q1⟩ (fun hS0=>?_);simp only [Zc,List.filterMap_cons,List.filterMap_nil,List.getElem?_toArray,List.getElem?_cons_zero,List.getElem?_cons_succ,Option.map_some]
    iterate 9
     first
      | (refine Z3 ?_ (by rfl) (fun w' hS'=>?_) ?_; rotate_left; (obtain ⟨s0,s1⟩:=hS'; go_simp; first | done | with_reducible rfl); simp only [Act.put,List.setIfInBounds_toArray,List.set_cons_zero,List.set_cons_succ])
      | (refine Z4 (by rfl) ?_; simp only [Act.put,List.setIfInBounds_toArray,List.set_cons_zero,List.set_cons_succ])
    refine Z6 ?_;go_wp2;go_ret;exact ⟨j,by rw [← HSP.out]; exact (Z5p (.inl hlt)).symm,hj1,hj2,rfl,SJ.out.drew.drew⟩
theorem Zcj (h:w.heap[sb]?=some (.cells #[.string text,.int .i64 a] 76 (0,0))) (ha:a≤text.size) (hm:text.size≤1000000) :
 Calls Tryz.prog 38 #[.pointer (some ⟨sb,0,none⟩),.func (.func 39) #[] #[]] w fun e w'=>∃ b,b=Z9 Zn text (text.size - a) a∧a≤b∧b≤text.size∧e=.returned (.string (text.extract a b))∧ScanAt w w' sb text b:=Z9x (.inl ⟨rfl,rfl⟩) h ha hm
theorem Ze3 (h:w.heap[sb]?=some (.cells #[.string text,.int .i64 a] 76 (0,0))) (ha:a≤text.size) (hm:text.size≤1000000) :
 Calls Tryz.prog 38 #[.pointer (some ⟨sb,0,none⟩),.func (.func 40) #[] #[]] w fun e w'=>∃ b,b=Z9 Z1g text (text.size - a) a∧a≤b∧b≤text.size∧e=.returned (.string (text.extract a b))∧ScanAt w w' sb text b:=Z9x (.inr (.inl ⟨rfl,rfl⟩)) h ha hm
theorem Zd4 (h:w.heap[sb]?=some (.cells #[.string text,.int .i64 a] 76 (0,0))) (ha:a≤text.size) (hm:text.size≤1000000) :
 Calls Tryz.prog 38 #[.pointer (some ⟨sb,0,none⟩),.func (.func 41) #[] #[]] w fun e w'=>∃ b,b=Z9 Z09 text (text.size - a) a∧a≤b∧b≤text.size∧e=.returned (.string (text.extract a b))∧ScanAt w w' sb text b:=Z9x (.inr (.inr ⟨rfl,rfl⟩)) h ha hm
end Go.Proofs.YtedopiahfejdfaaGreatDoor
namespace Go.Proofs.YtedopiahfejdfaaGreatDoor
open Go Go.RowKit
set_option maxRecDepth 100000
set_option maxHeartbeats 20000000
theorem Tryz.sizeBuilder:(Tryz.prog.info? 121).map (·.size)=some 2:=by kernel_rfl
theorem Tryz.liesBuilder:liesAt Tryz.prog Tryz.prog.depth 121 (2 / Tryz.prog.cellsOf 121) 0 121 1=true:=by kernel_rfl
theorem Z71 (w:World) (b:Nat) (h0:w.cell? ⟨b,0,none⟩=some (.pointer none)) (hsh:w.shape? b=some (121,2)) (hfz:w.frozen? ⟨b,0,none⟩=false) :
 Calls Tryz.prog 98 #[.pointer (some ⟨b,0,none⟩)] w fun e w'=>e=.returned (.tuple #[])∧w'=w.setCell ⟨b,0,none⟩ (.pointer (some ⟨b,0,none⟩)):=by
 obtain ⟨j,hj,hjs⟩:=Option.map_eq_some_iff.1 Tryz.sizeBuilder;go_enter Tryz.func98,Tryz.ntmps98
 go_wp2;rw [Lib.run_to_unsafe w ⟨b,0,none⟩ Tryz.underlying118 Tryz.underlying90 hj (by rw [hjs]; decide) hsh (Nat.zero_lt_succ 1)];simp only [Result.andThen];rw [Oper.upon_value];go_wp2;rw [run_callFunc_extern Tryz.func106 (by kernel_rfl) (by kernel_rfl) (by kernel_rfl) (e:=Extern.AbiNoEscape.same) (by kernel_rfl)];rw [Lib.run_noEscape];simp only [Result.andThen];rw [Oper.upon_value];go_wp2;rw [Lib.run_from_unsafe w ⟨b,0,none⟩ Tryz.underlying90 Tryz.underlying118 hj hsh Tryz.liesBuilder];simp only [Result.andThen];rw [Oper.upon_value];go_wp2;go_end0
 exact ⟨rfl,rfl⟩
theorem Z75 (w:World) (b:Nat) (h0:w.cell? ⟨b,0,none⟩=some (.pointer (some ⟨b,0,none⟩))) :
 Calls Tryz.prog 98 #[.pointer (some ⟨b,0,none⟩)] w fun e w'=>e=.returned (.tuple #[])∧w'=w:=by
 obtain ⟨j,hj,_⟩:=Option.map_eq_some_iff.1 Tryz.sizeBuilder;go_enter Tryz.func98,Tryz.ntmps98
 go_wp2;rw [Lib.run_neq_ptr_same w _ Tryz.underlying118 hj];go_wp2;go_end0
 exact ⟨rfl,rfl⟩
structure BAt (B:Nat) (w:World) (b:Nat) (p v:Value) (bs:List Value):Prop where
 blk:w.heap[b]?=some (.cells #[p,v] 121 (0,0))
 ptr:p=.pointer none∨p=.pointer (some ⟨b,0,none⟩)
 own:w.ownsRow B 5 1 v bs.length bs
 ne:v.ownBlock≠some b
 le:B≤b
theorem Tryz.infoU8:(Tryz.prog.info? 5).map (fun i=>(i.zero,i.size,i.bytes))=some (some (.int .u8 0),1,1):=by kernel_rfl
structure BFr (w w':World) (b:Nat) (v v':Value):Prop where
 os:w'.os=w.os
 tape:w'.tape=w.tape
 output:w'.output=w.output
 size:w.heap.size≤w'.heap.size
 block:∀ k,k < w.heap.size→k≠b→v.ownBlock≠some k→w'.heap[k]?=w.heap[k]?
 row:v'.ownBlock=v.ownBlock∨∃ g,v'.ownBlock=some g∧w.heap.size≤g
theorem Z78 (B:Nat) (w:World) (b:Nat) (v:Value) (bs:List Value) (c:Int) (h:BAt B w b (.pointer (some ⟨b,0,none⟩)) v bs) (hn:bs.length < 1099511627776) :
 Calls Tryz.prog 73 #[.pointer (some ⟨b,0,none⟩),.int .u8 c] w fun e w'=>e=.returned .nilIface∧∃ v',BAt B w' b (.pointer (some ⟨b,0,none⟩)) v' (bs ++ [.int .u8 c])∧BFr w w' b v v':=by
 obtain ⟨i0,hi,hz0,hz1,hz2⟩:=info_parts Tryz.infoU8;have hbl:b < w.heap.size:=(Array.getElem?_eq_some_iff.1 h.blk).1;have h0:w.cell? ⟨b,0,none⟩=some (.pointer (some ⟨b,0,none⟩)):=by simp [World.cell?,h.blk]
 have h1:w.cell? ⟨b,1,none⟩=some v:=by simp [World.cell?,h.blk]
 have hz:w.frozen? ⟨b,1,none⟩=false:=by simp [World.frozen?,h.blk]
 have HC:=Lib.hid (Z75 w b h0);have HO:=Lib.hid h.own;have HB:=Lib.hid h;have hne:=h.ne;have hBb:=h.le;have HNE:=Lib.hid hne;obtain ⟨n,hnn⟩:∃ n,n=bs.length:=⟨_,rfl⟩
 rw [← hnn] at HO hn;have HNN:=Lib.hid hnn;clear h hne hnn h0;have haft:∀ o (w1:World),(w.alloc o).grownBy w1 v.ownBlock→w1.cell? ⟨b,1,none⟩=some v∧w1.frozen? ⟨b,1,none⟩=false:=fun o w1 hg=>
  ⟨(hg.cell_far ⟨b,1,none⟩ (by simp; omega) (fun e=>HNE.out e.symm)).trans ((Zd hbl).trans h1),(hg.frozen_far ⟨b,1,none⟩ (by simp; omega) (fun e=>HNE.out e.symm)).trans ((Z0b hbl).trans hz)⟩
 have HA:=Lib.hid haft;clear haft;go_enter Tryz.func73,Tryz.ntmps73
 go_wp2_with fail
 refine HC.out.mono ?_;rintro e w1 ⟨rfl,rfl⟩
 go_wp2_with (at_builtin; go_must (refine wpList_append_lies _ rfl (.tmp 11) (.tmp 13) 119 rfl B 5 i0 (.int .u8 0) 1 1 Tryz.underlying119 hi hz0 hz1 hz2 rfl (by decide) v n bs rfl (HO.out.alloc _) ⟨w1.heap.size,0,none⟩ 1 1 [.int .u8 c] rfl rfl (fun j u hu=>cell_one_new w1 _ _ j u hu) (by intro u hu; simp at hu; subst hu; rfl) (by first | omega | (simp; omega)) (by unfold maxLen; omega) (by first | omega | (simp; omega)) (by first | omega | (simp; omega)) (w1.heap.size + 1) (by simp) ?_); intro g cap w2 hown2 hgrow2 hat2 hgl2; obtain ⟨hc1,hf1⟩:=HA.out _ _ hgrow2; have HG:=Lib.hid hgrow2; have HW:=Lib.hid hown2; have HT:=Lib.hid hat2; clear hgrow2 hown2 hat2 hgl2)
 go_ret;refine ⟨rfl,.slice (some ⟨g,0,none⟩) (n + 1) cap,?_,?_⟩
 ·have hgb:g≠b:=by
   rcases HT.out with h | h;·exact fun e=>HNE.out (by rw [h,e])
   ·omega
  have hblk:w2.heap[b]?=some (.cells #[.pointer (some ⟨b,0,none⟩),v] 121 (0,0)):=(HG.out.block b (by simp; omega) (fun e=>HNE.out e.symm)).trans ((Below.heap_alloc _ _ _ hbl).trans HB.out.blk);refine ⟨Zm _ hblk,.inr rfl,?_,by simp only [Value.ownBlock,ne_eq,Option.some.injEq]; exact hgb,hBb⟩;rw [List.length_append,← HNN.out];exact Ze HW.out fun g' hg'=>Below.heap_setCell _ _ _ _ (fun e=>hgb (by simp only [Value.ownBlock,Option.some.injEq] at hg'; rw [hg',e]))
 ·refine ⟨HG.out.os, HG.out.tape, HG.out.output, by rw [World.size_setCell]; have := HG.out.size; rw [World.size_alloc] at this; omega, fun k hk hkb hkv => ?_, ?_⟩;·exact (Below.heap_setCell _ _ _ _ hkb).trans ((HG.out.block k (by simp; omega) (fun e => hkv e.symm)).trans (Below.heap_alloc _ _ _ hk))
  ·rcases HT.out with h | h;·exact .inl h.symm
   ·exact .inr ⟨g,rfl,by omega⟩
theorem Z6c (B:Nat) (w:World) (b:Nat) (v:Value) (bs:List Value) (c:Int) (h':BAt B w b (.pointer none) v bs) (hn:bs.length < 1099511627776) :
 Calls Tryz.prog 73 #[.pointer (some ⟨b,0,none⟩),.int .u8 c] w fun e w'=>e=.returned .nilIface∧∃ v',BAt B w' b (.pointer (some ⟨b,0,none⟩)) v' (bs ++ [.int .u8 c])∧BFr w w' b v v':=by
 obtain ⟨i0,hi,hz0,hz1,hz2⟩:=info_parts Tryz.infoU8;have h0:w.cell? ⟨b,0,none⟩=some (.pointer none):=by simp [World.cell?,h'.blk]
 have hz0':w.frozen? ⟨b,0,none⟩=false:=by simp [World.frozen?,h'.blk]
 have HC:=Lib.hid (Z71 w b h0 (by simp [World.shape?,h'.blk]) hz0');have h:BAt B (w.setCell ⟨b,0,none⟩ (.pointer (some ⟨b,0,none⟩))) b (.pointer (some ⟨b,0,none⟩)) v bs:=
  ⟨Zm _ h'.blk,.inr rfl,Ze h'.own fun g hg=>Below.heap_setCell _ _ _ _ (fun e=>h'.ne (by rw [hg]; exact congrArg some e)),h'.ne,h'.le⟩
 have HS:∀ k,k≠b→(w.setCell ⟨b,0,none⟩ (.pointer (some ⟨b,0,none⟩))).heap[k]?=w.heap[k]?:=fun k hk=>Below.heap_setCell _ _ _ _ hk;have HS:=Lib.hid HS;have hsz:(w.setCell ⟨b,0,none⟩ (.pointer (some ⟨b,0,none⟩))).heap.size=w.heap.size:=World.size_setCell ..;have HZ:=Lib.hid hsz;have hos:(w.setCell ⟨b,0,none⟩ (.pointer (some ⟨b,0,none⟩))).os=w.os∧(w.setCell ⟨b,0,none⟩ (.pointer (some ⟨b,0,none⟩))).tape=w.tape∧(w.setCell ⟨b,0,none⟩ (.pointer (some ⟨b,0,none⟩))).output=w.output:=⟨rfl,rfl,rfl⟩
 have HOS:=Lib.hid hos;clear h' h0 hz0' hsz hos;obtain ⟨w1,hw1⟩:∃ W,W=w.setCell ⟨b,0,none⟩ (.pointer (some ⟨b,0,none⟩)):=⟨_,rfl⟩
 rw [← hw1] at HC h HS HZ HOS;have hbl:b < w1.heap.size:=(Array.getElem?_eq_some_iff.1 h.blk).1;have h1:w1.cell? ⟨b,1,none⟩=some v:=by simp [World.cell?,h.blk]
 have hz:w1.frozen? ⟨b,1,none⟩=false:=by simp [World.frozen?,h.blk]
 have HO:=Lib.hid h.own;have HB:=Lib.hid h;have hne:=h.ne;have hBb:=h.le;have HNE:=Lib.hid hne;obtain ⟨n,hnn⟩:∃ n,n=bs.length:=⟨_,rfl⟩
 rw [← hnn] at HO hn;have HNN:=Lib.hid hnn;clear h hne hnn hw1;have haft:∀ o (w2:World),(w1.alloc o).grownBy w2 v.ownBlock→w2.cell? ⟨b,1,none⟩=some v∧w2.frozen? ⟨b,1,none⟩=false:=fun o w2 hg=>
  ⟨(hg.cell_far ⟨b,1,none⟩ (by simp; omega) (fun e=>HNE.out e.symm)).trans ((Zd hbl).trans h1),(hg.frozen_far ⟨b,1,none⟩ (by simp; omega) (fun e=>HNE.out e.symm)).trans ((Z0b hbl).trans hz)⟩
 have HA:=Lib.hid haft;clear haft;go_enter Tryz.func73,Tryz.ntmps73
 go_wp2_with fail
 refine HC.out.mono ?_;rintro e w1' ⟨rfl,hw⟩;rw [hw];clear hw w1'
 go_wp2_with (at_builtin; go_must (refine wpList_append_lies _ rfl (.tmp 11) (.tmp 13) 119 rfl B 5 i0 (.int .u8 0) 1 1 Tryz.underlying119 hi hz0 hz1 hz2 rfl (by decide) v n bs rfl (HO.out.alloc _) ⟨w1.heap.size,0,none⟩ 1 1 [.int .u8 c] rfl rfl (fun j u hu=>cell_one_new w1 _ _ j u hu) (by intro u hu; simp at hu; subst hu; rfl) (by first | omega | (simp; omega)) (by unfold maxLen; omega) (by first | omega | (simp; omega)) (by first | omega | (simp; omega)) (w1.heap.size + 1) (by simp) ?_); intro g cap w2 hown2 hgrow2 hat2 hgl2; obtain ⟨hc1,hf1⟩:=HA.out _ _ hgrow2; have HG:=Lib.hid hgrow2; have HW:=Lib.hid hown2; have HT:=Lib.hid hat2; clear hgrow2 hown2 hat2 hgl2)
 go_ret;refine ⟨rfl,.slice (some ⟨g,0,none⟩) (n + 1) cap,?_,?_⟩
 ·have hgb:g≠b:=by
   rcases HT.out with h | h;·exact fun e=>HNE.out (by rw [h,e])
   ·omega
  have hblk:w2.heap[b]?=some (.cells #[.pointer (some ⟨b,0,none⟩),v] 121 (0,0)):=(HG.out.block b (by simp; omega) (fun e=>HNE.out e.symm)).trans ((Below.heap_alloc _ _ _ hbl).trans HB.out.blk);refine ⟨Zm _ hblk,.inr rfl,?_,by simp only [Value.ownBlock,ne_eq,Option.some.injEq]; exact hgb,hBb⟩;rw [List.length_append,← HNN.out];exact Ze HW.out fun g' hg'=>Below.heap_setCell _ _ _ _ (fun e=>hgb (by simp only [Value.ownBlock,Option.some.injEq] at hg'; rw [hg',e]))
 ·refine ⟨HG.out.os.trans HOS.out.1, HG.out.tape.trans HOS.out.2.1, HG.out.output.trans HOS.out.2.2, by rw [World.size_setCell]; have := HG.out.size; rw [World.size_alloc, HZ.out] at this; omega, fun k hk hkb hkv => ?_, ?_⟩;·exact (Below.heap_setCell _ _ _ _ hkb).trans ((HG.out.block k (by simp; have := HZ.out; omega) (fun e => hkv e.symm)).trans ((Below.heap_alloc _ _ _ (by have := HZ.out; omega)).trans (HS.out k hkb)))
  ·rcases HT.out with h | h;·exact .inl h.symm
   ·exact .inr ⟨g,rfl,by have:=HZ.out; omega⟩
end Go.Proofs.YtedopiahfejdfaaGreatDoor
namespace Go.Proofs
open Go.Shelf
def Tryz.lays170_ren:Go.Shelf.Ren:=⟨fun | 170=>71 | n=>n,fun | 70=>118 | 3=>3 | 0=>0 | 72=>121 | 37=>119 | 5=>5 | n=>n,fun | n=>n⟩
theorem Tryz.lays170:Go.Proofs.Lays.n170 Tryz.prog Tryz.lays170_ren:={
 mixed:=by kernel_rfl
 f170:=Tryz.func71.trans (congrArg some (by kernel_rfl))
 t0:=Tryz.underlying0
 a0:=Tryz.isAgg0
 z0:=Tryz.sizeOf0
 v0:=Tryz.zeroValue0
 t3:=Tryz.underlying3
 a3:=Tryz.isAgg3
 z3:=Tryz.sizeOf3
 v3:=Tryz.zeroValue3
 t37:=Tryz.underlying119
 a37:=Tryz.isAgg119
 z37:=Tryz.sizeOf119
 v37:=Tryz.zeroValue119
 t70:=Tryz.underlying118
 a70:=Tryz.isAgg118
 z70:=Tryz.sizeOf118
 v70:=Tryz.zeroValue118
 t72:=Tryz.underlying121
 a72:=Tryz.isAgg121
 z72:=Tryz.sizeOf121
 v72:=Tryz.zeroValue121 }
open Go.RowKit in
theorem Tryz.Builder_Len (B b:Nat) (bs:List Value) (w:World) (h:Lib.IsBuilder 121 5 B b bs w) :
 Calls Tryz.prog 71 #[.pointer (some ⟨b,0,none⟩)] w fun e w'=>e=.returned (.int .i64 bs.length)∧w'=w:=Any.Builder_Len Tryz.lays170 B b bs w h
def Tryz.lays169_ren:Go.Shelf.Ren:=⟨fun | 169=>72 | n=>n,fun | 70=>118 | 9=>9 | 0=>0 | 72=>121 | 37=>119 | 127=>150 | 3=>3 | 5=>5 | n=>n,fun | n=>n⟩
theorem Tryz.lays169:Go.Proofs.Lays.n169 Tryz.prog Tryz.lays169_ren:={
 mixed:=by kernel_rfl
 f169:=Tryz.func72.trans (congrArg some (by kernel_rfl))
 t0:=Tryz.underlying0
 a0:=Tryz.isAgg0
 z0:=Tryz.sizeOf0
 v0:=Tryz.zeroValue0
 t3:=Tryz.underlying3
 a3:=Tryz.isAgg3
 z3:=Tryz.sizeOf3
 v3:=Tryz.zeroValue3
 t9:=Tryz.underlying9
 a9:=Tryz.isAgg9
 z9:=Tryz.sizeOf9
 v9:=Tryz.zeroValue9
 t37:=Tryz.underlying119
 a37:=Tryz.isAgg119
 z37:=Tryz.sizeOf119
 v37:=Tryz.zeroValue119
 t70:=Tryz.underlying118
 a70:=Tryz.isAgg118
 z70:=Tryz.sizeOf118
 v70:=Tryz.zeroValue118
 t72:=Tryz.underlying121
 a72:=Tryz.isAgg121
 z72:=Tryz.sizeOf121
 v72:=Tryz.zeroValue121
 t127:=Tryz.underlying150
 a127:=Tryz.isAgg150
 z127:=Tryz.sizeOf150
 v127:=Tryz.zeroValue150 }
theorem Tryz.Builder_Extra_169:Builder.Extra Tryz.prog Tryz.lays169_ren:={
 sizeBuilder:=by kernel_rfl
 liesBuilder:=by kernel_rfl
 t5:=Tryz.underlying5
 a5:=Tryz.isAgg5
 z5:=Tryz.sizeOf5
 v5:=Tryz.zeroValue5
 infoByte:=by kernel_rfl
 cellsByte:=by kernel_rfl
 sizeByte:=by kernel_rfl
 neB5:=by decide }
open Go.RowKit in
theorem Tryz.Builder_String_any (B b:Nat) (l:List UInt8) (w:World) (h:Lib.IsBuilder 121 5 B b (Lib.byteCells l) w) (hBw:B≤w.heap.size) :
 Calls Tryz.prog 72 #[.pointer (some ⟨b,0,none⟩)] w fun e w'=>e=.returned (.string ⟨l.toArray⟩)∧Below B w w':=Any.Builder_String_any Tryz.lays169 Tryz.Builder_Extra_169 B b l w h hBw
end Go.Proofs
namespace Go.Proofs.YtedopiahfejdfaaGreatDoor
open Go Go.RowKit
set_option maxRecDepth 100000
set_option maxHeartbeats 20000000
theorem BAt.is {B:Nat} {w:World} {b:Nat} {p v:Value} {bs:List Value} (h:BAt B w b p v bs):Lib.IsBuilder 121 5 B b bs w:=by
 obtain ⟨hb,hp,ho,hn,hl⟩:=h;rcases hp with rfl | rfl;·exact .inl ⟨hl,v,hb,ho,hn⟩
 ·exact .inr ⟨hl,v,hb,ho,hn⟩
theorem Zfb {B:Nat} {w:World} {b:Nat} {p v:Value} {bs:List Value} (h:BAt B w b p v bs) :
 Calls Tryz.prog 71 #[.pointer (some ⟨b,0,none⟩)] w fun e w'=>e=.returned (.int .i64 bs.length)∧w'=w:=Tryz.Builder_Len B b bs w h.is
theorem Zbb {B:Nat} {w:World} {b:Nat} {p v:Value} (l:List UInt8) (h:BAt B w b p v (Lib.byteCells l)) (hB:B≤w.heap.size) :
 Calls Tryz.prog 72 #[.pointer (some ⟨b,0,none⟩)] w fun e w'=>e=.returned (.string ⟨l.toArray⟩)∧Below B w w':=Tryz.Builder_String_any B b l w h.is hB
end Go.Proofs.YtedopiahfejdfaaGreatDoor
namespace Go.Proofs.YtedopiahfejdfaaGreatDoor
open Go Go.RowKit
set_option maxRecDepth 100000
set_option maxHeartbeats 20000000
def Z7h (c:Int):Option UInt8:=if c=110 then some 10 else if c=39 then some 39 else if c=92 then some 92 else none
def Z04 (text:ByteArray):Nat→Nat→List UInt8→List UInt8×Int×Nat
 | 0,i,_=>([],3,i)
 | f + 1, i, acc =>
   if text.size≤i∨Z2 text i=10 then ([],3,i)
   else if Z2 text i=39 then (if 500 < acc.length then ([],4,i + 1) else (acc,0,i + 1))
   else if Z2 text i=92 then
    (if i + 1 < text.size then
     match Z7h (Z2 text (i + 1)) with
     | some e=>Z04 text f (i + 2) (acc ++ [e])
     | none=>([],3,i + 1)
    else ([],3,i + 1))
   else Z04 text f (i + 1) (acc ++ [text.data.getD i 0])
def Z0l (text:ByteArray) (i:Nat):List UInt8×Int×Nat:=Z04 text (text.size + 1 - i) i []
theorem lh {p:Prop} (h:p):Hid p:=Lib.hid h
theorem zA {α:Type _} (l:List α) (i:Nat) (v:α):l.toArray.setIfInBounds i v=(l.set i v).toArray:=List.setIfInBounds_toArray ..
theorem zB {α:Type _} (x v:α) (l:List α):(x :: l).set 0 v=v :: l:=rfl
theorem zC {α:Type _} (x v:α) (l:List α) (n:Nat):(x :: l).set (n + 1) v=x :: l.set n v:=rfl
theorem Y0:type_of% @Nat.le_refl:=@Nat.le_refl
theorem Y1:type_of% @Array.getElem?_eq_some_iff:=@Array.getElem?_eq_some_iff
theorem Y2:type_of% @Below.refl:=@Below.refl
theorem Y3:type_of% @if_neg:=@if_neg
theorem Y4:type_of% @Nat.le_trans:=@Nat.le_trans
theorem Y5:type_of% @if_pos:=@if_pos
theorem Y6:type_of% @List.getElem?_eq_getElem:=@List.getElem?_eq_getElem
theorem Y7:type_of% @Nat.lt_of_lt_of_le:=@Nat.lt_of_lt_of_le
theorem Y8:type_of% @Below.heap_setCell:=@Below.heap_setCell
theorem Y9:type_of% @World.ownsRow.lt:=@World.ownsRow.lt
theorem Ya:type_of% @World.news_of_block:=@World.news_of_block
theorem Yb:type_of% @World.cell?_of_block:=@World.cell?_of_block
theorem Yc:type_of% @Option.some.inj:=@Option.some.inj
theorem Yd:type_of% @List.mem_of_getElem?:=@List.mem_of_getElem?
theorem Ye:type_of% @List.take_of_length_le:=@List.take_of_length_le
theorem Yf:type_of% @World.size_setCell:=@World.size_setCell
theorem Yg:type_of% @List.getElem?_map:=@List.getElem?_map
theorem Yh:type_of% @Nat.zero_le:=@Nat.zero_le
theorem Yi:type_of% @List.length_append:=@List.length_append
theorem Yj:type_of% @Tryz.underlying9:=@Tryz.underlying9
theorem Yk:type_of% @Tryz.underlying3:=@Tryz.underlying3
theorem Yl:type_of% @List.map_append:=@List.map_append
theorem Ym:type_of% @List.length_map:=@List.length_map
theorem Yn:type_of% @WideMaps.keyOf_string_mk:=@WideMaps.keyOf_string_mk
theorem zD {α β:Type _} (f:α→Option β) (a:α) (l:List α):(a :: l).filterMap f=match f a with | none=>l.filterMap f | some b=>b :: l.filterMap f:=rfl
theorem zE {α β:Type _} (f:α→Option β):([]:List α).filterMap f=[]:=rfl
theorem zF {α:Type _} (l:List α) (i:Nat):l.toArray[i]?=l[i]?:=List.getElem?_toArray ..
theorem zG {α:Type _} (a:α) (l:List α):(a :: l)[0]?=some a:=rfl
theorem zH {α:Type _} (a:α) (l:List α) (i:Nat):(a :: l)[i + 1]?=l[i]?:=rfl
theorem zI {α β:Type _} (f:α→β) (a:α):(some a).map f=some (f a):=rfl
theorem zX {α:Sort _} (a:α):∃ x,x=a:=⟨a,rfl⟩
end Go.Proofs.YtedopiahfejdfaaGreatDoor
namespace Go.Proofs
def Tryz.lays110_ren:Go.Shelf.Ren:=⟨fun | 110=>27 | 109=>55 | n=>n,fun | 31=>26 | 9=>9 | 4=>4 | 3=>3 | 0=>0 | n=>n,fun | n=>n⟩
theorem Tryz.lays110:Go.Proofs.Lays.n110 Tryz.prog Tryz.lays110_ren:={
 mixed:=by kernel_rfl
 f109:=Tryz.func55.trans (congrArg some (by kernel_rfl))
 f110:=Tryz.func27.trans (congrArg some (by kernel_rfl))
 t0:=Tryz.underlying0
 a0:=Tryz.isAgg0
 z0:=Tryz.sizeOf0
 v0:=Tryz.zeroValue0
 t3:=Tryz.underlying3
 a3:=Tryz.isAgg3
 z3:=Tryz.sizeOf3
 v3:=Tryz.zeroValue3
 t4:=Tryz.underlying4
 a4:=Tryz.isAgg4
 z4:=Tryz.sizeOf4
 v4:=Tryz.zeroValue4
 t9:=Tryz.underlying9
 a9:=Tryz.isAgg9
 z9:=Tryz.sizeOf9
 v9:=Tryz.zeroValue9
 t31:=Tryz.underlying26
 a31:=Tryz.isAgg26
 z31:=Tryz.sizeOf26
 v31:=Tryz.zeroValue26 }
open Go.Lib in
theorem Tryz.slices_Contains_string (b off n c:Nat) (zs:List ByteArray) (x:ByteArray) (w:World) (hz:n≤zs.length) (hbig:n≤9223372036854775807) (hc:∀ j,j < zs.length→w.cell? ⟨b,off + j,none⟩=some (.string (zs.getD j ByteArray.empty))) :
 Calls Tryz.prog 27 #[.slice (some ⟨b,off,none⟩) n c,.string x] w fun e w'=>e=.returned (.bool (Lib.containsS (zs.take n) x))∧w'=w:=Any.slices_Contains_string Tryz.lays110 b off n c zs x w hz hbig hc
end Go.Proofs
