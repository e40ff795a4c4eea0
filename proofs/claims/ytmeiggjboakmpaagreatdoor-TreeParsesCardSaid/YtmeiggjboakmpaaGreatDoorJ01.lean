/- Package lex: classes of bytes. -/
import Derived.Test.YtmeiggjboakmpaaGreatDoorProg
import Derived.WalkKit
import Derived.Lib.Hide
import Derived.OrdersHeld
import Derived.Tactics
import Derived.KernelRfl
import Derived.Laws.World
import Derived.Laws.AppendOwn
import Derived.Deep.AppendLies
import Derived.Lib.Builder
import Derived.Deep.RegionHeld3
import Derived.Deep.RegionLaw
import Derived.Deep.DeepMust
import Derived.WalkSpells
import Derived.WalkLawsBesides
import Derived.Shelf.Strings.Builder1
import Derived.Shelf.LaysM
import Derived.Shelf.Slices.Turned
import Derived.Test.YtmeiggjboakmpaaGreatDoorRows
import Derived.Lib.ItoaNum
import Derived.Lib.Strings
import Derived.Handy
namespace Go.Proofs.YtmeiggjboakmpaaGreatDoor
open Go Go.RowKit
set_option maxRecDepth 100000
set_option maxHeartbeats 20000000
set_option linter.unusedVariables false
def Z13 (c:Int):Bool:=(decide (97≤c) && decide (c≤122)) || decide (c=95)
def Z0q (c:Int):Bool:=decide (48≤c) && decide (c≤57)
def Z0x (c:Int):Bool:=decide (c=32) || decide (c=10)
def Z2r (c:Int):Bool:=Z13 c || Z0q c
theorem Z9y (w:World) (c:Int):Calls Tryz.prog 44 #[.int .u8 c] w fun e w'=>e=.returned (.bool (Z13 c))∧w'=w:=by
 by_cases h1:97≤c
 ·by_cases h2 : c ≤ 122
  ·have e : Z13 c = true := by simp [Z13, h1, h2]
   rw [e];go_enter Tryz.func44,Tryz.ntmps44
   go_wp2;go_ret;exact ⟨rfl,rfl⟩
  ·have e : Z13 c = false := by simp [Z13, h1, h2]; omega
   have h3:(c == 95)=false:=by simp; omega
   rw [e];go_enter Tryz.func44,Tryz.ntmps44
   go_wp2;go_ret;exact ⟨rfl,rfl⟩
 ·by_cases h3 : c = 95
  ·subst h3;go_enter Tryz.func44, Tryz.ntmps44
   go_wp2;go_ret;exact ⟨rfl,rfl⟩
  ·have e : Z13 c = false := by simp [Z13, h1, h3]
   have h3':(c == 95)=false:=by simp [h3]
   rw [e];go_enter Tryz.func44,Tryz.ntmps44
   go_wp2;go_ret;exact ⟨rfl,rfl⟩
theorem Z9a (w:World) (c:Int):Calls Tryz.prog 46 #[.int .u8 c] w fun e w'=>e=.returned (.bool (Z0q c))∧w'=w:=by
 by_cases h1:48≤c
 ·by_cases h2 : c ≤ 57
  ·have e : Z0q c = true := by simp [Z0q, h1, h2]
   rw [e];go_enter Tryz.func46,Tryz.ntmps46
   go_wp2;go_ret;exact ⟨rfl,rfl⟩
  ·have e : Z0q c = false := by simp [Z0q, h2]
   rw [e];go_enter Tryz.func46,Tryz.ntmps46
   go_wp2;go_ret;exact ⟨rfl,rfl⟩
 ·have e : Z0q c = false := by simp [Z0q, h1]
  rw [e];go_enter Tryz.func46,Tryz.ntmps46
  go_wp2;go_ret;exact ⟨rfl,rfl⟩
theorem Zgv (w:World) (c:Int):Calls Tryz.prog 43 #[.int .u8 c] w fun e w'=>e=.returned (.bool (Z0x c))∧w'=w:=by
 by_cases h1:c=32
 ·subst h1;go_enter Tryz.func43, Tryz.ntmps43
  go_wp2;go_ret;exact ⟨rfl,rfl⟩
 ·have q1 : (c == 32) = false := by simp [h1]
  have e:Z0x c=(c == 10):=by simp [Z0x,h1]; rfl
  rw [e];go_enter Tryz.func43,Tryz.ntmps43
  go_wp2;go_ret;exact ⟨rfl,rfl⟩
theorem Zij (w:World) (c:Int):Calls Tryz.prog 45 #[.int .u8 c] w fun e w'=>e=.returned (.bool (Z2r c))∧w'=w:=by
 have HL:=Lib.hid (Z9y w c);have HD:=Lib.hid (Z9a w c);unfold Z2r;cases hl:Z13 c
 ·rw [hl] at HL;go_enter Tryz.func45, Tryz.ntmps45
  go_wp2_with fail
  refine HL.out.mono ?_;rintro e w1 ⟨rfl,rfl⟩;go_wp2_with fail
  refine HD.out.mono ?_;rintro e w1 ⟨rfl,rfl⟩;go_wp2;go_ret;exact ⟨rfl,rfl⟩
 ·rw [hl] at HL;go_enter Tryz.func45, Tryz.ntmps45
  go_wp2_with fail
  refine HL.out.mono ?_;rintro e w1 ⟨rfl,rfl⟩;go_wp2;go_ret;exact ⟨rfl,rfl⟩
end Go.Proofs.YtmeiggjboakmpaaGreatDoor
namespace Go.Proofs.YtmeiggjboakmpaaGreatDoor
open Go
set_option maxRecDepth 100000
set_option maxHeartbeats 20000000
set_option linter.unusedVariables false
section
variable {P:Program} {ops:Array Oper} {md:Region.Mode}
def Ends (K:Act→World→Prop) (Q:Exit→Act→World→Prop):Exit→Act→World→Prop
 | .normal,a,w=>K a w
 | e,a,w=>Q e a w
theorem Zkj {Q Q':Exit→Act→World→Prop} {o:Oper} {a:Act} {w:World} {K:Act→World→Prop}
 (hp:∀ c a w,Q' (.panic c) a w→Q (.panic c) a w) (ho:LetsOut Q'→LetsOut Q) (h:o.wp P a w K Q'):o.wp P a w K Q:=by
 unfold Oper.wp at *;generalize (execOp a.eval o).run P w=r at *;cases r with
 | ok n w' =>
   cases n <;> simp only [Oper.upon] at h ⊢ <;>
    first
     | exact h
     | exact Calls.mono h (fun e w'' he=>by cases e <;> first | exact he | exact hp _ _ _ he | exact ho he)
 | halt x w'=>cases x <;> simp only [Oper.upon] at h ⊢ <;> exact hp _ _ _ h
theorem Zgz {Q:Exit→Act→World→Prop} {R:Act→World→Prop} {i:Nat} {a:Act} {w:World} {K:Act→World→Prop}
 (h:wpOp P ops (Ends R Q) i K a w):wpOp P ops Q i K a w:=by
 unfold wpOp at *;split;·rename_i ho; simp only [ho] at h; exact h
 ·rename_i o ho;simp only [ho] at h;split
  ·rename_i hw;simp only [hw, if_true] at h;rcases h with h | ⟨h1, h2⟩;·exact .inl (Zkj (fun _ _ _ h => h) (fun h => h) h)
   ·exact .inr ⟨h1,h2⟩
  ·rename_i hw; simp only [hw] at h; exact h
theorem Za4 {Q:Exit→Act→World→Prop}:∀ (f:Nat) (listed:Array Bool) (a:Act) (w:World),wpAny P md ops Q f listed a w→wpAny P md ops Q (f + 1) listed a w
 | 0,listed,a,w,h=>⟨fun _=>h.2,by rw [h.1]; simp⟩
 | f + 1,listed,a,w,h=>⟨h.1,fun i hi=>wpOp_mono (fun a' w' h'=>Za4 f _ a' w' h') (h.2 i hi)⟩
theorem Zd0 {Q:Exit→Act→World→Prop} {f g:Nat} (hfg:f≤g) {listed:Array Bool} {a:Act} {w:World} (h:wpAny P md ops Q f listed a w):wpAny P md ops Q g listed a w:=by
 obtain ⟨d,rfl⟩:=Nat.exists_eq_add_of_le hfg;induction d with
 | zero=>exact h
 | succ d ih=>exact Za4 _ _ _ _ (ih (by omega))
theorem Z64 (m j:Nat):(Array.replicate m false).getD j false=false:=by
 rcases Nat.lt_or_ge j m with h | h <;> simp [h]
def Z1r (l:List Nat) (m:Array Bool):Array Bool:=l.foldl (fun m i=>m.setIfInBounds i true) m
theorem Z4a (l:List Nat) (m:Array Bool):(Z1r l m).size=m.size:=by
 unfold Z1r;induction l generalizing m with
 | nil=>rfl
 | cons i l ih=>simp only [List.foldl_cons]; rw [ih]; simp
theorem Z4e {l:List Nat} {m:Array Bool} {j:Nat} (d:Bool) (h:j ∉ l):(Z1r l m).getD j d=m.getD j d:=by
 unfold Z1r;induction l generalizing m with
 | nil=>rfl
 | cons i l ih =>
   simp only [List.mem_cons,not_or] at h;simp only [List.foldl_cons];rw [ih h.2,getD_set_ne d (Ne.symm h.1)]
theorem Z3w {l:List Nat} {m:Array Bool} {j:Nat} (h:m.getD j false=true):(Z1r l m).getD j false=true:=by
 unfold Z1r;induction l generalizing m with
 | nil=>exact h
 | cons i l ih=>simp only [List.foldl_cons]; exact ih (getD_set_true h)
theorem Z4v {l:List Nat} {m:Array Bool} {j:Nat} (h:j∈l) (hj:j < m.size):(Z1r l m).getD j false=true:=by
 unfold Z1r;induction l generalizing m with
 | nil=>cases h
 | cons i l ih =>
   simp only [List.foldl_cons];rcases List.mem_cons.1 h with rfl | h;·exact Z3w (l:=l) (by simp [hj])
   ·exact ih h (by simpa using hj)
theorem Z7m (m:Array Bool) (i j:Nat):(m.setIfInBounds i true).setIfInBounds j true=(m.setIfInBounds j true).setIfInBounds i true:=by
 by_cases h:i=j;·subst h; rfl
 ·exact Array.setIfInBounds_comm _ _ h
theorem Zcw (l:List Nat) (m:Array Bool) (i:Nat):Z1r l (m.setIfInBounds i true)=(Z1r l m).setIfInBounds i true:=by
 unfold Z1r;induction l generalizing m with
 | nil=>rfl
 | cons j l ih=>simp only [List.foldl_cons]; rw [Z7m,ih]
def Closed (md:Region.Mode) (ops:Array Oper) (m:Array Bool):Prop:=
 ∀ j o,ops[j]?=some o→m.getD j false=true→∀ e∈o.after,Region.binds md e=true→m.getD e.on false=true
theorem Closed.set {m:Array Bool} (h:Closed md ops m) {i:Nat} (hi:i∈Region.ready md ops m):Closed md ops (m.setIfInBounds i true):=by
 obtain ⟨_,oi,hoi,hall⟩:=mem_ready.1 hi;intro j o hj hl e he hb;by_cases hij:i=j
 ·subst hij;have:o=oi:=Option.some.inj (hj.symm.trans hoi);subst this;exact getD_set_true (hall e he hb)
 ·rw [getD_set_ne false hij] at hl;exact getD_set_true (h j o hj hl e he hb)
def Z5k (md:Region.Mode) (ops:Array Oper) (m:Array Bool) (j:Nat):Array Bool:=
 match ops[j]? with
 | some o=>o.after.toList.foldl (fun m e=>if Region.binds md e then m.setIfInBounds e.on true else m) m
 | none=>m
def Zki (md:Region.Mode) (ops:Array Oper) (t:Nat):Array Bool:=
 (List.range t).reverse.foldl (fun m j=>if m.getD j false then Z5k md ops m j else m) (Z5k md ops (Array.replicate ops.size false) t)
theorem Z7c {m listed:Array Bool} (hm:∀ k,m.getD k false=true→listed.getD k false=true) {j:Nat}
 (hj:∀ o,ops[j]?=some o→∀ e∈o.after,Region.binds md e=true→listed.getD e.on false=true):∀ k,(Z5k md ops m j).getD k false=true→listed.getD k false=true:=by
 unfold Z5k;cases ho:ops[j]? with
 | none=>exact hm
 | some o =>
   simp only;have hall:=hj o ho
   have:∀ (l:List Edge),(∀ e∈l,Region.binds md e=true→listed.getD e.on false=true)→∀ m:Array Bool,(∀ k,m.getD k false=true→listed.getD k false=true) →
    ∀ k,(l.foldl (fun m e=>if Region.binds md e then m.setIfInBounds e.on true else m) m).getD k false=true→listed.getD k false=true:=by
    intro l;induction l with
    | nil=>intro _ m hm; exact hm
    | cons e l ih =>
      intro he m hm;simp only [List.foldl_cons];refine ih (fun e' h'=>he e' (List.mem_cons_of_mem _ h')) _ fun k hk=>?_;by_cases hb:Region.binds md e=true
      ·rw [if_pos hb] at hk;by_cases hke : e.on = k;·subst hke; exact he e (List.mem_cons_self ..) hb
       ·rw [getD_set_ne false hke] at hk; exact hm k hk
      ·rw [if_neg hb] at hk; exact hm k hk
   exact this o.after.toList (fun e he=>hall e (Array.mem_toList_iff.1 he)) m hm
theorem Zfi {listed:Array Bool} (hc:Closed md ops listed) {t:Nat} (ht:∀ o,ops[t]?=some o→∀ e∈o.after,Region.binds md e=true→listed.getD e.on false=true) :
 ∀ k,(Zki md ops t).getD k false=true→listed.getD k false=true:=by
 unfold Zki;have h0:∀ k,(Z5k md ops (Array.replicate ops.size false) t).getD k false=true→listed.getD k false=true:=
  Z7c (fun k hk=>by
   rcases Nat.lt_or_ge k ops.size with h | h;·simp [h] at hk
   ·simp [h] at hk) ht
 have:∀ (l:List Nat) (m:Array Bool),(∀ k,m.getD k false=true→listed.getD k false=true) →
  ∀ k,(l.foldl (fun m j=>if m.getD j false then Z5k md ops m j else m) m).getD k false=true→listed.getD k false=true:=by
  intro l;induction l with
  | nil=>intro m hm; exact hm
  | cons j l ih =>
    intro m hm;simp only [List.foldl_cons];refine ih _ ?_;by_cases hj:m.getD j false=true
    ·rw [if_pos hj];exact Z7c hm (fun o ho e he hb=>hc j o ho (hm j hj) e he hb)
    ·rw [if_neg hj]; exact hm
 exact this _ _ h0
def waits (md:Region.Mode) (ops:Array Oper) (j i:Nat):Bool:=
 match ops[j]? with
 | some o=>o.after.any fun e=>Region.binds md e && e.on == i
 | none=>false
def Zgg (md:Region.Mode) (ops:Array Oper):Bool:=
 (List.range ops.size).all fun j=>match ops[j]? with | some o=>o.after.all fun e=>!Region.binds md e || decide (e.on < j) | none=>true
def Zad (md:Region.Mode) (ops:Array Oper):Nat→List Nat→Bool
 | _,[]=>true
 | t,u :: r=>waits md ops u t && Zad md ops u r
def Z4g (md:Region.Mode) (ops:Array Oper):List Nat→Bool
 | []=>false
 | t :: r=>Zgg md ops && ((t :: r).all fun j=>decide (j < ops.size)) && ((List.range ops.size).all fun j=>(t :: r).contains j || (Zki md ops t).getD j false) && Zad md ops t r
def Zcp (md:Region.Mode) (ops:Array Oper):List Nat→Array Bool→Bool
 | [],listed=>(Region.ready md ops listed).isEmpty
 | t :: r,listed=>decide (Region.ready md ops listed=[t]) && Zcp md ops r (listed.setIfInBounds t true)
theorem Zb2 {t:Nat}:∀ {r:List Nat},Zad md ops t r=true→∀ u∈r,∃ s∈t :: r,waits md ops u s=true:=by
 intro r;induction r generalizing t with
 | nil=>intro _ u hu; cases hu
 | cons v r ih =>
   intro h u hu;simp only [Zad,Bool.and_eq_true] at h;rcases List.mem_cons.1 hu with rfl | hu;·exact ⟨t,List.mem_cons_self ..,h.1⟩
   ·obtain ⟨s,hs,hw⟩:=ih h.2 u hu;exact ⟨s,List.mem_cons_of_mem _ hs,hw⟩
theorem Z87 {j i:Nat} (h:waits md ops j i=true) {m:Array Bool} (hj:j∈Region.ready md ops m):m.getD i false=true:=by
 obtain ⟨_,o,ho,hall⟩:=mem_ready.1 hj;unfold waits at h;rw [ho] at h;obtain ⟨e,he,hb⟩:=Array.any_eq_true'.1 h;simp only [Bool.and_eq_true,beq_iff_eq] at hb;rw [← hb.2];exact hall e he hb.1
theorem Zgy {ph:List Nat} (hB:Z4g md ops ph=true) {m:Array Bool} (hc:Closed md ops m) (hun:∀ t∈ph,m.getD t false=false)
 {j:Nat} (hj:j < ops.size) (hjp:j ∉ ph) (hju:m.getD j false=false):∀ t∈ph,t ∉ Region.ready md ops m:=by
 cases ph with
 | nil=>simp [Z4g] at hB
 | cons t r =>
   simp only [Z4g,Bool.and_eq_true] at hB;obtain ⟨⟨⟨_,_⟩,hd⟩,hch⟩:=hB;intro u hu hr;rcases List.mem_cons.1 hu with rfl | hu'
   ·obtain ⟨_,o,ho,hall⟩:=mem_ready.1 hr;have h1:=List.all_eq_true.1 hd j (List.mem_range.2 hj);simp only [Bool.or_eq_true,List.contains_eq_mem,decide_eq_true_eq] at h1;have h2:=h1.resolve_left hjp;have:=Zfi hc (t:=u) (fun o' ho' e he hb=>by
     have:o'=o:=Option.some.inj (ho'.symm.trans ho);subst this;exact hall e he hb) j h2
    rw [hju] at this;cases this
   ·obtain ⟨s,hs,hw⟩:=Zb2 hch u hu';have h3:=Z87 hw hr;rw [hun s hs] at h3;cases h3
theorem Zar {m:Array Bool} {j:Nat} (h:j < m.size):m.getD j true=m.getD j false:=by simp [h]
theorem Z7s (hB:Zgg md ops=true) {m:Array Bool} (hs:m.size=ops.size):∀ j,j < ops.size→m.getD j false=false→Region.ready md ops m≠[]:=by
 intro j;induction j using Nat.strongRecOn with
 | _ j ih =>
   intro hj hju;have ho:ops[j]?=some ops[j]:=Array.getElem?_eq_getElem hj;have h1:=List.all_eq_true.1 hB j (List.mem_range.2 hj);rw [ho] at h1;simp only [Array.all_eq_true_iff_forall_mem,Bool.or_eq_true,Bool.not_eq_true',decide_eq_true_eq] at h1;by_cases hall:∀ e∈ops[j].after,Region.binds md e=true→m.getD e.on false=true
   ·intro h0;have:j∈Region.ready md ops m:=mem_ready.2 ⟨by rw [Zar (by omega)]; exact hju,_,ho,hall⟩;rw [h0] at this;cases this
   ·simp only [Classical.not_forall] at hall;obtain ⟨e,he,hb,hn⟩:=hall;have hlt:e.on < j:=(h1 e he).resolve_left (by simp [hb]);exact ih e.on hlt (by omega) (by simpa using hn)
theorem Z7g {Q:Exit→Act→World→Prop}:∀ (l:List Nat) (listed:Array Bool) (a:Act) (w:World),Zcp md ops l listed=true →
 wpList P ops Q (l.filterMap (ops[·]?)) a w→wpAny P md ops Q l.length listed a w
 | [],listed,a,w,hB,h=>⟨by simpa [Zcp] using hB,h⟩
 | t :: l, listed, a, w, hB, h => by
   simp only [Zcp,Bool.and_eq_true,decide_eq_true_eq] at hB;refine ⟨fun h1=>(by rw [hB.1] at h1; cases h1),fun i hi=>?_⟩;have hi':=hi;rw [hB.1] at hi;have hit:i=t:=by simpa using hi
   subst hit;obtain ⟨_,o,ho,_⟩:=mem_ready.1 hi';rw [List.filterMap_cons,ho] at h;simp only [wpList] at h;have hw:wpOp P ops Q i (wpList P ops Q (l.filterMap (ops[·]?))) a w:=by unfold wpOp; simp only [ho]; exact h
   exact wpOp_mono (fun a' w' h'=>Z7g l _ a' w' hB.2 h') hw
theorem Z8r {Q:Exit→Act→World→Prop} {ph:List Nat} (hB:Z4g md ops ph=true) (hseq:∀ m:Array Bool,m.size=ops.size→(∀ j,j < ops.size→m.getD j false=!ph.contains j)→Zcp md ops ph m=true) :
 ∀ (f : Nat) (listed : Array Bool) (a : Act) (w : World), listed.size = ops.size → Closed md ops listed → (∀ t ∈ ph, listed.getD t false = false) →
   wpAny P md ops (Ends (wpList P ops Q (ph.filterMap (ops[·]?))) Q) f (Z1r ph listed) a w→wpAny P md ops Q (f + ph.length) listed a w:=by
 have hback:Zgg md ops=true:=by
  cases ph with
  | nil=>simp [Z4g] at hB
  | cons t r=>simp only [Z4g,Bool.and_eq_true] at hB; exact hB.1.1.1
 have hin:∀ t∈ph,t < ops.size:=by
  cases ph with
  | nil=>simp [Z4g] at hB
  | cons t r =>
    simp only [Z4g,Bool.and_eq_true] at hB;intro u hu;simpa using List.all_eq_true.1 hB.1.1.2 u hu
 have fin:∀ (g:Nat) (listed:Array Bool) (a:Act) (w:World),listed.size=ops.size→(∀ t∈ph,listed.getD t false=false)→(∀ j,j < ops.size→j ∉ ph→listed.getD j false=true) →
  wpList P ops Q (ph.filterMap (ops[·]?)) a w→wpAny P md ops Q (g + ph.length) listed a w:=by
  intro g listed a w hs hun hall h;refine Zd0 (Nat.le_add_left _ _) (Z7g ph listed a w (hseq listed hs fun j hj=>?_) h);by_cases hjp:j∈ph;·rw [hun j hjp]; simp [hjp]
  ·rw [hall j hj hjp]; simp [hjp]
 have done:∀ (listed:Array Bool),listed.size=ops.size→Region.ready md ops (Z1r ph listed)=[]→∀ j,j < ops.size→j ∉ ph→listed.getD j false=true:=by
  intro listed hs hr j hj hjp;cases h:listed.getD j false with
  | true=>rfl
  | false=>exact absurd hr (Z7s hback (by rw [Z4a]; exact hs) j hj (by rw [Z4e false hjp]; exact h))
 intro f;induction f with
 | zero =>
   intro listed a w hs hc hun h;exact fin 0 listed a w hs hun (done listed hs h.1) h.2
 | succ f ih =>
   intro listed a w hs hc hun h;by_cases hall:∀ j,j < ops.size→j ∉ ph→listed.getD j false=true
   ·refine fin (f + 1) listed a w hs hun hall (h.1 ?_);refine List.eq_nil_iff_forall_not_mem.2 fun i hi => ?_;obtain ⟨h0, o, ho, _⟩ := mem_ready.1 hi;have hil : i < ops.size := (Array.getElem?_eq_some_iff.1 ho).1;rw [Zar (by rw [Z4a]; omega)] at h0;by_cases hip : i ∈ ph;·rw [Z4v hip (by omega)] at h0; cases h0
    ·rw [Z4e false hip,hall i hil hip] at h0; cases h0
   ·simp only [Classical.not_forall] at hall;obtain ⟨j, hj, hjp, hju⟩ := hall;have hju' : listed.getD j false = false := by simpa using hju
    have hnr:=Zgy hB hc hun hj hjp hju';rw [show f + 1 + ph.length=(f + ph.length) + 1 by omega];refine ⟨fun h0=>absurd h0 (Z7s hback hs j hj hju'),fun i hi=>?_⟩;have hip:i ∉ ph:=fun hp=>hnr i hp hi;obtain ⟨h0,o,ho,hae⟩:=mem_ready.1 hi;have hi':i∈Region.ready md ops (Z1r ph listed):=mem_ready.2 ⟨by rw [Z4e true hip]; exact h0,o,ho,fun e he hb=>Z3w (hae e he hb)⟩;refine wpOp_mono (fun a' w' h'=>?_) (Zgz (h.2 i hi'));refine ih _ a' w' (by simpa using hs) (hc.set hi) (fun t ht=>?_) (by rw [Zcw]; exact h');rw [getD_set_ne false (by rintro rfl; exact hip ht)]
    exact hun t ht
def Z49 (P:Program) (ops:Array Oper) (Q:Exit→Act→World→Prop) (S:World→Prop):List (Bool×Oper)→Act→World→Prop
 | [],a,w=>Q .normal a w
 | (true,o) :: r,a,w=>∃ v,YieldsIf P ops S o v a∧Z49 P ops Q S r (a.put o.dst v) w
 | (false,o) :: r,a,w=>if Region.wanted o (yielded ops a.tmps)=true then o.wp P a w (fun a' w'=>S w'∧Z49 P ops Q S r a' w') Q else Z49 P ops Q S r (a.put o.dst undef) w
def Zcg (md:Region.Mode) (ops:Array Oper):List (Bool×Nat)→Array Bool→Bool
 | [],listed=>(Region.ready md ops listed).isEmpty
 | (true,i) :: r,listed=>(Region.ready md ops listed).contains i && Region.free md ops listed i && Zcg md ops r (listed.setIfInBounds i true)
 | (false,i) :: r,listed=>decide (Region.ready md ops listed=[i]) && Zcg md ops r (listed.setIfInBounds i true)
def Zh (ops:Array Oper) (l:List (Bool×Nat)):List (Bool×Oper):=l.filterMap fun x=>(ops[x.2]?).map fun o=>(x.1,o)
theorem Z52 {Q:Exit→Act→World→Prop} {S:World→Prop} (hsel:Region.noSelect ops=true) (hQ:∀ c a d v w,Q (.panic c) (Act.put a d v) w→Q (.panic c) a w) :
 ∀ (l:List (Bool×Nat)) (listed:Array Bool) (a:Act) (w:World),Zcg md ops l listed=true→S w→Z49 P ops Q S (Zh ops l) a w→wpAnyH P md ops Q S l.length listed a w
 | [],listed,a,w,hB,_,h=>⟨by simpa [Zcg] using hB,h⟩
 | (true, i) :: l, listed, a, w, hB, hS, h => by
   simp only [Zcg,Bool.and_eq_true] at hB;obtain ⟨⟨hr,hf⟩,hB'⟩:=hB;obtain ⟨_,o,ho,_⟩:=mem_ready.1 (show i∈Region.ready md ops listed by simpa using hr);have e:Zh ops ((true,i) :: l)=(true,o) :: Zh ops l:=by simp [Zh,ho]
   rw [e] at h;obtain ⟨v,hy,h'⟩:=h;exact wpAnyH_take ho hsel hf hr (fun c a w=>hQ c a _ _ w) hy hS (Z52 hsel hQ l _ _ w hB' hS h')
 | (false, i) :: l, listed, a, w, hB, hS, h => by
   simp only [Zcg,Bool.and_eq_true,decide_eq_true_eq] at hB;obtain ⟨hr,hB'⟩:=hB;obtain ⟨_,o,ho,_⟩:=mem_ready.1 (show i∈Region.ready md ops listed by rw [hr]; simp);have e:Zh ops ((false,i) :: l)=(false,o) :: Zh ops l:=by simp [Zh,ho]
   rw [e] at h;refine wpAnyH_all hr (by simp) fun k hk=>?_;have hki:k=i:=by simpa using hk
   subst hki;unfold wpOp;simp only [ho];unfold Z49 at h;split at h
   ·rename_i hw;rw [if_pos hw];exact .inl (Oper.wp_mono (fun a' w' h'=>⟨h'.1,Z52 hsel hQ l _ a' w' hB' h'.1 h'.2⟩) h)
   ·rename_i hw;rw [if_neg hw];exact ⟨hS,Z52 hsel hQ l _ _ w hB' hS h⟩
theorem Zb {Q:Exit→Act→World→Prop} {S:World→Prop} {o:Oper} {r:List (Bool×Oper)} {a:Act} {w:World} (v:Value) (h:Z49 P ops Q S r (a.put o.dst v) w)
 (hw:Region.wanted o (yielded ops a.tmps)=true:=by rfl) (hy:∀ w',S w'→(execOp a.eval o).run P w'=.ok (.value v) w':=by (intro w' hS'; (repeat (have hs_:=hS'.1; replace hS':=hS'.2)); go_simp; first | done | with_reducible rfl)) :
 Z49 P ops Q S ((true,o) :: r) a w:=⟨v,.inl ⟨hw,hy⟩,h⟩
theorem Za {Q:Exit→Act→World→Prop} {S:World→Prop} {o:Oper} {r:List (Bool×Oper)} {a:Act} {w:World} (h:Z49 P ops Q S r (a.put o.dst undef) w)
 (hw:Region.wanted o (yielded ops a.tmps)=false:=by rfl):Z49 P ops Q S ((true,o) :: r) a w:=⟨undef,.inr ⟨hw,rfl⟩,h⟩
theorem Z5 {Q:Exit→Act→World→Prop} {S:World→Prop} {o:Oper} {r:List (Bool×Oper)} {a:Act} {w:World}
 (h:∀ K:Act→World→Prop,(∀ a' w',S w'→Z49 P ops Q S r a' w'→K a' w')→if Region.wanted o (yielded ops a.tmps)=true then o.wp P a w K Q else K (a.put o.dst undef) w) :
 Z49 P ops Q S ((false,o) :: r) a w:=by
 unfold Z49;by_cases hw:Region.wanted o (yielded ops a.tmps)=true
 ·rw [if_pos hw];have:=h (fun a' w'=>S w'∧Z49 P ops Q S r a' w') (fun _ _ h1 h2=>⟨h1,h2⟩);rwa [if_pos hw] at this
 ·rw [if_neg hw];have:=h (fun a' w'=>S w'∧Z49 P ops Q S r a' w') (fun _ _ h1 h2=>⟨h1,h2⟩);rw [if_neg hw] at this;exact this.2
theorem Z6 {Q:Exit→Act→World→Prop} {S:World→Prop} {a:Act} {w:World} {l:List Oper} (h:wpList P ops Q l a w):Z49 P ops (Ends (wpList P ops Q l) Q) S [] a w:=h
def allB (md:Region.Mode) (ops:Array Oper) (plan:List (Bool×Nat)) (ph:List Nat):Bool:=
 Region.noSelect ops && Z4g md ops ph && Zcp md ops ph (((List.range ops.size).map fun j=>!ph.contains j).toArray) && Zcg md ops plan (Z1r ph (Array.replicate ops.size false)) && decide (plan.length + ph.length=ops.size)
theorem Z6r {Q:Exit→Act→World→Prop} {id:Nat} {l:List Oper} {a:Act} {w:World} (plan:List (Bool×Nat)) (ph:List Nat) (S:World→Prop) (hm:P.follows .mixedOrders=true)
 (hB:allB .any l.toArray plan ph=true) (hQ:∀ c a d v w,Q (.panic c) (Act.put a d v) w→Q (.panic c) a w) (hS:S w.drew)
 (h:S w.drew→Z49 P l.toArray (Ends (wpList P l.toArray Q (ph.filterMap (l.toArray[·]?))) Q) S (Zh l.toArray plan) a w.drew):(Code.region id l.toArray true).wp P Q a w:=by
 simp only [allB,Bool.and_eq_true,decide_eq_true_eq] at hB;obtain ⟨⟨⟨⟨hsel,hph⟩,hseq⟩,hplan⟩,hlen⟩:=hB;refine wp_region_any hm ?_;have hin:∀ t∈ph,t < l.toArray.size:=by
  cases ph with
  | nil=>simp [Z4g] at hph
  | cons t r =>
    simp only [Z4g,Bool.and_eq_true] at hph;intro u hu;simpa using List.all_eq_true.1 hph.1.1.2 u hu
 have H:=Z52 (P:=P) (md:=.any) (Q:=Ends (wpList P l.toArray Q (ph.filterMap (l.toArray[·]?))) Q) hsel hQ plan _ a w.drew hplan hS (h hS);have key:=Z8r (Q:=Q) hph (fun m hs hm'=>?_) plan.length (Array.replicate l.toArray.size false) a w.drew (by simp) ?_ ?_ (wpAny_of_held _ _ _ _ H);·rw [hlen] at key; exact key
 ·have:m=((List.range l.toArray.size).map fun j=>!ph.contains j).toArray:=by
   apply Array.ext;·simp only [hs,List.size_toArray,List.length_map,List.length_range]
   ·intro j h1 h2;have:=hm' j (by omega);simp only [List.getElem_toArray,List.getElem_map,List.getElem_range];rw [← this];simp [h1]
  rw [this]; exact hseq
 ·intro j o _ hl;rw [Z64] at hl;cases hl
 ·intro t _;exact Z64 _ _
def pD (n:Nat):Bool×Nat:=(n % 2 == 0,n / 2)
theorem Zf {Q:Exit→Act→World→Prop} {id:Nat} {l:List Oper} {a:Act} {w:World} (plan:List Nat) (ph:List Nat) (S:World→Prop) (hS:S w.drew)
 (h:S w.drew→Z49 P l.toArray (Ends (wpList P l.toArray Q (ph.filterMap (l.toArray[·]?))) Q) S (Zh l.toArray (plan.map pD)) a w.drew) (hm:P.follows .mixedOrders=true:=by kernel_rfl)
 (hB:allB .any l.toArray (plan.map pD) ph=true:=by kernel_rfl) (hQ:∀ c a d v w,Q (.panic c) (Act.put a d v) w→Q (.panic c) a w:=by (intro _ _ d _ _ h; cases d <;> exact h)):(Code.region id l.toArray true).wp P Q a w:=
 Z6r (plan.map pD) ph S hm hB hQ hS h
end
end Go.Proofs.YtmeiggjboakmpaaGreatDoor
namespace Go.Proofs.YtmeiggjboakmpaaGreatDoor
open Go Go.RowKit
set_option maxRecDepth 100000
set_option maxHeartbeats 20000000
set_option linter.unusedVariables false
def Z15 (a b:ByteArray):Bool:=decide (a=b)
theorem Z3p {a b:ByteArray}:Z15 a b=true↔a=b:=by simp [Z15]
theorem Z25 {a b:ByteArray} (h:a.toList=b.toList):a=b:=by
 obtain ⟨⟨a⟩⟩:=a; obtain ⟨⟨b⟩⟩:=b;simpa [ByteArray.toList_eq] using h
theorem Z3x (a b:ByteArray):(a.toList == b.toList)=Z15 a b:=by
 unfold Z15;by_cases h:a=b;·simp [h]
 ·simp only [h,decide_false,beq_eq_false_iff_ne,ne_eq];exact fun e=>h (Z25 e)
theorem getElem?_flatMap {α β:Type} (f:α→List β) (m:Nat) (hf:∀ a,(f a).length=m) (l:List α) (i j:Nat) (hj:j < m) :
 (l.flatMap f)[i * m + j]?=(l[i]?).bind fun a=>(f a)[j]?:=by
 induction l generalizing i with
 | nil=>simp
 | cons a l ih =>
   rw [List.flatMap_cons];cases i with
   | zero=>rw [List.getElem?_append_left (by rw [hf]; omega)]; simp
   | succ i =>
     rw [List.getElem?_append_right (by rw [hf,Nat.succ_mul]; omega),hf,show (i + 1) * m + j - m=i * m + j by rw [Nat.succ_mul]; omega,ih];simp
theorem Zdp {w:World} {base:Nat} {e:TypeId} {m:Nat} {v:Value} {n:Nat} {α:Type} {f:α→List Value} {l:List α} (hf:∀ a,(f a).length=m)
 (h:w.ownsRow base e m v n (l.flatMap f)) {g:Nat} (hg:v.ownBlock=some g) {i j:Nat} {a:α} {x:Value} (hi:l[i]?=some a) (hj:(f a)[j]?=some x) :
 w.cell? ⟨g,i * m + j,none⟩=some x:=by
 have hjm:j < m:=by rw [← hf a]; exact (List.getElem?_eq_some_iff.1 hj).1
 have:=h.cells hg (i * m + j) x (by rw [getElem?_flatMap f m hf l i j hjm,hi]; exact hj);rwa [show ((⟨g,0,none⟩:Addr).add (i * m + j))=⟨g,i * m + j,none⟩ by unfold Addr.add; split <;> simp_all] at this
theorem Zp {w w':World} {base:Nat} {e:TypeId} {m:Nat} {v:Value} {n:Nat} {xs:List Value} (h:w.ownsRow base e m v n xs)
 (hb:∀ g,v.ownBlock=some g→w'.heap[g]?=w.heap[g]?):w'.ownsRow base e m v n xs:=by
 refine ⟨h.1,?_⟩;rcases h.2 with hn | ⟨g,cap,cur,rfl,hbg,hgg,rest⟩;·exact .inl hn
 ·exact .inr ⟨g,cap,cur,rfl,hbg,by rw [hb g rfl]; exact hgg,rest⟩
theorem Zq {w:World} {base:Nat} {e:TypeId} {m:Nat} {v:Value} {n:Nat} {xs:List Value} (h:w.ownsRow base e m v n xs) :
 (v=.slice none 0 0∧n=0)∨∃ g cap,v=.slice (some ⟨g,0,none⟩) n cap∧n≤cap∧cap≤maxLen∧g < w.heap.size:=by
 rcases h.2 with hn | ⟨g,cap,cur,rfl,_,hgg,h1,h2,_⟩;·exact .inl hn
 ·exact .inr ⟨g,cap,rfl,h1,h2,(Array.getElem?_eq_some_iff.1 hgg).1⟩
theorem Zkv {k:IntKind} {a b:Int} (h:a=b):Ending.returned (.int k a)=.returned (.int k b):=by rw [h]
theorem Z7b {a b:Bool} (h:a=b):Ending.returned (.bool a)=.returned (.bool b):=by rw [h]
theorem Z8 {w:World} {o:Obj} {p:Addr} (h:p.block < w.heap.size):(w.alloc o).cell? p=w.cell? p:=((Below.refl w.heap.size w).alloc (Nat.le_refl _) o).cell h
theorem Z0m {w:World} {o:Obj} {p:Addr} (h:p.block < w.heap.size):(w.alloc o).frozen? p=w.frozen? p:=((Below.refl w.heap.size w).alloc (Nat.le_refl _) o).frozen h
theorem Z07 {w:World} {b o:Nat} {c:Array Value} {T:TypeId} {mk:Nat×Nat} (v:Value) (h:w.heap[b]?=some (.cells c T mk)) :
 (w.setCell ⟨b,o,none⟩ v).heap[b]?=some (.cells (c.setIfInBounds o v) T mk):=by
 simp [World.setCell,Array.getElem?_modify,h]
structure ScanAt (w0 w:World) (sb:Nat) (text:ByteArray) (at':Nat):Prop where
 blk:w.heap[sb]?=some (.cells #[.string text,.int .i64 at'] 85 (0,0))
 os:w.os=w0.os
 tape:w.tape=w0.tape
 output:w.output=w0.output
 size:w0.heap.size≤w.heap.size
 block:∀ k,k < w0.heap.size→k≠sb→w.heap[k]?=w0.heap[k]?
variable {w0 w w':World} {sb:Nat} {text:ByteArray} {a b:Nat}
theorem ScanAt.refl (h:w.heap[sb]?=some (.cells #[.string text,.int .i64 a] 85 (0,0))):ScanAt w w sb text a:=⟨h,rfl,rfl,rfl,Nat.le_refl _,fun _ _ _=>rfl⟩
theorem ScanAt.trans (h:ScanAt w0 w sb text a) (g:ScanAt w w' sb text b):ScanAt w0 w' sb text b:=
 ⟨g.blk,g.os.trans h.os,g.tape.trans h.tape,g.output.trans h.output,Nat.le_trans h.size g.size,fun k hk hn=>(g.block k (Nat.lt_of_lt_of_le hk h.size) hn).trans (h.block k hk hn)⟩
theorem ScanAt.drew (h:ScanAt w0 w sb text a):ScanAt w0 w.drew sb text a:=⟨h.blk,h.os,h.tape,h.output,h.size,h.block⟩
theorem ScanAt.lt (h:ScanAt w0 w sb text a):sb < w.heap.size:=(Array.getElem?_eq_some_iff.1 h.blk).1
theorem ScanAt.below (h:ScanAt w0 w sb text a) (hB:Below w.heap.size w w'):ScanAt w0 w' sb text a:=
 ⟨(hB.block sb h.lt).trans h.blk,hB.os.trans h.os,hB.tape.trans h.tape,hB.output.trans h.output,Nat.le_trans h.size hB.size,fun k hk hn=>(hB.block k (Nat.lt_of_lt_of_le hk h.size)).trans (h.block k hk hn)⟩
theorem ScanAt.c0 (h:ScanAt w0 w sb text a):w.cell? ⟨sb,0,none⟩=some (.string text):=by simp [World.cell?,h.blk]
theorem ScanAt.c1 (h:ScanAt w0 w sb text a):w.cell? ⟨sb,1,none⟩=some (.int .i64 a):=by simp [World.cell?,h.blk]
theorem ScanAt.fz (h:ScanAt w0 w sb text a) (o:Nat):w.frozen? ⟨sb,o,none⟩=false:=by simp [World.frozen?,h.blk]
theorem ScanAt.set (h:ScanAt w0 w sb text a) (b:Nat):ScanAt w0 (w.setCell ⟨sb,1,none⟩ (.int .i64 b)) sb text b:=
 ⟨Z07 _ h.blk,h.os,h.tape,h.output,by simpa using h.size,fun k hk hn=>(Below.heap_setCell _ _ _ _ hn).trans (h.block k hk hn)⟩
def Zc (text:ByteArray) (i:Nat):Int:=((text.data.getD i 0).toNat:Int)
def Z03 (p:Int→Bool) (text:ByteArray):Nat→Nat→Nat
 | 0,i=>i
 | f + 1,i=>if i < text.size && p (Zc text i) then Z03 p text f (i + 1) else i
theorem Z29 {i:Nat} (h:i < text.size):Zc text i=((text[i]'h).toNat:Int):=by
 unfold Zc;have:i < text.data.size:=h;simp only [Array.getD,dif_pos this];rfl
theorem Z8a {p:Int→Bool} {j:Nat} (h:j < text.size) (hp:p (Zc text j)=true):Z03 p text (text.size - j) j=Z03 p text (text.size - (j + 1)) (j + 1):=by
 obtain ⟨f,hf⟩:∃ f,text.size - j=f + 1:=⟨text.size - j - 1,by omega⟩
 rw [hf,show text.size - (j + 1)=f by omega];simp [Z03,h,hp]
theorem Z8d {p:Int→Bool} {j:Nat} (hp:¬ j < text.size∨p (Zc text j)=false):Z03 p text (text.size - j) j=j:=by
 cases hf:text.size - j with
 | zero=>rfl
 | succ f =>
   rcases hp with h | h;·omega
   ·simp [Z03,h]
theorem Zcq {fv:Value} {p:Int→Bool} (hfp:(fv=.func (.func 43) #[] #[]∧p=Z0x)∨(fv=.func (.func 45) #[] #[]∧p=Z2r)∨(fv=.func (.func 46) #[] #[]∧p=Z0q)) (h:w.heap[sb]?=some (.cells #[.string text,.int .i64 a] 85 (0,0))) (ha:a≤text.size) (hm:text.size≤1000000) :
 Calls Tryz.prog 42 #[.pointer (some ⟨sb,0,none⟩),fv] w fun e w'=>∃ b,b=Z03 p text (text.size - a) a∧a≤b∧b≤text.size∧e=.returned (.string (text.extract a b))∧ScanAt w w' sb text b:=by
 rcases hfp with ⟨rfl,rfl⟩ | ⟨rfl,rfl⟩ | ⟨rfl,rfl⟩;have HL:=Lib.hid (fun w c=>Zgv w c);obtain ⟨P,hP⟩:∃ P,P=Z0x:=⟨_,rfl⟩
 rw [← hP] at HL ⊢;clear hP;rotate_left
 have HL:=Lib.hid (fun w c=>Zij w c);obtain ⟨P,hP⟩:∃ P,P=Z2r:=⟨_,rfl⟩
 rw [← hP] at HL ⊢;clear hP;rotate_left
 have HL:=Lib.hid (fun w c=>Z9a w c);obtain ⟨P,hP⟩:∃ P,P=Z0q:=⟨_,rfl⟩
 rw [← hP] at HL ⊢;clear hP;rotate_left
 all_goals
  have S0:=Lib.hid (ScanAt.refl h);have c0:=S0.out.c0;have c1:=S0.out.c1;clear h;go_enter Tryz.func42,Tryz.ntmps42
  go_wp2;go_loopw [] (fun wr=>∃ j:Nat,a≤j∧j≤text.size∧Z03 P text (text.size - j) j=Z03 P text (text.size - a) a∧ScanAt w wr sb text j) (fun wr=>text.size - (intOf ((wr.cell? ⟨sb,1,none⟩).getD .nilIface)).toNat)
  case atStart=>exact ⟨a,Nat.le_refl _,ha,rfl,S0.out⟩
  case round=>
   obtain ⟨j,hj1,hj2,hsp,hS⟩:=hrel;have q0:=hS.c0;have q1:=hS.c1;have SJ:=Lib.hid hS;have HSP:=Lib.hid hsp;clear hS hsp c0 c1;by_cases hlt:j < text.size
   ·obtain ⟨B, hB⟩ : ∃ B, B = P (Zc text j) := ⟨_, rfl⟩
    have HB:=Lib.hid hB;have HC:=HL.out wr.drew (Zc text j);rw [← hB,Z29 hlt] at HC;have HC:=Lib.hid HC;clear hB;cases B
    all_goals
     go_wp2_with fail
     refine Zf [0,2,4,6,8,10,12,14,16,18,20,22,24,26,28,30,32,34,36,38,40] [21,22] (fun W=>W.cell? ⟨sb,0,none⟩=some (.string text)∧W.cell? ⟨sb,1,none⟩=some (.int .i64 j)) ⟨q0,q1⟩ fun _=>?_;simp only [List.map_cons,List.map_nil,pD,Zh,List.filterMap_cons,List.filterMap_nil,List.getElem?_toArray,List.getElem?_cons_zero,List.getElem?_cons_succ,Option.map_some]
     iterate 21
      first | refine Zb _ ?_ | refine Za ?_
      simp only [Act.put,List.setIfInBounds_toArray,List.set_cons_zero,List.set_cons_succ]
     refine Z6 ?_;go_wp2_with fail
     refine HC.out.mono ?_;rintro e w1 ⟨rfl,rfl⟩
    ·go_wp2_with fail
     refine Zf [0,2,4,6,8,10,12,14,16] [9,10] (fun W=>W.cell? ⟨sb,0,none⟩=some (.string text)∧W.cell? ⟨sb,1,none⟩=some (.int .i64 j)) ⟨q0,q1⟩ fun _=>?_;simp only [List.map_cons,List.map_nil,pD,Zh,List.filterMap_cons,List.filterMap_nil,List.getElem?_toArray,List.getElem?_cons_zero,List.getElem?_cons_succ,Option.map_some]
     iterate 9
      first | refine Zb _ ?_ | refine Za ?_
      simp only [Act.put,List.setIfInBounds_toArray,List.set_cons_zero,List.set_cons_succ]
     refine Z6 ?_;go_wp2;go_ret;exact ⟨j,by rw [← HSP.out]; exact (Z8d (.inr HB.out.symm)).symm,hj1,hj2,rfl,SJ.out.drew.drew⟩
    ·have z1 := SJ.out.fz 1;go_wp2;go_roundw
     case rel=>exact ⟨j + 1,by omega,by omega,by rw [← Z8a hlt HB.out.symm]; exact HSP.out,SJ.out.drew.set (j + 1)⟩
     case measure=>
      have e1:(wr.setCell ⟨sb,1,none⟩ (.int .i64 ((j:Int) + 1))).cell? ⟨sb,1,none⟩=some (.int .i64 ((j:Int) + 1)):=(SJ.out.set (j + 1)).c1;have e2:=SJ.out.c1;rw [World.cell?_drew,e1,e2];simp [intOf];omega
   ·go_wp2_with fail
    refine Zf [0,2,4,6,8,10,12,14,16,18,20,22,24,26,28,30,32,34,36,38,40] [21,22] (fun W=>W.cell? ⟨sb,0,none⟩=some (.string text)∧W.cell? ⟨sb,1,none⟩=some (.int .i64 j)) ⟨q0,q1⟩ fun _=>?_;simp only [List.map_cons,List.map_nil,pD,Zh,List.filterMap_cons,List.filterMap_nil,List.getElem?_toArray,List.getElem?_cons_zero,List.getElem?_cons_succ,Option.map_some]
    iterate 21
     first | refine Zb _ ?_ | refine Za ?_
     simp only [Act.put,List.setIfInBounds_toArray,List.set_cons_zero,List.set_cons_succ]
    refine Z6 ?_;go_wp2_with fail
    refine Zf [0,2,4,6,8,10,12,14,16] [9,10] (fun W=>W.cell? ⟨sb,0,none⟩=some (.string text)∧W.cell? ⟨sb,1,none⟩=some (.int .i64 j)) ⟨q0,q1⟩ fun _=>?_;simp only [List.map_cons,List.map_nil,pD,Zh,List.filterMap_cons,List.filterMap_nil,List.getElem?_toArray,List.getElem?_cons_zero,List.getElem?_cons_succ,Option.map_some]
    iterate 9
     first | refine Zb _ ?_ | refine Za ?_
     simp only [Act.put,List.setIfInBounds_toArray,List.set_cons_zero,List.set_cons_succ]
    refine Z6 ?_;go_wp2;go_ret;exact ⟨j,by rw [← HSP.out]; exact (Z8d (.inl hlt)).symm,hj1,hj2,rfl,SJ.out.drew.drew⟩
theorem Zfw (h:w.heap[sb]?=some (.cells #[.string text,.int .i64 a] 85 (0,0))) (ha:a≤text.size) (hm:text.size≤1000000) :
 Calls Tryz.prog 42 #[.pointer (some ⟨sb,0,none⟩),.func (.func 43) #[] #[]] w fun e w'=>∃ b,b=Z03 Z0x text (text.size - a) a∧a≤b∧b≤text.size∧e=.returned (.string (text.extract a b))∧ScanAt w w' sb text b:=Zcq (.inl ⟨rfl,rfl⟩) h ha hm
theorem Ziy (h:w.heap[sb]?=some (.cells #[.string text,.int .i64 a] 85 (0,0))) (ha:a≤text.size) (hm:text.size≤1000000) :
 Calls Tryz.prog 42 #[.pointer (some ⟨sb,0,none⟩),.func (.func 45) #[] #[]] w fun e w'=>∃ b,b=Z03 Z2r text (text.size - a) a∧a≤b∧b≤text.size∧e=.returned (.string (text.extract a b))∧ScanAt w w' sb text b:=Zcq (.inr (.inl ⟨rfl,rfl⟩)) h ha hm
theorem Zfm (h:w.heap[sb]?=some (.cells #[.string text,.int .i64 a] 85 (0,0))) (ha:a≤text.size) (hm:text.size≤1000000) :
 Calls Tryz.prog 42 #[.pointer (some ⟨sb,0,none⟩),.func (.func 46) #[] #[]] w fun e w'=>∃ b,b=Z03 Z0q text (text.size - a) a∧a≤b∧b≤text.size∧e=.returned (.string (text.extract a b))∧ScanAt w w' sb text b:=Zcq (.inr (.inr ⟨rfl,rfl⟩)) h ha hm
theorem Tryz.sizeBuilder:(Tryz.prog.info? 69).map (·.size)=some 2:=by kernel_rfl
theorem Tryz.liesBuilder:liesAt Tryz.prog Tryz.prog.depth 69 (2 / Tryz.prog.cellsOf 69) 0 69 1=true:=by kernel_rfl
theorem Z5z (w:World) (b:Nat) (h0:w.cell? ⟨b,0,none⟩=some (.pointer none)) (hsh:w.shape? b=some (69,2)) (hfz:w.frozen? ⟨b,0,none⟩=false) :
 Calls Tryz.prog 58 #[.pointer (some ⟨b,0,none⟩)] w fun e w'=>e=.returned (.tuple #[])∧w'=w.setCell ⟨b,0,none⟩ (.pointer (some ⟨b,0,none⟩)):=by
 obtain ⟨j,hj,hjs⟩:=Option.map_eq_some_iff.1 Tryz.sizeBuilder;go_enter Tryz.func58,Tryz.ntmps58
 go_wp2;rw [Lib.run_to_unsafe w ⟨b,0,none⟩ Tryz.underlying66 Tryz.underlying120 hj (by rw [hjs]; decide) hsh (Nat.zero_lt_succ 1)];simp only [Result.andThen];rw [Oper.upon_value];go_wp2;rw [run_callFunc_extern Tryz.func87 (by kernel_rfl) (by kernel_rfl) (by kernel_rfl) (e:=Extern.AbiNoEscape.same) (by kernel_rfl)];rw [Lib.run_noEscape];simp only [Result.andThen];rw [Oper.upon_value];go_wp2;rw [Lib.run_from_unsafe w ⟨b,0,none⟩ Tryz.underlying120 Tryz.underlying66 hj hsh Tryz.liesBuilder];simp only [Result.andThen];rw [Oper.upon_value];go_wp2;go_end0
 exact ⟨rfl,rfl⟩
theorem Z6q (w:World) (b:Nat) (h0:w.cell? ⟨b,0,none⟩=some (.pointer (some ⟨b,0,none⟩))) :
 Calls Tryz.prog 58 #[.pointer (some ⟨b,0,none⟩)] w fun e w'=>e=.returned (.tuple #[])∧w'=w:=by
 obtain ⟨j,hj,_⟩:=Option.map_eq_some_iff.1 Tryz.sizeBuilder;go_enter Tryz.func58,Tryz.ntmps58
 go_wp2;rw [Lib.run_neq_ptr_same w _ Tryz.underlying66 hj];go_wp2;go_end0
 exact ⟨rfl,rfl⟩
structure BAt (B:Nat) (w:World) (b:Nat) (p v:Value) (bs:List Value):Prop where
 blk:w.heap[b]?=some (.cells #[p,v] 69 (0,0))
 ptr:p=.pointer none∨p=.pointer (some ⟨b,0,none⟩)
 own:w.ownsRow B 5 1 v bs.length bs
 ne:v.ownBlock≠some b
 le:B≤b
theorem Tryz.infoU8:(Tryz.prog.info? 5).map (fun i=>(i.zero,i.size,i.bytes))=some (some (.int .u8 0),1,1):=by kernel_rfl
structure BFr (w w':World) (b:Nat) (v v':Value):Prop where
 os:w'.os=w.os
 tape:w'.tape=w.tape
 output:w'.output=w.output
 size:w.heap.size≤w'.heap.size
 block:∀ k,k < w.heap.size→k≠b→v.ownBlock≠some k→w'.heap[k]?=w.heap[k]?
 row:v'.ownBlock=v.ownBlock∨∃ g,v'.ownBlock=some g∧w.heap.size≤g
theorem Z9m (B:Nat) (w:World) (b:Nat) (v:Value) (bs:List Value) (c:Int) (h:BAt B w b (.pointer (some ⟨b,0,none⟩)) v bs) (hn:bs.length < 1099511627776) :
 Calls Tryz.prog 24 #[.pointer (some ⟨b,0,none⟩),.int .u8 c] w fun e w'=>e=.returned .nilIface∧∃ v',BAt B w' b (.pointer (some ⟨b,0,none⟩)) v' (bs ++ [.int .u8 c])∧BFr w w' b v v':=by
 obtain ⟨i0,hi,hz0,hz1,hz2⟩:=info_parts Tryz.infoU8;have hbl:b < w.heap.size:=(Array.getElem?_eq_some_iff.1 h.blk).1;have h0:w.cell? ⟨b,0,none⟩=some (.pointer (some ⟨b,0,none⟩)):=by simp [World.cell?,h.blk]
 have h1:w.cell? ⟨b,1,none⟩=some v:=by simp [World.cell?,h.blk]
 have hz:w.frozen? ⟨b,1,none⟩=false:=by simp [World.frozen?,h.blk]
 have HC:=Lib.hid (Z6q w b h0);have HO:=Lib.hid h.own;have HB:=Lib.hid h;have hne:=h.ne;have hBb:=h.le;have HNE:=Lib.hid hne;obtain ⟨n,hnn⟩:∃ n,n=bs.length:=⟨_,rfl⟩
 rw [← hnn] at HO hn;have HNN:=Lib.hid hnn;clear h hne hnn h0;have haft:∀ o (w1:World),(w.alloc o).grownBy w1 v.ownBlock→w1.cell? ⟨b,1,none⟩=some v∧w1.frozen? ⟨b,1,none⟩=false:=fun o w1 hg=>
  ⟨(hg.cell_far ⟨b,1,none⟩ (by simp; omega) (fun e=>HNE.out e.symm)).trans ((Z8 hbl).trans h1),(hg.frozen_far ⟨b,1,none⟩ (by simp; omega) (fun e=>HNE.out e.symm)).trans ((Z0m hbl).trans hz)⟩
 have HA:=Lib.hid haft;clear haft;go_enter Tryz.func24,Tryz.ntmps24
 go_wp2_with fail
 refine HC.out.mono ?_;rintro e w1 ⟨rfl,rfl⟩
 go_wp2_with (at_builtin; go_must (refine wpList_append_lies _ rfl (.tmp 11) (.tmp 13) 67 rfl B 5 i0 (.int .u8 0) 1 1 Tryz.underlying67 hi hz0 hz1 hz2 rfl (by decide) v n bs rfl (HO.out.alloc _) ⟨w1.heap.size,0,none⟩ 1 1 [.int .u8 c] rfl rfl (fun j u hu=>cell_one_new w1 _ _ j u hu) (by intro u hu; simp at hu; subst hu; rfl) (by first | omega | (simp; omega)) (by unfold maxLen; omega) (by first | omega | (simp; omega)) (by first | omega | (simp; omega)) (w1.heap.size + 1) (by simp) ?_); intro g cap w2 hown2 hgrow2 hat2 hgl2; obtain ⟨hc1,hf1⟩:=HA.out _ _ hgrow2; have HG:=Lib.hid hgrow2; have HW:=Lib.hid hown2; have HT:=Lib.hid hat2; clear hgrow2 hown2 hat2 hgl2)
 go_ret;refine ⟨rfl,.slice (some ⟨g,0,none⟩) (n + 1) cap,?_,?_⟩
 ·have hgb:g≠b:=by
   rcases HT.out with h | h;·exact fun e=>HNE.out (by rw [h,e])
   ·omega
  have hblk:w2.heap[b]?=some (.cells #[.pointer (some ⟨b,0,none⟩),v] 69 (0,0)):=(HG.out.block b (by simp; omega) (fun e=>HNE.out e.symm)).trans ((Below.heap_alloc _ _ _ hbl).trans HB.out.blk);refine ⟨Z07 _ hblk,.inr rfl,?_,by simp only [Value.ownBlock,ne_eq,Option.some.injEq]; exact hgb,hBb⟩;rw [List.length_append,← HNN.out];exact Zp HW.out fun g' hg'=>Below.heap_setCell _ _ _ _ (fun e=>hgb (by simp only [Value.ownBlock,Option.some.injEq] at hg'; rw [hg',e]))
 ·refine ⟨HG.out.os, HG.out.tape, HG.out.output, by rw [World.size_setCell]; have := HG.out.size; rw [World.size_alloc] at this; omega, fun k hk hkb hkv => ?_, ?_⟩;·exact (Below.heap_setCell _ _ _ _ hkb).trans ((HG.out.block k (by simp; omega) (fun e => hkv e.symm)).trans (Below.heap_alloc _ _ _ hk))
  ·rcases HT.out with h | h;·exact .inl h.symm
   ·exact .inr ⟨g,rfl,by omega⟩
theorem Z8w (B:Nat) (w:World) (b:Nat) (v:Value) (bs:List Value) (c:Int) (h':BAt B w b (.pointer none) v bs) (hn:bs.length < 1099511627776) :
 Calls Tryz.prog 24 #[.pointer (some ⟨b,0,none⟩),.int .u8 c] w fun e w'=>e=.returned .nilIface∧∃ v',BAt B w' b (.pointer (some ⟨b,0,none⟩)) v' (bs ++ [.int .u8 c])∧BFr w w' b v v':=by
 obtain ⟨i0,hi,hz0,hz1,hz2⟩:=info_parts Tryz.infoU8;have h0:w.cell? ⟨b,0,none⟩=some (.pointer none):=by simp [World.cell?,h'.blk]
 have hz0':w.frozen? ⟨b,0,none⟩=false:=by simp [World.frozen?,h'.blk]
 have HC:=Lib.hid (Z5z w b h0 (by simp [World.shape?,h'.blk]) hz0');have h:BAt B (w.setCell ⟨b,0,none⟩ (.pointer (some ⟨b,0,none⟩))) b (.pointer (some ⟨b,0,none⟩)) v bs:=
  ⟨Z07 _ h'.blk,.inr rfl,Zp h'.own fun g hg=>Below.heap_setCell _ _ _ _ (fun e=>h'.ne (by rw [hg]; exact congrArg some e)),h'.ne,h'.le⟩
 have HS:∀ k,k≠b→(w.setCell ⟨b,0,none⟩ (.pointer (some ⟨b,0,none⟩))).heap[k]?=w.heap[k]?:=fun k hk=>Below.heap_setCell _ _ _ _ hk;have HS:=Lib.hid HS;have hsz:(w.setCell ⟨b,0,none⟩ (.pointer (some ⟨b,0,none⟩))).heap.size=w.heap.size:=World.size_setCell ..;have HZ:=Lib.hid hsz;have hos:(w.setCell ⟨b,0,none⟩ (.pointer (some ⟨b,0,none⟩))).os=w.os∧(w.setCell ⟨b,0,none⟩ (.pointer (some ⟨b,0,none⟩))).tape=w.tape∧(w.setCell ⟨b,0,none⟩ (.pointer (some ⟨b,0,none⟩))).output=w.output:=⟨rfl,rfl,rfl⟩
 have HOS:=Lib.hid hos;clear h' h0 hz0' hsz hos;obtain ⟨w1,hw1⟩:∃ W,W=w.setCell ⟨b,0,none⟩ (.pointer (some ⟨b,0,none⟩)):=⟨_,rfl⟩
 rw [← hw1] at HC h HS HZ HOS;have hbl:b < w1.heap.size:=(Array.getElem?_eq_some_iff.1 h.blk).1;have h1:w1.cell? ⟨b,1,none⟩=some v:=by simp [World.cell?,h.blk]
 have hz:w1.frozen? ⟨b,1,none⟩=false:=by simp [World.frozen?,h.blk]
 have HO:=Lib.hid h.own;have HB:=Lib.hid h;have hne:=h.ne;have hBb:=h.le;have HNE:=Lib.hid hne;obtain ⟨n,hnn⟩:∃ n,n=bs.length:=⟨_,rfl⟩
 rw [← hnn] at HO hn;have HNN:=Lib.hid hnn;clear h hne hnn hw1;have haft:∀ o (w2:World),(w1.alloc o).grownBy w2 v.ownBlock→w2.cell? ⟨b,1,none⟩=some v∧w2.frozen? ⟨b,1,none⟩=false:=fun o w2 hg=>
  ⟨(hg.cell_far ⟨b,1,none⟩ (by simp; omega) (fun e=>HNE.out e.symm)).trans ((Z8 hbl).trans h1),(hg.frozen_far ⟨b,1,none⟩ (by simp; omega) (fun e=>HNE.out e.symm)).trans ((Z0m hbl).trans hz)⟩
 have HA:=Lib.hid haft;clear haft;go_enter Tryz.func24,Tryz.ntmps24
 go_wp2_with fail
 refine HC.out.mono ?_;rintro e w1' ⟨rfl,hw⟩;rw [hw];clear hw w1'
 go_wp2_with (at_builtin; go_must (refine wpList_append_lies _ rfl (.tmp 11) (.tmp 13) 67 rfl B 5 i0 (.int .u8 0) 1 1 Tryz.underlying67 hi hz0 hz1 hz2 rfl (by decide) v n bs rfl (HO.out.alloc _) ⟨w1.heap.size,0,none⟩ 1 1 [.int .u8 c] rfl rfl (fun j u hu=>cell_one_new w1 _ _ j u hu) (by intro u hu; simp at hu; subst hu; rfl) (by first | omega | (simp; omega)) (by unfold maxLen; omega) (by first | omega | (simp; omega)) (by first | omega | (simp; omega)) (w1.heap.size + 1) (by simp) ?_); intro g cap w2 hown2 hgrow2 hat2 hgl2; obtain ⟨hc1,hf1⟩:=HA.out _ _ hgrow2; have HG:=Lib.hid hgrow2; have HW:=Lib.hid hown2; have HT:=Lib.hid hat2; clear hgrow2 hown2 hat2 hgl2)
 go_ret;refine ⟨rfl,.slice (some ⟨g,0,none⟩) (n + 1) cap,?_,?_⟩
 ·have hgb:g≠b:=by
   rcases HT.out with h | h;·exact fun e=>HNE.out (by rw [h,e])
   ·omega
  have hblk:w2.heap[b]?=some (.cells #[.pointer (some ⟨b,0,none⟩),v] 69 (0,0)):=(HG.out.block b (by simp; omega) (fun e=>HNE.out e.symm)).trans ((Below.heap_alloc _ _ _ hbl).trans HB.out.blk);refine ⟨Z07 _ hblk,.inr rfl,?_,by simp only [Value.ownBlock,ne_eq,Option.some.injEq]; exact hgb,hBb⟩;rw [List.length_append,← HNN.out];exact Zp HW.out fun g' hg'=>Below.heap_setCell _ _ _ _ (fun e=>hgb (by simp only [Value.ownBlock,Option.some.injEq] at hg'; rw [hg',e]))
 ·refine ⟨HG.out.os.trans HOS.out.1, HG.out.tape.trans HOS.out.2.1, HG.out.output.trans HOS.out.2.2, by rw [World.size_setCell]; have := HG.out.size; rw [World.size_alloc, HZ.out] at this; omega, fun k hk hkb hkv => ?_, ?_⟩;·exact (Below.heap_setCell _ _ _ _ hkb).trans ((HG.out.block k (by simp; have := HZ.out; omega) (fun e => hkv e.symm)).trans ((Below.heap_alloc _ _ _ (by have := HZ.out; omega)).trans (HS.out k hkb)))
  ·rcases HT.out with h | h;·exact .inl h.symm
   ·exact .inr ⟨g,rfl,by have:=HZ.out; omega⟩
end Go.Proofs.YtmeiggjboakmpaaGreatDoor
namespace Go.Proofs
open Go.Shelf
set_option maxRecDepth 100000
set_option maxHeartbeats 20000000
set_option linter.unusedVariables false
def Tryz.lays170_ren:Go.Shelf.Ren:=⟨fun | 170=>70 | n=>n,fun | 70=>66 | 3=>3 | 0=>0 | 72=>69 | 37=>67 | 5=>5 | n=>n,fun | n=>n⟩
theorem Tryz.lays170:Go.Proofs.Lays.n170 Tryz.prog Tryz.lays170_ren:={
 mixed:=by kernel_rfl
 f170:=Tryz.func70.trans (congrArg some (by kernel_rfl))
 t0:=Tryz.underlying0
 a0:=Tryz.isAgg0
 z0:=Tryz.sizeOf0
 v0:=Tryz.zeroValue0
 t3:=Tryz.underlying3
 a3:=Tryz.isAgg3
 z3:=Tryz.sizeOf3
 v3:=Tryz.zeroValue3
 t37:=Tryz.underlying67
 a37:=Tryz.isAgg67
 z37:=Tryz.sizeOf67
 v37:=Tryz.zeroValue67
 t70:=Tryz.underlying66
 a70:=Tryz.isAgg66
 z70:=Tryz.sizeOf66
 v70:=Tryz.zeroValue66
 t72:=Tryz.underlying69
 a72:=Tryz.isAgg69
 z72:=Tryz.sizeOf69
 v72:=Tryz.zeroValue69 }
open Go.RowKit in
theorem Tryz.Builder_Len (B b:Nat) (bs:List Value) (w:World) (h:Lib.IsBuilder 69 5 B b bs w) :
 Calls Tryz.prog 70 #[.pointer (some ⟨b,0,none⟩)] w fun e w'=>e=.returned (.int .i64 bs.length)∧w'=w:=Any.Builder_Len Tryz.lays170 B b bs w h
def Tryz.lays169_ren:Go.Shelf.Ren:=⟨fun | 169=>25 | n=>n,fun | 70=>66 | 9=>9 | 0=>0 | 72=>69 | 37=>67 | 127=>103 | 3=>3 | 5=>5 | n=>n,fun | n=>n⟩
theorem Tryz.lays169:Go.Proofs.Lays.n169 Tryz.prog Tryz.lays169_ren:={
 mixed:=by kernel_rfl
 f169:=Tryz.func25.trans (congrArg some (by kernel_rfl))
 t0:=Tryz.underlying0
 a0:=Tryz.isAgg0
 z0:=Tryz.sizeOf0
 v0:=Tryz.zeroValue0
 t3:=Tryz.underlying3
 a3:=Tryz.isAgg3
 z3:=Tryz.sizeOf3
 v3:=Tryz.zeroValue3
 t9:=Tryz.underlying9
 a9:=Tryz.isAgg9
 z9:=Tryz.sizeOf9
 v9:=Tryz.zeroValue9
 t37:=Tryz.underlying67
 a37:=Tryz.isAgg67
 z37:=Tryz.sizeOf67
 v37:=Tryz.zeroValue67
 t70:=Tryz.underlying66
 a70:=Tryz.isAgg66
 z70:=Tryz.sizeOf66
 v70:=Tryz.zeroValue66
 t72:=Tryz.underlying69
 a72:=Tryz.isAgg69
 z72:=Tryz.sizeOf69
 v72:=Tryz.zeroValue69
 t127:=Tryz.underlying103
 a127:=Tryz.isAgg103
 z127:=Tryz.sizeOf103
 v127:=Tryz.zeroValue103 }
theorem Tryz.Builder_Extra_169:Builder.Extra Tryz.prog Tryz.lays169_ren:={
 sizeBuilder:=by kernel_rfl
 liesBuilder:=by kernel_rfl
 t5:=Tryz.underlying5
 a5:=Tryz.isAgg5
 z5:=Tryz.sizeOf5
 v5:=Tryz.zeroValue5
 infoByte:=by kernel_rfl
 cellsByte:=by kernel_rfl
 sizeByte:=by kernel_rfl
 neB5:=by decide }
open Go.RowKit in
theorem Tryz.Builder_String_any (B b:Nat) (l:List UInt8) (w:World) (h:Lib.IsBuilder 69 5 B b (Lib.byteCells l) w) (hBw:B≤w.heap.size) :
 Calls Tryz.prog 25 #[.pointer (some ⟨b,0,none⟩)] w fun e w'=>e=.returned (.string ⟨l.toArray⟩)∧Below B w w':=Any.Builder_String_any Tryz.lays169 Tryz.Builder_Extra_169 B b l w h hBw
end Go.Proofs
namespace Go.Proofs.YtmeiggjboakmpaaGreatDoor
open Go Go.RowKit
set_option maxRecDepth 100000
set_option maxHeartbeats 20000000
set_option linter.unusedVariables false
theorem BAt.is {B:Nat} {w:World} {b:Nat} {p v:Value} {bs:List Value} (h:BAt B w b p v bs):Lib.IsBuilder 69 5 B b bs w:=by
 obtain ⟨hb,hp,ho,hn,hl⟩:=h;rcases hp with rfl | rfl;·exact .inl ⟨hl,v,hb,ho,hn⟩
 ·exact .inr ⟨hl,v,hb,ho,hn⟩
theorem Zkk {B:Nat} {w:World} {b:Nat} {p v:Value} {bs:List Value} (h:BAt B w b p v bs) :
 Calls Tryz.prog 70 #[.pointer (some ⟨b,0,none⟩)] w fun e w'=>e=.returned (.int .i64 bs.length)∧w'=w:=Tryz.Builder_Len B b bs w h.is
theorem Zeb {B:Nat} {w:World} {b:Nat} {p v:Value} (l:List UInt8) (h:BAt B w b p v (Lib.byteCells l)) (hB:B≤w.heap.size) :
 Calls Tryz.prog 25 #[.pointer (some ⟨b,0,none⟩)] w fun e w'=>e=.returned (.string ⟨l.toArray⟩)∧Below B w w':=Tryz.Builder_String_any B b l w h.is hB
def Z69 (c:Int):Option UInt8:=if c=110 then some 10 else if c=39 then some 39 else if c=92 then some 92 else none
def Z0o (text:ByteArray):Nat→Nat→List UInt8→List UInt8×Int×Nat
 | 0,i,_=>([],3,i)
 | f + 1, i, acc =>
   if text.size≤i∨Zc text i=10 then ([],3,i)
   else if Zc text i=39 then (if 500 < acc.length then ([],4,i + 1) else (acc,0,i + 1))
   else if Zc text i=92 then
    (if i + 1 < text.size then
     match Z69 (Zc text (i + 1)) with
     | some e=>Z0o text f (i + 2) (acc ++ [e])
     | none=>([],3,i + 1)
    else ([],3,i + 1))
   else Z0o text f (i + 1) (acc ++ [text.data.getD i 0])
def Z0y (text:ByteArray) (i:Nat):List UInt8×Int×Nat:=Z0o text (text.size + 1 - i) i []
end Go.Proofs.YtmeiggjboakmpaaGreatDoor
namespace Go.Proofs
set_option maxRecDepth 100000
set_option maxHeartbeats 20000000
set_option linter.unusedVariables false
def Tryz.lays110_ren:Go.Shelf.Ren:=⟨fun | 110=>69 | 109=>98 | n=>n,fun | 31=>76 | 9=>9 | 4=>4 | 3=>3 | 0=>0 | n=>n,fun | n=>n⟩
theorem Tryz.lays110:Go.Proofs.Lays.n110 Tryz.prog Tryz.lays110_ren:={
 mixed:=by kernel_rfl
 f109:=Tryz.func98.trans (congrArg some (by kernel_rfl))
 f110:=Tryz.func69.trans (congrArg some (by kernel_rfl))
 t0:=Tryz.underlying0
 a0:=Tryz.isAgg0
 z0:=Tryz.sizeOf0
 v0:=Tryz.zeroValue0
 t3:=Tryz.underlying3
 a3:=Tryz.isAgg3
 z3:=Tryz.sizeOf3
 v3:=Tryz.zeroValue3
 t4:=Tryz.underlying4
 a4:=Tryz.isAgg4
 z4:=Tryz.sizeOf4
 v4:=Tryz.zeroValue4
 t9:=Tryz.underlying9
 a9:=Tryz.isAgg9
 z9:=Tryz.sizeOf9
 v9:=Tryz.zeroValue9
 t31:=Tryz.underlying76
 a31:=Tryz.isAgg76
 z31:=Tryz.sizeOf76
 v31:=Tryz.zeroValue76 }
open Go.Lib in
theorem Tryz.slices_Contains_string (b off n c:Nat) (zs:List ByteArray) (x:ByteArray) (w:World) (hz:n≤zs.length) (hbig:n≤9223372036854775807) (hc:∀ j,j < zs.length→w.cell? ⟨b,off + j,none⟩=some (.string (zs.getD j ByteArray.empty))) :
 Calls Tryz.prog 69 #[.slice (some ⟨b,off,none⟩) n c,.string x] w fun e w'=>e=.returned (.bool (Lib.containsS (zs.take n) x))∧w'=w:=Any.slices_Contains_string Tryz.lays110 b off n c zs x w hz hbig hc
end Go.Proofs
namespace Go.Proofs.YtmeiggjboakmpaaGreatDoor
open Go Go.RowKit
set_option maxRecDepth 100000
set_option maxHeartbeats 20000000
set_option linter.unusedVariables false
def Z55:List ByteArray:=match (Rows.laid_sloppyscope_lex_wordList:DataW Unit) with
 | .agg l => l.map fun
   | .lit (.string bs)=>⟨bs.toArray⟩
   | _=>⟨#[]⟩
 | _=>[]
theorem Z6n:Z55.length=19:=by kernel_rfl
def Z2u (s:ByteArray):Bool:=Lib.containsS Z55 s
def Words (w:World):Prop:=∀ j,j < 19→w.cell? ⟨3,j,none⟩=some (.string (Z55.getD j ByteArray.empty))
theorem Zed (w:World) (s:ByteArray) (hW:Words w) :
 Calls Tryz.prog 47 #[.string s] w fun e w'=>e=.returned (.bool (Z2u s))∧w'=w:=by
 have HC:=Tryz.slices_Contains_string 3 0 19 19 Z55 s w (by rw [Z6n]; omega) (by omega) (fun j hj=>by rw [Nat.zero_add]; exact hW j (by rw [Z6n] at hj; exact hj));rw [show Z55.take 19=Z55 by rw [← Z6n]; exact List.take_length] at HC;have HC:=Lib.hid HC;clear hW;unfold Z2u;generalize Lib.containsS Z55 s=B at HC ⊢;go_enter Tryz.func47,Tryz.ntmps47
 go_wp2_with fail
 refine HC.out.mono ?_;rintro e w1 ⟨rfl,rfl⟩;go_wp2;go_ret;exact ⟨rfl,rfl⟩
structure Tok where
 kind:Int
 text:ByteArray
 n:Int
 at':Nat
def numF (text:ByteArray) (k:Nat):Nat→Nat→Int→Int
 | 0,_,n=>n
 | f + 1,i,n=>if i < k then numF text k f (i + 1) (10 * n + (Zc text i - 48)) else n
def Z0a (text:ByteArray) (j:Nat):Nat:=
 if Zc text j=61∧Zc text (j + 1)=61∧Zc text (j + 2)=61 then 3
 else if Zc text j=38∧Zc text (j + 1)=38 then 2
 else if Zc text j=124∧Zc text (j + 1)=124 then 2
 else 1
def Z5f (c:Int):Bool:=c == 40 || c == 41 || c == 123 || c == 125 || c == 91 || c == 93 || c == 59 || c == 58 || c == 44 || c == 46 || c == 61 || c == 43 || c == 45 || c == 42 || c == 60 || c == 33
def Z1f (text:ByteArray) (j:Nat):Except (Int×Nat) (Tok×Nat):=
 if Z13 (Zc text j) then
  let k:=Z03 Z2r text (text.size - j) j
  if Z2u (text.extract j k) then .ok (⟨2,text.extract j k,0,j⟩,k)
  else if 20 < k - j then .error (4,j)
  else .ok (⟨1,text.extract j k,0,j⟩,k)
 else if Z0q (Zc text j) then
  let k:=Z03 Z0q text (text.size - j) j
  if 10 < k - j∨(1 < k - j∧Zc text j=48) then .error (3,j)
  else if 1000000000 < numF text k (k - j) j 0 then .error (2,j)
  else .ok (⟨3,ByteArray.empty,numF text k (k - j) j 0,j⟩,k)
 else if Zc text j=39 then
  if (Z0y text (j + 1)).2.1=4 then .error (4,j)
  else if (Z0y text (j + 1)).2.1≠0 then .error (3,(Z0y text (j + 1)).2.2)
  else .ok (⟨4,⟨(Z0y text (j + 1)).1.toArray⟩,0,j⟩,(Z0y text (j + 1)).2.2)
 else if Z0a text j=1∧Z5f (Zc text j)=false then .error (3,j)
 else .ok (⟨5,text.extract j (j + Z0a text j),0,j⟩,j + Z0a text j)
def lexF (text:ByteArray):Nat→Nat→List Tok→Except (Int×Nat) (List Tok)
 | 0,_,acc=>.ok acc
 | f + 1, i, acc =>
   let j:=Z03 Z0x text (text.size - i) i
   if text.size≤j then .ok (acc ++ [⟨6,ByteArray.empty,0,j⟩])
   else match Z1f text j with
    | .error e=>.error e
    | .ok (t,k)=>lexF text f k (acc ++ [t])
def Z6d (text:ByteArray):Except (Int×Nat) (List Tok):=lexF text (text.size + 1) 0 []
theorem Z4n {text:ByteArray} {i:Nat} (h:text.size≤i):Zc text i=0:=by
 have h':¬ i < text.data.size:=by change ¬ i < text.size; omega
 unfold Zc Array.getD;rw [dif_neg h'];rfl
theorem Z4z {text:ByteArray} {i:Nat} (h:Zc text i≠0):i < text.size:=by
 rcases Nat.lt_or_ge i text.size with h' | h';·exact h'
 ·exact absurd (Z4n h') h
theorem getD_extract (text:ByteArray) {j k i:Nat} (h:i < k - j) (hk:k≤text.size):(text.extract j k).data.getD i 0=text.data.getD (j + i) 0:=by
 have h2:j + i < text.data.size:=by change _ < text.size; omega
 have h1:i < (text.extract j k).data.size:=by
  change i < (text.extract j k).size;rw [ByteArray.size_extract]; omega
 simp only [Array.getD,dif_pos h1,dif_pos h2];simp [ByteArray.data_extract]
theorem Z05 (text:ByteArray) {j k i:Nat} (h:i < k - j) (hk:k≤text.size):Zc (text.extract j k) i=Zc text (j + i):=by
 unfold Zc; rw [getD_extract text h hk]
theorem Z3n (text:ByteArray) {j k:Nat} (hk:k≤text.size):(text.extract j k).size=k - j:=by
 rw [ByteArray.size_extract]; omega
theorem Z12 (p:Int→Bool) (text:ByteArray):∀ (f i:Nat),text.size - i≤f→i≤text.size →
 i≤Z03 p text f i∧Z03 p text f i≤text.size∧(∀ m,i≤m→m < Z03 p text f i→p (Zc text m)=true)∧(Z03 p text f i < text.size→p (Zc text (Z03 p text f i))=false):=by
 intro f;induction f with
 | zero=>intro i h hi; simp only [Z03]; exact ⟨Nat.le_refl _,hi,fun m h1 h2=>by omega,fun h'=>by omega⟩
 | succ f ih =>
   intro i h hi;simp only [Z03];by_cases hc:i < text.size∧p (Zc text i)=true
   ·rw [if_pos (by simp [hc.1, hc.2])];obtain ⟨h1, h2, h3, h4⟩ := ih (i + 1) (by omega) (by omega);refine ⟨by omega, h2, fun m hm hm2 => ?_, h4⟩;by_cases e : m = i;·rw [e]; exact hc.2
    ·exact h3 m (by omega) hm2
   ·rw [if_neg (by simpa using hc)];refine ⟨Nat.le_refl _,hi,fun m h1 h2=>by omega,fun h'=>?_⟩;simpa [h'] using hc
theorem Z3j (p:Int→Bool) (text:ByteArray):∀ (f i k:Nat),text.size - i≤f→i≤k→k≤text.size→(∀ m,i≤m→m < k→p (Zc text m)=true)→(k < text.size→p (Zc text k)=false)→Z03 p text f i=k:=by
 intro f;induction f with
 | zero=>intro i k h h1 h2 _ _; simp only [Z03]; omega
 | succ f ih =>
   intro i k h h1 h2 h3 h4;simp only [Z03];by_cases e:i=k
   ·subst e;rw [if_neg];simp only [Bool.and_eq_true,decide_eq_true_eq,not_and,Bool.not_eq_true];exact h4
   ·rw [if_pos (by simp [h3 i (Nat.le_refl _) (by omega)]; omega)];exact ih (i + 1) k (by omega) (by omega) h2 (fun m a b=>h3 m (by omega) b) h4
theorem Z9d (p:Int→Bool) (text:ByteArray) {j k:Nat} (hj:j < text.size) (hk:Z03 p text (text.size - j) j=k) :
 Z03 p (text.extract j k) ((text.extract j k).size - 0) 0=k - j:=by
 obtain ⟨h1,h2,h3,h4⟩:=Z12 p text (text.size - j) j (Nat.le_refl _) (by omega);rw [hk] at h1 h2 h3 h4;have hs:=Z3n text (j:=j) h2;refine Z3j p _ _ _ _ (by omega) (by omega) (by omega) (fun m _ hm=>?_) (fun h=>by omega);rw [Z05 text hm h2];exact h3 _ (by omega) (by omega)
theorem Zjb (text:ByteArray) {j k:Nat} (hk:k≤text.size):∀ (f i:Nat) (n:Int),j≤i→numF (text.extract j k) (k - j) f (i - j) n=numF text k f i n:=by
 intro f;induction f with
 | zero=>intro i n _; rfl
 | succ f ih =>
   intro i n hi;simp only [numF];by_cases h:i < k
   ·rw [if_pos (by omega),if_pos h,Z05 text (by omega) hk,show j + (i - j)=i by omega,show i - j + 1=i + 1 - j by omega];exact ih (i + 1) _ (by omega)
   ·rw [if_neg (by omega),if_neg h]
theorem Zch (text:ByteArray) {j:Nat}:∀ (f i:Nat) (acc bs:List UInt8) (k:Nat),j≤i→Z0o text f i acc=(bs,0,k) →
 i < k∧k≤text.size∧Zc text (k - 1)=39∧∀ f',k - i≤f'→Z0o (text.extract j k) f' (i - j) acc=(bs,0,k - j):=by
 intro f;induction f with
 | zero=>intro i acc bs k _ h; simp [Z0o] at h
 | succ f ih =>
   intro i acc bs k hj h;simp only [Z0o] at h;by_cases h1:text.size≤i∨Zc text i=10;·rw [if_pos h1] at h; simp at h
   rw [if_neg h1] at h;simp only [not_or,Nat.not_le] at h1;by_cases h2:Zc text i=39
   ·rw [if_pos h2] at h;by_cases h3 : 500 < acc.length;·rw [if_pos h3] at h; simp at h
    rw [if_neg h3] at h;simp only [Prod.mk.injEq,true_and] at h;obtain ⟨rfl,rfl⟩:=h;refine ⟨by omega,by omega,by simpa using h2,fun f' hf=>?_⟩;obtain ⟨g,rfl⟩:∃ g,f'=g + 1:=⟨f' - 1,by omega⟩
    have hb:Zc (text.extract j (i + 1)) (i - j)=Zc text i:=by
     rw [Z05 text (by omega) (by omega),show j + (i - j)=i by omega]
    have hs:=Z3n text (j:=j) (k:=i + 1) (by omega);simp only [Z0o,hb,hs];rw [if_neg (by omega),if_pos h2,if_neg h3,show i - j + 1=i + 1 - j by omega]
   rw [if_neg h2] at h;by_cases h3:Zc text i=92
   ·rw [if_pos h3] at h;by_cases h4 : i + 1 < text.size
    ·rw [if_pos h4] at h;cases he : Z69 (Zc text (i + 1)) with
     | none=>rw [he] at h; simp at h
     | some e =>
       rw [he] at h;simp only at h;obtain ⟨g1,g2,g3,g4⟩:=ih (i + 2) _ bs k (by omega) h;refine ⟨by omega,g2,g3,fun f' hf=>?_⟩;obtain ⟨g,rfl⟩:∃ g,f'=g + 1:=⟨f' - 1,by omega⟩
       have hb:Zc (text.extract j k) (i - j)=Zc text i:=by
        rw [Z05 text (by omega) (by omega),show j + (i - j)=i by omega]
       have hb1:Zc (text.extract j k) (i - j + 1)=Zc text (i + 1):=by
        rw [Z05 text (by omega) (by omega),show j + (i - j + 1)=i + 1 by omega]
       have hs:=Z3n text (j:=j) (k:=k) g2;simp only [Z0o,hb,hs,hb1];rw [if_neg (by omega),if_neg h2,if_pos h3,if_pos (by omega),he];simp only;rw [show i - j + 2=i + 2 - j by omega];exact g4 g (by omega)
    ·rw [if_neg h4] at h; simp at h
   ·rw [if_neg h3] at h;obtain ⟨g1, g2, g3, g4⟩ := ih (i + 1) _ bs k (by omega) h;refine ⟨by omega, g2, g3, fun f' hf => ?_⟩;obtain ⟨g, rfl⟩ : ∃ g, f' = g + 1 := ⟨f' - 1, by omega⟩
    have hb:Zc (text.extract j k) (i - j)=Zc text i:=by
     rw [Z05 text (by omega) (by omega),show j + (i - j)=i by omega]
    have hd:(text.extract j k).data.getD (i - j) 0=text.data.getD i 0:=by
     rw [getD_extract text (by omega) (by omega),show j + (i - j)=i by omega]
    have hs:=Z3n text (j:=j) (k:=k) g2;simp only [Z0o,hb,hs,hd];rw [if_neg (by omega),if_neg h2,if_neg h3,show i - j + 1=i + 1 - j by omega];exact g4 g (by omega)
theorem Z2g {c:Int} (h:Z2r c=true):Z0x c=false:=by
 unfold Z2r Z13 Z0q at h;unfold Z0x;simp only [Bool.or_eq_true,Bool.and_eq_true,decide_eq_true_eq] at h;simp only [Bool.or_eq_false_iff,decide_eq_false_iff_not];omega
theorem Z2s {c:Int} (h:Z13 c=true):Z2r c=true:=by simp [Z2r,h]
theorem Z83 {c:Int} (h:Z0q c=true):Z2r c=true:=by simp [Z2r,h]
theorem Zi3 {c:Int} (h:Z5f c=true):c≠0∧Z0x c=false:=by
 simp only [Z5f,Bool.or_eq_true,beq_iff_eq] at h;simp only [Z0x,Bool.or_eq_false_iff,decide_eq_false_iff_not];omega
theorem extract_all (b:ByteArray) (n:Nat) (h:n=b.size):b.extract 0 n=b:=by subst h; simp
theorem Zcl (text:ByteArray) (j:Nat) (h:Z0a text j=1→Z5f (Zc text j)=true) :
 1 ≤ Z0a text j ∧ j + Z0a text j ≤ text.size ∧ (∀ m, j ≤ m → m < j + Z0a text j → Z0x (Zc text m) = false) ∧ Z0a (text.extract j (j + Z0a text j)) 0 = Z0a text j ∧
   (Z0a text j=1→Zc (text.extract j (j + Z0a text j)) 0=Zc text j)∧Zc (text.extract j (j + Z0a text j)) 0=Zc text j:=by
 by_cases h3:Zc text j=61∧Zc text (j + 1)=61∧Zc text (j + 2)=61
 ·have e : Z0a text j = 3 := by simp [Z0a, h3]
  rw [e];have hl:=Z4z (text:=text) (i:=j + 2) (by omega);have b0:=Z05 text (j:=j) (k:=j + 3) (i:=0) (by omega) (by omega);have b1:=Z05 text (j:=j) (k:=j + 3) (i:=1) (by omega) (by omega);have b2:=Z05 text (j:=j) (k:=j + 3) (i:=2) (by omega) (by omega);refine ⟨by omega,by omega,fun m h1 h2=>?_,?_,fun _=>by rw [b0,Nat.add_zero],by rw [b0,Nat.add_zero]⟩
  ·have : m = j ∨ m = j + 1 ∨ m = j + 2 := by omega
   rcases this with rfl | rfl | rfl <;> simp [Z0x,h3]
  ·unfold Z0a; rw [show 0 + 1=1 by rfl,show 0 + 2=2 by rfl,b0,b1,b2,Nat.add_zero,if_pos h3]
 ·by_cases h2 : Zc text j = 38 ∧ Zc text (j + 1) = 38
  ·have e : Z0a text j = 2 := by simp [Z0a, h2]
   rw [e];have hl:=Z4z (text:=text) (i:=j + 1) (by omega);have b0:=Z05 text (j:=j) (k:=j + 2) (i:=0) (by omega) (by omega);have b1:=Z05 text (j:=j) (k:=j + 2) (i:=1) (by omega) (by omega);refine ⟨by omega,by omega,fun m h1 h2'=>?_,?_,fun _=>by rw [b0,Nat.add_zero],by rw [b0,Nat.add_zero]⟩
   ·have : m = j ∨ m = j + 1 := by omega
    rcases this with rfl | rfl <;> simp [Z0x,h2]
   ·unfold Z0a; rw [show 0 + 1=1 by rfl,show 0 + 2=2 by rfl,b0,b1,Nat.add_zero,if_neg (by omega),if_pos h2]
  ·by_cases h1 : Zc text j = 124 ∧ Zc text (j + 1) = 124
   ·have e : Z0a text j = 2 := by simp [Z0a, h1]
    rw [e];have hl:=Z4z (text:=text) (i:=j + 1) (by omega);have b0:=Z05 text (j:=j) (k:=j + 2) (i:=0) (by omega) (by omega);have b1:=Z05 text (j:=j) (k:=j + 2) (i:=1) (by omega) (by omega);refine ⟨by omega,by omega,fun m h1' h2'=>?_,?_,fun _=>by rw [b0,Nat.add_zero],by rw [b0,Nat.add_zero]⟩
    ·have : m = j ∨ m = j + 1 := by omega
     rcases this with rfl | rfl <;> simp [Z0x,h1]
    ·unfold Z0a; rw [show 0 + 1=1 by rfl,show 0 + 2=2 by rfl,b0,b1,Nat.add_zero,if_neg (by omega),if_neg (by omega),if_pos h1]
   ·have e : Z0a text j = 1 := by simp [Z0a, h3, h2, h1]
    have hs:=h e;rw [e];have hp:=Zi3 hs;have hl:=Z4z hp.1;have b0:=Z05 text (j:=j) (k:=j + 1) (i:=0) (by omega) (by omega);have b1:=Z4n (text:=text.extract j (j + 1)) (i:=1) (by rw [Z3n text (by omega)]; omega);refine ⟨by omega,by omega,fun m h1' h2'=>?_,?_,fun _=>by rw [b0,Nat.add_zero],by rw [b0,Nat.add_zero]⟩
    ·obtain rfl : m = j := by omega
     exact hp.2
    ·unfold Z0a; rw [show 0 + 1=1 by rfl,show 0 + 2=2 by rfl,b1,if_neg (by omega),if_neg (by omega),if_neg (by omega)]
theorem Z2j (text:ByteArray) {j k:Nat} {t:Tok} (hj:j < text.size) (h:Z1f text j=.ok (t,k)) :
 j < k ∧ k ≤ text.size ∧ t.at' = j ∧ t.kind ≠ 6 ∧ Z0x (Zc text j) = false ∧ Z0x (Zc text (k - 1)) = false ∧
   Z1f (text.extract j k) 0=.ok ({ t with at':=0 },k - j):=by
 unfold Z1f at h;by_cases hl:Z13 (Zc text j)=true
 ·rw [if_pos hl] at h;simp only at h;obtain ⟨K, hK⟩ : ∃ K, Z03 Z2r text (text.size - j) j = K := ⟨_, rfl⟩
  rw [hK] at h;obtain ⟨s1,s2,s3,s4⟩:=Z12 Z2r text (text.size - j) j (Nat.le_refl _) (by omega);have hcut:=Z9d Z2r text hj hK;rw [hK] at s1 s2 s3 s4;have hjK:j < K:=by
   rcases Nat.lt_or_ge j K with h' | h';·exact h'
   ·have:=s4 (by omega);rw [show K=j by omega,Z2s hl] at this;cases this
  have hb0:Zc (text.extract j K) 0=Zc text j:=by rw [Z05 text (by omega) s2,Nat.add_zero]
  have hbl:=Z2g (s3 (K - 1) (by omega) (by omega));have hall:(text.extract j K).extract 0 (K - j)=text.extract j K:=extract_all _ _ (Z3n text s2).symm;by_cases hw:Z2u (text.extract j K)=true
  ·rw [if_pos hw] at h;simp only [Except.ok.injEq,Prod.mk.injEq] at h;obtain ⟨rfl,rfl⟩:=h;refine ⟨hjK,s2,rfl,by simp,Z2g (Z2s hl),hbl,?_⟩;unfold Z1f;rw [hb0,if_pos hl];simp only [hcut,hall];rw [if_pos hw]
  ·rw [if_neg hw] at h;by_cases h20 : 20 < K - j;·rw [if_pos h20] at h; cases h
   ·rw [if_neg h20] at h;simp only [Except.ok.injEq,Prod.mk.injEq] at h;obtain ⟨rfl,rfl⟩:=h;refine ⟨hjK,s2,rfl,by simp,Z2g (Z2s hl),hbl,?_⟩;unfold Z1f;rw [hb0,if_pos hl];simp only [hcut,hall];rw [if_neg hw,if_neg (by omega)]
 rw [if_neg hl] at h;by_cases hd:Z0q (Zc text j)=true
 ·rw [if_pos hd] at h;simp only at h;obtain ⟨K, hK⟩ : ∃ K, Z03 Z0q text (text.size - j) j = K := ⟨_, rfl⟩
  rw [hK] at h;obtain ⟨s1,s2,s3,s4⟩:=Z12 Z0q text (text.size - j) j (Nat.le_refl _) (by omega);have hcut:=Z9d Z0q text hj hK;rw [hK] at s1 s2 s3 s4;have hjK:j < K:=by
   rcases Nat.lt_or_ge j K with h' | h';·exact h'
   ·have:=s4 (by omega);rw [show K=j by omega,hd] at this;cases this
  have hb0:Zc (text.extract j K) 0=Zc text j:=by rw [Z05 text (by omega) s2,Nat.add_zero]
  have hbl:=Z2g (Z83 (s3 (K - 1) (by omega) (by omega)));have hnum:=Zjb text (j:=j) s2 (K - j) j 0 (Nat.le_refl _);rw [Nat.sub_self] at hnum;by_cases h1:10 < K - j∨(1 < K - j∧Zc text j=48);·rw [if_pos h1] at h; cases h
  rw [if_neg h1] at h;by_cases h2:1000000000 < numF text K (K - j) j 0;·rw [if_pos h2] at h; cases h
  rw [if_neg h2] at h;simp only [Except.ok.injEq,Prod.mk.injEq] at h;obtain ⟨rfl,rfl⟩:=h;refine ⟨hjK,s2,rfl,by simp,Z2g (Z83 hd),hbl,?_⟩;unfold Z1f;rw [hb0,if_neg hl,if_pos hd];simp only [hcut];simp only [Nat.sub_zero,hnum];rw [if_neg h1,if_neg h2]
 rw [if_neg hd] at h;by_cases hq:Zc text j=39
 ·rw [if_pos hq] at h;obtain ⟨⟨bs, e, K⟩, hR⟩ : ∃ R, R = Z0y text (j + 1) := ⟨_, rfl⟩
  rw [← hR] at h;simp only at h;by_cases h4:e=4;·rw [if_pos h4] at h; cases h
  rw [if_neg h4] at h;by_cases h0:e≠0;·rw [if_pos h0] at h; cases h
  rw [if_neg h0] at h;simp only [ne_eq,Decidable.not_not] at h0;subst h0;simp only [Except.ok.injEq,Prod.mk.injEq] at h;obtain ⟨rfl,rfl⟩:=h;obtain ⟨g1,g2,g3,g4⟩:=Zch text (j:=j) _ _ _ _ _ (by omega) hR.symm;refine ⟨by omega,g2,rfl,by simp,by rw [hq]; rfl,by rw [g3]; rfl,?_⟩;have hb0:Zc (text.extract j K) 0=Zc text j:=by rw [Z05 text (by omega) g2,Nat.add_zero]
  have hqa:Z0y (text.extract j K) (0 + 1)=(bs,0,K - j):=by
   have:=g4 ((text.extract j K).size + 1 - (0 + 1)) (by rw [Z3n text g2]; omega);rw [show j + 1 - j=0 + 1 by omega] at this;exact this
  unfold Z1f;rw [hb0,if_neg hl,if_neg hd,if_pos hq,hqa];simp
 rw [if_neg hq] at h;by_cases hs:Z0a text j=1∧Z5f (Zc text j)=false;·rw [if_pos hs] at h; cases h
 rw [if_neg hs] at h;simp only [Except.ok.injEq,Prod.mk.injEq] at h;obtain ⟨rfl,rfl⟩:=h;obtain ⟨g1,g2,g3,g4,g5,g6⟩:=Zcl text j (fun e=>by
  cases hb:Z5f (Zc text j) with
  | true=>rfl
  | false=>exact absurd ⟨e,hb⟩ hs)
 refine ⟨by omega,g2,rfl,by simp,g3 j (Nat.le_refl _) (by omega),g3 _ (by omega) (by omega),?_⟩;have hall:(text.extract j (j + Z0a text j)).extract 0 (0 + Z0a text j)=text.extract j (j + Z0a text j):=extract_all _ _ (by rw [Z3n text g2]; omega);unfold Z1f;rw [g6,if_neg hl,if_neg hd,if_neg hq,g4,if_neg hs,hall];simp
def Z6x (text:ByteArray):Nat→List Tok→Prop
 | _,[]=>False
 | i,[t]=>text.size≤Z03 Z0x text (text.size - i) i∧t=⟨6,ByteArray.empty,0,Z03 Z0x text (text.size - i) i⟩
 | i,t :: u :: l=>∃ k,Z03 Z0x text (text.size - i) i < text.size∧Z1f text (Z03 Z0x text (text.size - i) i)=.ok (t,k)∧Z6x text k (u :: l)
theorem Zf0 (text:ByteArray):∀ (f i:Nat) (acc l:List Tok),i≤text.size→text.size - i < f→lexF text f i acc=.ok l→∃ r,l=acc ++ r∧Z6x text i r:=by
 intro f;induction f with
 | zero=>intro i acc l _ h2; omega
 | succ f ih =>
   intro i acc l hi hf h;simp only [lexF] at h;obtain ⟨s1,s2,_,_⟩:=Z12 Z0x text (text.size - i) i (Nat.le_refl _) hi;by_cases hj:text.size≤Z03 Z0x text (text.size - i) i
   ·rw [if_pos hj] at h;simp only [Except.ok.injEq] at h;exact ⟨_,h.symm,hj,rfl⟩
   ·rw [if_neg hj] at h;cases ht : Z1f text (Z03 Z0x text (text.size - i) i) with
    | error e=>rw [ht] at h; cases h
    | ok x =>
      obtain ⟨t,k⟩:=x;rw [ht] at h;simp only at h;obtain ⟨c1,c2,_,_,_,_,_⟩:=Z2j text (by omega) ht;obtain ⟨r,hr,hS⟩:=ih k _ l c2 (by omega) h;refine ⟨t :: r,by simp [hr],?_⟩;cases r with
      | nil=>exact hS.elim
      | cons u r=>exact ⟨k,by omega,ht,hS⟩
theorem Z68 {text:ByteArray} {l:List Tok} (h:Z6d text=.ok l):Z6x text 0 l:=by
 obtain ⟨r,hr,hS⟩:=Zf0 text _ 0 [] l (Nat.zero_le _) (by omega) h;rw [hr]; exact hS
inductive Tree
 | mk (kind:Int) (text:ByteArray) (n:Int) (kids:List Tree)
def Tree.kind:Tree→Int | .mk k _ _ _=>k
def Tree.text:Tree→ByteArray | .mk _ t _ _=>t
def Tree.n:Tree→Int | .mk _ _ n _=>n
def Tree.kids:Tree→List Tree | .mk _ _ _ l=>l
abbrev PR:=Option (Except (Int×Nat) (Tree×List Tok))
def hdT (ts:List Tok):Tok:=ts.headD ⟨6,ByteArray.empty,0,0⟩
def isT (s:ByteArray) (ts:List Tok):Bool:=(decide ((hdT ts).kind=5) || decide ((hdT ts).kind=2)) && Z15 (hdT ts).text s
def Z2t (e:Int) (ts:List Tok):PR:=some (.error (e,(hdT ts).at'))
def okT (t:Tree) (ts:List Tok):PR:=some (.ok (t,ts))
def Z1e (s:ByteArray) (ts:List Tok) (k:List Tok→PR):PR:=if isT s ts then k ts.tail else Z2t 3 ts
def Z3f (ts:List Tok) (k:ByteArray→List Tok→PR):PR:=if (hdT ts).kind=1 then k (hdT ts).text ts.tail else Z2t 3 ts
def Z0g (p:PR) (k:Tree→List Tok→PR):PR:=match p with | none=>none | some (.error e)=>some (.error e) | some (.ok (t,ts))=>k t ts
def Zi:ByteArray:=⟨#[123]⟩
def Z01:ByteArray:=⟨#[125]⟩
def Z0v:ByteArray:=⟨#[40]⟩
def Z0u:ByteArray:=⟨#[41]⟩
def Zs:ByteArray:=⟨#[59]⟩
def Z1b:ByteArray:=⟨#[44]⟩
def Z30:ByteArray:=⟨#[58]⟩
def Z93:ByteArray:=⟨#[46]⟩
def s_eq:ByteArray:=⟨#[61]⟩
def Z19:ByteArray:=⟨#[118,97,114]⟩
def Z1c:ByteArray:=⟨#[108,101,116]⟩
def Z06:ByteArray:=⟨#[99,111,110,115,116]⟩
def Ze:ByteArray:=⟨#[102,117,110,99,116,105,111,110]⟩
def s_if:ByteArray:=⟨#[105,102]⟩
def Z1y:ByteArray:=⟨#[101,108,115,101]⟩
def Zz:ByteArray:=⟨#[119,104,105,108,101]⟩
def Z0d:ByteArray:=⟨#[119,105,116,104]⟩
def Z08:ByteArray:=⟨#[114,101,116,117,114,110]⟩
def Z0s:ByteArray:=⟨#[116,104,114,111,119]⟩
def Z1j:ByteArray:=⟨#[116,114,121]⟩
def Z0t:ByteArray:=⟨#[99,97,116,99,104]⟩
def Zt:ByteArray:=⟨#[102,105,110,97,108,108,121]⟩
def Z5h:ByteArray:=⟨#[33]⟩
def Z1l:ByteArray:=⟨#[116,121,112,101,111,102]⟩
def Z1t:ByteArray:=⟨#[100,101,108,101,116,101]⟩
def Z45:ByteArray:=⟨#[116,114,117,101]⟩
def Z36:ByteArray:=⟨#[102,97,108,115,101]⟩
def Z4q:ByteArray:=⟨#[110,117,108,108]⟩
def Z1o:ByteArray:=⟨#[117,110,100,101,102,105,110,101,100]⟩
def s_or:ByteArray:=⟨#[124,124]⟩
def Z5n:ByteArray:=⟨#[38,38]⟩
def Z3h:ByteArray:=⟨#[61,61,61]⟩
def Z4i:ByteArray:=⟨#[60]⟩
def Z51:ByteArray:=⟨#[43]⟩
def Z5p:ByteArray:=⟨#[45]⟩
def Z6o:ByteArray:=⟨#[42]⟩
def Z11:ByteArray:=⟨#[117,115,101,32,115,116,114,105,99,116]⟩
def Z1d:ByteArray:=⟨#[115,116,114,105,99,116]⟩
def Z1w (l:List Tree):Bool:=
 match l with
 | .mk k _ _ (x :: _) :: _=>decide (k=15) && decide (x.kind=18) && Z15 x.text Z11
 | _=>false
def Z2i (level:Nat) (ts:List Tok):Int:=
 match level with
 | 0=>if isT s_or ts then 25 else 0
 | 1=>if isT Z5n ts then 26 else 0
 | 2=>if isT Z3h ts then 27 else 0
 | 3=>if isT Z4i ts then 28 else 0
 | 4=>if isT Z51 ts then 29 else if isT Z5p ts then 30 else 0
 | 5=>if isT Z6o ts then 31 else 0
 | _=>0
def Z3g (ts:List Tok):Int:=if isT Z5h ts then 32 else if isT Z1l ts then 33 else if isT Z1t ts then 34 else 0
def Z3t (ts:List Tok):Int:=if isT Z45 ts then 19 else if isT Z36 ts then 20 else if isT Z4q ts then 21 else if isT Z1o ts then 22 else 0
inductive Job
 | stmts (kind:Int) (acc:List Tree)
 | block (body:Bool)
 | func (kind:Int) (text:ByteArray)
 | params (acc:List Tree)
 | around
 | stmt
 | decl (kind:Int) (must:Bool)
 | try_
 | value
 | assign
 | bin (level:Nat)
 | binLoop (level:Nat) (x:Tree)
 | unary
 | postfix_
 | postLoop (x:Tree)
 | args (acc:List Tree)
 | primary
 | object (acc:List Tree)
def endT (n:Tree) (ts:List Tok):PR:=Z1e Zs ts fun ts=>okT n ts
def Z18 (d:Nat) (ts:List Tok) (p:PR):PR:=if 30 < d + 1 then Z2t 4 ts else p
def Z0:Nat→Job→Nat→List Tok→PR
 | 0,_,_,_=>none
 | f + 1, .stmts kind acc, d, ts =>
   if (if kind=1 then decide ((hdT ts).kind=6) else isT Z01 ts) then okT (.mk kind (if Z1w acc then Z1d else ByteArray.empty) 0 acc) ts
   else Z0g (Z18 d ts (Z0 f .stmt (d + 1) ts)) fun x ts=>Z0 f (.stmts kind (acc ++ [x])) d ts
 | f + 1, .block body, d, ts =>
   Z1e Zi ts fun ts=>Z0g (Z0 f (.stmts 6 []) d ts) fun x ts=>Z1e Z01 ts fun ts=>okT (if body then x else .mk 6 ByteArray.empty 0 x.kids) ts
 | f + 1, .func kind text, d, ts =>
   Z1e Z0v ts fun ts=>Z0g (Z0 f (.params []) d ts) fun p ts=>Z1e Z0u ts fun ts=>Z0g (Z0 f (.block true) d ts) fun b ts=>okT (.mk kind text 0 [p,b]) ts
 | f + 1, .params acc, d, ts =>
   if isT Z0u ts then okT (.mk 40 ByteArray.empty 0 acc) ts
   else (if 0 < acc.length then Z1e Z1b ts else fun k=>k ts) fun ts=>
    if acc.length=8 then Z2t 4 ts else Z3f ts fun s ts=>Z0 f (.params (acc ++ [.mk 23 s 0 []])) d ts
 | f + 1, .around, d, ts =>
   Z1e Z0v ts fun ts=>Z0g (Z0 f .value d ts) fun x ts=>Z1e Z0u ts fun ts=>okT x ts
 | f + 1, .stmt, d, ts =>
   if isT Zi ts then Z0 f (.block false) d ts
   else if isT Zs ts then okT (.mk 16 ByteArray.empty 0 []) ts.tail
   else if isT Z19 ts then Z0g (Z0 f (.decl 2 false) d ts.tail) endT
   else if isT Z1c ts then Z0g (Z0 f (.decl 3 false) d ts.tail) endT
   else if isT Z06 ts then Z0g (Z0 f (.decl 4 true) d ts.tail) endT
   else if isT Ze ts then Z3f ts.tail fun s ts=>Z0 f (.func 5 s) d ts
   else if isT s_if ts then
    Z0g (Z0 f .around d ts.tail) fun x ts=>Z0g (Z18 d ts (Z0 f .stmt (d + 1) ts)) fun y ts=>
     if isT Z1y ts then Z0g (Z18 d ts.tail (Z0 f .stmt (d + 1) ts.tail)) fun z ts=>okT (.mk 7 ByteArray.empty 0 [x,y,z]) ts
     else okT (.mk 7 ByteArray.empty 0 [x,y]) ts
   else if isT Zz ts then
    Z0g (Z0 f .around d ts.tail) fun x ts=>Z0g (Z18 d ts (Z0 f .stmt (d + 1) ts)) fun y ts=>okT (.mk 8 ByteArray.empty 0 [x,y]) ts
   else if isT Z0d ts then
    Z0g (Z0 f .around d ts.tail) fun x ts=>Z0g (Z18 d ts (Z0 f .stmt (d + 1) ts)) fun y ts=>okT (.mk 9 ByteArray.empty 0 [x,y]) ts
   else if isT Z08 ts then
    if isT Zs ts.tail then endT (.mk 10 ByteArray.empty 0 []) ts.tail
    else Z0g (Z0 f .value d ts.tail) fun x ts=>endT (.mk 10 ByteArray.empty 0 [x]) ts
   else if isT Z0s ts then Z0g (Z0 f .value d ts.tail) fun x ts=>endT (.mk 11 ByteArray.empty 0 [x]) ts
   else if isT Z1j ts then Z0 f .try_ d ts.tail
   else Z0g (Z0 f .value d ts) fun x ts=>endT (.mk 15 ByteArray.empty 0 [x]) ts
 | f + 1, .decl kind must, d, ts =>
   Z3f ts fun s ts=>
    if must && !isT s_eq ts then Z2t 3 ts
    else if isT s_eq ts then Z0g (Z0 f .value d ts.tail) fun x ts=>okT (.mk kind s 0 [x]) ts
    else okT (.mk kind s 0 []) ts
 | f + 1, .try_, d, ts =>
   Z0g (Z0 f (.block false) d ts) fun b ts=>
    (fun (k : List Tree → List Tok → PR) =>
     if isT Z0t ts then Z1e Z0v ts.tail fun ts=>Z3f ts fun s ts=>Z1e Z0u ts fun ts=>Z0g (Z0 f (.block false) d ts) fun c ts=>k [b,.mk 13 s 0 [c]] ts
     else k [b] ts) fun l ts=>
    if isT Zt ts then Z0g (Z0 f (.block false) d ts.tail) fun c ts=>okT (.mk 12 ByteArray.empty 0 (l ++ [.mk 14 ByteArray.empty 0 [c]])) ts
    else if l.length=1 then Z2t 3 ts else okT (.mk 12 ByteArray.empty 0 l) ts
 | f + 1,.value,d,ts=>Z18 d ts (Z0 f .assign (d + 1) ts)
 | f + 1, .assign, d, ts =>
   Z0g (Z0 f (.bin 0) d ts) fun x ts'=>
    if isT s_eq ts' then
     if x.kind=23∨x.kind=36 then Z0g (Z0 f .value d ts'.tail) fun y ts=>okT (.mk 24 ByteArray.empty 0 [x,y]) ts
     else some (.error (1,(hdT ts).at'))
    else okT x ts'
 | f + 1, .bin level, d, ts =>
   if 6≤level then Z0 f .unary d ts
   else Z0g (Z0 f (.bin (level + 1)) d ts) fun x ts=>Z0 f (.binLoop level x) d ts
 | f + 1, .binLoop level x, d, ts =>
   if Z2i level ts=0 then okT x ts
   else Z0g (Z0 f (.bin (level + 1)) d ts.tail) fun y ts'=>Z0 f (.binLoop level (.mk (Z2i level ts) ByteArray.empty 0 [x,y])) d ts'
 | f + 1, .unary, d, ts =>
   if Z3g ts=0 then Z0 f .postfix_ d ts
   else Z0g (Z18 d ts.tail (Z0 f .unary (d + 1) ts.tail)) fun x ts'=>okT (.mk (Z3g ts) ByteArray.empty 0 [x]) ts'
 | f + 1,.postfix_,d,ts=>Z0g (Z0 f .primary d ts) fun x ts=>Z0 f (.postLoop x) d ts
 | f + 1, .postLoop x, d, ts =>
   if isT Z93 ts then Z3f ts.tail fun s ts=>Z0 f (.postLoop (.mk 36 s 0 [x])) d ts
   else if isT Z0v ts then Z0g (Z0 f (.args [x]) d ts.tail) fun n ts=>Z0 f (.postLoop n) d ts
   else okT x ts
 | f + 1, .args acc, d, ts =>
   if isT Z0u ts then okT (.mk 35 ByteArray.empty 0 acc) ts.tail
   else (if 1 < acc.length then Z1e Z1b ts else fun k=>k ts) fun ts=>
    if 8 < acc.length then Z2t 4 ts else Z0g (Z0 f .value d ts) fun v ts=>Z0 f (.args (acc ++ [v])) d ts
 | f + 1, .primary, d, ts =>
   if (hdT ts).kind=1 then okT (.mk 23 (hdT ts).text 0 []) ts.tail
   else if (hdT ts).kind=3 then okT (.mk 17 ByteArray.empty (hdT ts).n []) ts.tail
   else if (hdT ts).kind=4 then okT (.mk 18 (hdT ts).text 0 []) ts.tail
   else if Z3t ts≠0 then okT (.mk (Z3t ts) ByteArray.empty 0 []) ts.tail
   else if isT Z0v ts then Z0 f .around d ts
   else if isT Ze ts then
    if (hdT ts.tail).kind=1 then Z0 f (.func 37 (hdT ts.tail).text) d ts.tail.tail
    else Z0 f (.func 37 ByteArray.empty) d ts.tail
   else if isT Zi ts then Z0 f (.object []) d ts.tail
   else Z2t 3 ts
 | f + 1, .object acc, d, ts =>
   if isT Z01 ts then okT (.mk 38 ByteArray.empty 0 acc) ts.tail
   else (if 0 < acc.length then Z1e Z1b ts else fun k=>k ts) fun ts=>
    if acc.length=8 then Z2t 4 ts
    else Z3f ts fun s ts=>Z1e Z30 ts fun ts=>Z0g (Z0 f .value d ts) fun v ts=>Z0 f (.object (acc ++ [.mk 39 s 0 [v]])) d ts
mutual
def Tree.many:Tree→Nat
 | .mk _ _ _ l=>Zv l + 1
def Zv:List Tree→Nat
 | []=>0
 | t :: l=>t.many + Zv l
end
theorem Z0j {s:ByteArray} {ts:List Tok} (h:isT s ts=true):ts.tail.length < ts.length:=by
 cases ts with
 | nil=>simp [isT,hdT] at h
 | cons t l=>simp
theorem Z1a (ts:List Tok):ts.tail.length≤ts.length:=by cases ts <;> simp
theorem Z3l {ts:List Tok} (h:(hdT ts).kind≠6):ts.tail.length < ts.length:=by
 cases ts with
 | nil=>simp [hdT] at h
 | cons t l=>simp
def Leaves (n:Nat) (p:PR):Prop:=∀ t ts,p=some (.ok (t,ts))→ts.length < n
theorem Leaves.fail {n:Nat} {e:Int} {ts:List Tok}:Leaves n (Z2t e ts):=by intro t ts' h; cases h
theorem Leaves.none {n:Nat}:Leaves n none:=by intro t ts' h; cases h
theorem Leaves.err {n:Nat} {e:Int×Nat}:Leaves n (some (.error e)):=by intro t ts' h; cases h
theorem Leaves.ok {n:Nat} {t:Tree} {ts:List Tok} (h:ts.length < n):Leaves n (okT t ts):=by
 intro t' ts' h';simp only [okT,Option.some.injEq,Except.ok.injEq,Prod.mk.injEq] at h';rw [← h'.2]; exact h
theorem Leaves.bind {n m:Nat} {p:PR} {k:Tree→List Tok→PR} (hp:Leaves m p) (hk:∀ t ts,ts.length < m→Leaves n (k t ts)):Leaves n (Z0g p k):=by
 cases p with
 | none=>exact Leaves.none
 | some r =>
   cases r with
   | error e=>exact Leaves.err
   | ok x=>obtain ⟨t,ts⟩:=x; exact hk t ts (hp t ts rfl)
theorem Leaves.want {n:Nat} {s:ByteArray} {ts:List Tok} {k:List Tok→PR} (hk:ts.tail.length < ts.length→Leaves n (k ts.tail)):Leaves n (Z1e s ts k):=by
 unfold Z1e;by_cases h:isT s ts=true;·rw [if_pos h]; exact hk (Z0j h)
 ·rw [if_neg h]; exact Leaves.fail
theorem Leaves.name {n:Nat} {ts:List Tok} {k:ByteArray→List Tok→PR} (hk:∀ s,ts.tail.length < ts.length→Leaves n (k s ts.tail)):Leaves n (Z3f ts k):=by
 unfold Z3f;by_cases h:(hdT ts).kind=1;·rw [if_pos h]; exact hk _ (Z3l (by omega))
 ·rw [if_neg h]; exact Leaves.fail
theorem Leaves.within {n d:Nat} {ts:List Tok} {p:PR} (h:Leaves n p):Leaves n (Z18 d ts p):=by
 unfold Z18;by_cases h':30 < d + 1;·rw [if_pos h']; exact Leaves.fail
 ·rw [if_neg h']; exact h
theorem Leaves.ite {n:Nat} {c:Prop} [Decidable c] {p q:PR} (hp:c→Leaves n p) (hq:¬ c→Leaves n q):Leaves n (if c then p else q):=by
 by_cases h:c;·rw [if_pos h]; exact hp h
 ·rw [if_neg h]; exact hq h
theorem Leaves.comma {n:Nat} {c:Prop} [Decidable c] {ts:List Tok} {k:List Tok→PR} (hk:∀ ts',ts'.length≤ts.length→Leaves n (k ts')):Leaves n ((if c then Z1e Z1b ts else fun k=>k ts) k):=by
 by_cases h:c;·rw [if_pos h]; exact Leaves.want fun h'=>hk _ (by omega)
 ·rw [if_neg h]; exact hk _ (Nat.le_refl _)
def Job.least:Job→Nat
 | .stmts ..=>1
 | .params ..=>1
 | .binLoop ..=>1
 | .postLoop ..=>1
 | _=>0
theorem Z24:∀ (f:Nat) (job:Job) (d:Nat) (ts:List Tok),Leaves (ts.length + job.least) (Z0 f job d ts):=by
 intro f;induction f with
 | zero=>intro job d ts; unfold Z0; exact Leaves.none
 | succ f ih =>
   intro job d ts;have ih0:∀ {n:Nat} {job:Job} (d:Nat) (ts:List Tok),ts.length + job.least≤n→Leaves n (Z0 f job d ts):=fun d ts h t ts' e=>Nat.lt_of_lt_of_le (ih _ d ts t ts' e) h;cases job with
   | stmts kind acc =>
     unfold Z0;refine Leaves.ite (fun _=>Leaves.ok (by simp [Job.least])) fun _=>?_;exact Leaves.bind (Leaves.within (ih .stmt _ _)) fun t ts' h=>ih0 _ _ (by simp only [Job.least] at *; omega)
   | block body =>
     unfold Z0;refine Leaves.want fun h=>?_;refine Leaves.bind (ih (.stmts 6 []) _ _) fun t ts' h'=>?_;refine Leaves.want fun h''=>Leaves.ok ?_;simp only [Job.least] at *; omega
   | func kind text =>
     unfold Z0;refine Leaves.want fun h=>Leaves.bind (ih (.params []) _ _) fun t ts' h'=>Leaves.want fun h2=>Leaves.bind (ih (.block true) _ _) fun t ts' h3=>Leaves.ok ?_;simp only [Job.least] at *; omega
   | params acc =>
     unfold Z0;refine Leaves.ite (fun _=>Leaves.ok (by simp [Job.least])) fun _=>?_;refine Leaves.comma fun ts' h=>Leaves.ite (fun _=>Leaves.fail) fun _=>Leaves.name fun s h2=>ih0 _ _ ?_;simp only [Job.least] at *; omega
   | around =>
     unfold Z0;refine Leaves.want fun h=>Leaves.bind (ih .value _ _) fun t ts' h'=>Leaves.want fun h2=>Leaves.ok ?_;simp only [Job.least] at *; omega
   | stmt =>
     unfold Z0;have hend:∀ (n:Tree) (us:List Tok),us.length≤ts.length→Leaves (ts.length + Job.stmt.least) (endT n us):=fun n us h=>Leaves.want fun h2=>Leaves.ok (by simp only [Job.least] at *; omega);have htl:=Z1a ts;refine Leaves.ite (fun h=>ih0 _ _ (by simp [Job.least])) fun _=>?_;refine Leaves.ite (fun h=>Leaves.ok (by have:=Z0j h; simp only [Job.least] at *; omega)) fun _=>?_;refine Leaves.ite (fun h=>Leaves.bind (ih (.decl 2 false) _ _) fun t us h2=>hend _ _ (by simp only [Job.least] at *; omega)) fun _=>?_
     refine Leaves.ite (fun h=>Leaves.bind (ih (.decl 3 false) _ _) fun t us h2=>hend _ _ (by simp only [Job.least] at *; omega)) fun _=>?_;refine Leaves.ite (fun h=>Leaves.bind (ih (.decl 4 true) _ _) fun t us h2=>hend _ _ (by simp only [Job.least] at *; omega)) fun _=>?_;refine Leaves.ite (fun h=>Leaves.name fun s h2=>ih0 _ _ (by simp only [Job.least] at *; omega)) fun _=>?_
     refine Leaves.ite (fun h=>Leaves.bind (ih .around _ _) fun t us h2=>Leaves.bind (Leaves.within (ih .stmt _ _)) fun t vs h3=>Leaves.ite (fun h4=>Leaves.bind (Leaves.within (ih .stmt _ _)) fun t xs h5=>Leaves.ok (by have:=Z1a vs; simp only [Job.least] at *; omega)) (fun _=>Leaves.ok (by simp only [Job.least] at *; omega))) fun _=>?_;refine Leaves.ite (fun h=>Leaves.bind (ih .around _ _) fun t us h2=>Leaves.bind (Leaves.within (ih .stmt _ _)) fun t vs h3=>Leaves.ok (by simp only [Job.least] at *; omega)) fun _=>?_
     refine Leaves.ite (fun h=>Leaves.bind (ih .around _ _) fun t us h2=>Leaves.bind (Leaves.within (ih .stmt _ _)) fun t vs h3=>Leaves.ok (by simp only [Job.least] at *; omega)) fun _=>?_;refine Leaves.ite (fun h=>Leaves.ite (fun h1=>hend _ _ htl) (fun _=>Leaves.bind (ih .value _ _) fun t us h2=>hend _ _ (by simp only [Job.least] at *; omega))) fun _=>?_;refine Leaves.ite (fun h=>Leaves.bind (ih .value _ _) fun t us h2=>hend _ _ (by simp only [Job.least] at *; omega)) fun _=>?_;refine Leaves.ite (fun h=>ih0 _ _ (by simp only [Job.least] at *; omega)) fun _=>?_
     exact Leaves.bind (ih .value _ _) fun t us h2=>hend _ _ (by simp only [Job.least] at *; omega)
   | decl kind must =>
     unfold Z0;refine Leaves.name fun s h=>Leaves.ite (fun _=>Leaves.fail) fun _=>Leaves.ite (fun h2=>Leaves.bind (ih .value _ _) fun t us h3=>Leaves.ok ?_) fun _=>Leaves.ok ?_;·have:=Z1a ts.tail; simp only [Job.least] at *; omega
     ·simp only [Job.least] at *; omega
   | try_ =>
     unfold Z0;refine Leaves.bind (ih (.block false) _ _) fun b us h=>?_;have hk:∀ (l:List Tree) (vs:List Tok),vs.length≤us.length→Leaves (ts.length + Job.try_.least) (if isT Zt vs then Z0g (Z0 f (.block false) d vs.tail) fun c ts=>okT (.mk 12 ByteArray.empty 0 (l ++ [.mk 14 ByteArray.empty 0 [c]])) ts else if l.length=1 then Z2t 3 vs else okT (.mk 12 ByteArray.empty 0 l) vs):=by
      intro l vs h2;have:=Z1a vs;refine Leaves.ite (fun _=>Leaves.bind (ih (.block false) _ _) fun t xs h3=>Leaves.ok ?_) fun _=>Leaves.ite (fun _=>Leaves.fail) fun _=>Leaves.ok ?_;·simp only [Job.least] at *; omega
      ·simp only [Job.least] at *; omega
     refine Leaves.ite (fun h1=>?_) fun _=>hk _ _ (Nat.le_refl _);refine Leaves.want fun h2=>Leaves.name fun s h3=>Leaves.want fun h4=>Leaves.bind (ih (.block false) _ _) fun c vs h5=>hk _ _ ?_;have:=Z1a us; simp only [Job.least] at *; omega
   | value=>unfold Z0; exact Leaves.within (ih0 _ _ (by simp [Job.least]))
   | assign =>
     unfold Z0;refine Leaves.bind (ih (.bin 0) _ _) fun x us h=>Leaves.ite (fun h1=>Leaves.ite (fun _=>Leaves.bind (ih .value _ _) fun y vs h2=>Leaves.ok ?_) fun _=>Leaves.err) fun _=>Leaves.ok ?_;·have:=Z1a us; simp only [Job.least] at *; omega
     ·simp only [Job.least] at *; omega
   | bin level =>
     unfold Z0;refine Leaves.ite (fun _=>ih0 _ _ (by simp [Job.least])) fun _=>Leaves.bind (ih (.bin (level + 1)) _ _) fun x us h=>ih0 _ _ ?_;simp only [Job.least] at *; omega
   | binLoop level x =>
     unfold Z0;refine Leaves.ite (fun _=>Leaves.ok (by simp [Job.least])) fun _=>Leaves.bind (ih (.bin (level + 1)) _ _) fun y us h=>ih0 _ _ ?_;have:=Z1a ts; simp only [Job.least] at *; omega
   | unary =>
     unfold Z0;refine Leaves.ite (fun _=>ih0 _ _ (by simp [Job.least])) fun _=>Leaves.bind (Leaves.within (ih .unary _ _)) fun y us h=>Leaves.ok ?_;have:=Z1a ts; simp only [Job.least] at *; omega
   | postfix_ =>
     unfold Z0;refine Leaves.bind (ih .primary _ _) fun y us h=>ih0 _ _ ?_;simp only [Job.least] at *; omega
   | postLoop x =>
     unfold Z0;have:=Z1a ts;refine Leaves.ite (fun _=>Leaves.name fun s h=>ih0 _ _ (by simp only [Job.least] at *; omega)) fun _=>Leaves.ite (fun _=>Leaves.bind (ih (.args [x]) _ _) fun y us h=>ih0 _ _ (by simp only [Job.least] at *; omega)) fun _=>Leaves.ok (by simp [Job.least])
   | args acc =>
     unfold Z0;refine Leaves.ite (fun h=>Leaves.ok (by have:=Z0j h; simp only [Job.least] at *; omega)) fun _=>Leaves.comma fun us h=>Leaves.ite (fun _=>Leaves.fail) fun _=>Leaves.bind (ih .value _ _) fun y vs h2=>ih0 _ _ (by simp only [Job.least] at *; omega)
   | primary =>
     unfold Z0;have:=Z1a ts;have:=Z1a ts.tail;refine Leaves.ite (fun h=>Leaves.ok (by have:=Z3l (ts:=ts) (by omega); simp only [Job.least] at *; omega)) fun _=>?_;refine Leaves.ite (fun h=>Leaves.ok (by have:=Z3l (ts:=ts) (by omega); simp only [Job.least] at *; omega)) fun _=>?_;refine Leaves.ite (fun h=>Leaves.ok (by have:=Z3l (ts:=ts) (by omega); simp only [Job.least] at *; omega)) fun _=>?_;refine Leaves.ite (fun h=>Leaves.ok ?_) fun _=>?_
     ·have:ts.tail.length < ts.length:=by
       unfold Z3t at h;by_cases h1:isT Z45 ts=true;·exact Z0j h1
       ·by_cases h2 : isT Z36 ts = true;·exact Z0j h2
        ·by_cases h3 : isT Z4q ts = true;·exact Z0j h3
         ·by_cases h4 : isT Z1o ts = true;·exact Z0j h4
          ·simp [h1,h2,h3,h4] at h
      simp only [Job.least] at *; omega
     refine Leaves.ite (fun _=>ih0 _ _ (by simp [Job.least])) fun _=>?_;refine Leaves.ite (fun _=>Leaves.ite (fun _=>ih0 _ _ (by simp only [Job.least] at *; omega)) fun _=>ih0 _ _ (by simp only [Job.least] at *; omega)) fun _=>?_;exact Leaves.ite (fun _=>ih0 _ _ (by simp only [Job.least] at *; omega)) fun _=>Leaves.fail
   | object acc =>
     unfold Z0;refine Leaves.ite (fun h=>Leaves.ok (by have:=Z0j h; simp only [Job.least] at *; omega)) fun _=>Leaves.comma fun us h=>Leaves.ite (fun _=>Leaves.fail) fun _=>Leaves.name fun s h1=>Leaves.want fun h2=>Leaves.bind (ih .value _ _) fun y vs h2=>ih0 _ _ (by simp only [Job.least] at *; omega)
def Job.rank:Job→Nat
 | .stmts ..=>30
 | .block _=>5
 | .func ..=>1
 | .params _=>1
 | .around=>1
 | .stmt=>20
 | .decl ..=>1
 | .try_=>6
 | .value=>19
 | .assign=>18
 | .bin level=>10 + (6 - level)
 | .binLoop ..=>31
 | .unary=>9
 | .postfix_=>8
 | .postLoop _=>31
 | .args _=>31
 | .primary=>7
 | .object _=>31
def Zu (p:PR):Prop:=p≠none
theorem Zu.fail {e:Int} {ts:List Tok}:Zu (Z2t e ts):=by simp [Zu,Z2t]
theorem Zu.ok {t:Tree} {ts:List Tok}:Zu (okT t ts):=by simp [Zu,okT]
theorem Zu.bind {p:PR} {k:Tree→List Tok→PR} {n:Nat} (hp:Zu p) (hl:Leaves n p) (hk:∀ t ts,ts.length < n→Zu (k t ts)):Zu (Z0g p k):=by
 cases p with
 | none=>exact absurd rfl hp
 | some r =>
   cases r with
   | error e=>simp [Zu,Z0g]
   | ok x=>obtain ⟨t,ts⟩:=x; exact hk t ts (hl t ts rfl)
theorem Zu.want {s:ByteArray} {ts:List Tok} {k:List Tok→PR} (hk:ts.tail.length < ts.length→Zu (k ts.tail)):Zu (Z1e s ts k):=by
 unfold Z1e;by_cases h:isT s ts=true;·rw [if_pos h]; exact hk (Z0j h)
 ·rw [if_neg h]; exact Zu.fail
theorem Zu.name {ts:List Tok} {k:ByteArray→List Tok→PR} (hk:∀ s,ts.tail.length < ts.length→Zu (k s ts.tail)):Zu (Z3f ts k):=by
 unfold Z3f;by_cases h:(hdT ts).kind=1;·rw [if_pos h]; exact hk _ (Z3l (by omega))
 ·rw [if_neg h]; exact Zu.fail
theorem Zu.within {d:Nat} {ts:List Tok} {p:PR} (h:Zu p):Zu (Z18 d ts p):=by
 unfold Z18;by_cases h':30 < d + 1;·rw [if_pos h']; exact Zu.fail
 ·rw [if_neg h']; exact h
theorem Zu.ite {c:Prop} [Decidable c] {p q:PR} (hp:c→Zu p) (hq:¬ c→Zu q):Zu (if c then p else q):=by
 by_cases h:c;·rw [if_pos h]; exact hp h
 ·rw [if_neg h]; exact hq h
theorem Zu.comma {c:Prop} [Decidable c] {ts:List Tok} {k:List Tok→PR} (hk:∀ ts',ts'.length≤ts.length→Zu (k ts')):Zu ((if c then Z1e Z1b ts else fun k=>k ts) k):=by
 by_cases h:c;·rw [if_pos h]; exact Zu.want fun h'=>hk _ (by omega)
 ·rw [if_neg h]; exact hk _ (Nat.le_refl _)
theorem Z9b {ts:List Tok} (h:¬ Z3g ts=0):ts.tail.length < ts.length:=by
 unfold Z3g at h;by_cases h1:isT Z5h ts=true;·exact Z0j h1
 ·by_cases h2 : isT Z1l ts = true;·exact Z0j h2
  ·by_cases h3 : isT Z1t ts = true;·exact Z0j h3
   ·simp [h1,h2,h3] at h
theorem Z71 {level:Nat} {ts:List Tok} (h:¬ Z2i level ts=0):ts.tail.length < ts.length:=by
 have key:∀ {s:ByteArray} {x y:Int},¬ (if isT s ts then x else y)=0→¬ y=0∨ts.tail.length < ts.length:=by
  intro s x y h;by_cases h1:isT s ts=true;·exact .inr (Z0j h1)
  ·rw [if_neg h1] at h; exact .inl h
 unfold Z2i at h;split at h
 all_goals first
  | exact absurd rfl h
  | (rcases key h with h | h; (exact absurd rfl h); exact h)
  | (rcases key h with h | h; (rcases key h with h | h; (exact absurd rfl h); exact h); exact h)
theorem Za1:∀ (f:Nat) (job:Job) (d:Nat) (ts:List Tok),40 * ts.length + job.rank < f→Zu (Z0 f job d ts):=by
 intro f;induction f with
 | zero=>intro job d ts h; omega
 | succ f ih =>
   intro job d ts hf;have L:=Z24 f;have htl:=Z1a ts;cases job with
   | stmts kind acc =>
     unfold Z0;refine Zu.ite (fun _=>Zu.ok) fun _=>Zu.bind (n:=ts.length) (Zu.within (ih _ _ _ (by simp only [Job.rank] at *; omega))) (Leaves.within (L .stmt _ _)) fun t us h=>ih _ _ _ (by simp only [Job.rank] at *; omega)
   | block body =>
     unfold Z0;refine Zu.want fun h=>Zu.bind (ih _ _ _ (by simp only [Job.rank] at *; omega)) (L _ _ _) fun t us h=>Zu.want fun h2=>Zu.ok
   | func kind text =>
     unfold Z0;refine Zu.want fun h=>Zu.bind (ih _ _ _ (by simp only [Job.rank] at *; omega)) (L (.params []) _ _) fun t us h=>Zu.want fun h2=>Zu.bind (ih _ _ _ (by simp only [Job.rank,Job.least] at *; omega)) (L _ _ _) fun t us h=>Zu.ok
   | params acc =>
     unfold Z0;refine Zu.ite (fun _=>Zu.ok) fun _=>Zu.comma fun us h=>Zu.ite (fun _=>Zu.fail) fun _=>Zu.name fun s h2=>ih _ _ _ (by simp only [Job.rank] at *; omega)
   | around =>
     unfold Z0;refine Zu.want fun h=>Zu.bind (ih _ _ _ (by simp only [Job.rank] at *; omega)) (L _ _ _) fun t us h=>Zu.want fun h2=>Zu.ok
   | stmt =>
     unfold Z0;have hend:∀ (n:Tree) (us:List Tok),Zu (endT n us):=fun n us=>Zu.want fun h2=>Zu.ok;refine Zu.ite (fun h=>ih _ _ _ (by simp only [Job.rank] at *; omega)) fun _=>?_;refine Zu.ite (fun h=>Zu.ok) fun _=>?_;refine Zu.ite (fun h=>Zu.bind (ih _ _ _ (by simp only [Job.rank] at *; omega)) (L _ _ _) fun t us h2=>hend _ _) fun _=>?_;refine Zu.ite (fun h=>Zu.bind (ih _ _ _ (by simp only [Job.rank] at *; omega)) (L _ _ _) fun t us h2=>hend _ _) fun _=>?_
     refine Zu.ite (fun h=>Zu.bind (ih _ _ _ (by simp only [Job.rank] at *; omega)) (L _ _ _) fun t us h2=>hend _ _) fun _=>?_;refine Zu.ite (fun h=>Zu.name fun s h2=>ih _ _ _ (by simp only [Job.rank] at *; omega)) fun _=>?_;refine Zu.ite (fun h=>?_) fun _=>?_
     ·have:=Z0j h;refine Zu.bind (ih _ _ _ (by simp only [Job.rank] at *; omega)) (L .around _ _) fun t us h2=>?_;refine Zu.bind (Zu.within (ih _ _ _ (by simp only [Job.rank,Job.least] at *; omega))) (Leaves.within (L .stmt _ _)) fun t vs h3=>?_;have:=Z1a vs;exact Zu.ite (fun h4=>Zu.bind (Zu.within (ih _ _ _ (by simp only [Job.rank,Job.least] at *; omega))) (Leaves.within (L .stmt _ _)) fun t xs h5=>Zu.ok) fun _=>Zu.ok
     refine Zu.ite (fun h=>?_) fun _=>?_
     ·have:=Z0j h;refine Zu.bind (ih _ _ _ (by simp only [Job.rank] at *; omega)) (L .around _ _) fun t us h2=>?_;exact Zu.bind (Zu.within (ih _ _ _ (by simp only [Job.rank,Job.least] at *; omega))) (Leaves.within (L .stmt _ _)) fun t vs h3=>Zu.ok
     refine Zu.ite (fun h=>?_) fun _=>?_
     ·have:=Z0j h;refine Zu.bind (ih _ _ _ (by simp only [Job.rank] at *; omega)) (L .around _ _) fun t us h2=>?_;exact Zu.bind (Zu.within (ih _ _ _ (by simp only [Job.rank,Job.least] at *; omega))) (Leaves.within (L .stmt _ _)) fun t vs h3=>Zu.ok
     refine Zu.ite (fun h=>Zu.ite (fun h1=>hend _ _) fun _=>Zu.bind (ih _ _ _ (by simp only [Job.rank] at *; omega)) (L _ _ _) fun t us h2=>hend _ _) fun _=>?_;refine Zu.ite (fun h=>Zu.bind (ih _ _ _ (by simp only [Job.rank] at *; omega)) (L _ _ _) fun t us h2=>hend _ _) fun _=>?_;refine Zu.ite (fun h=>ih _ _ _ (by simp only [Job.rank] at *; omega)) fun _=>?_;exact Zu.bind (ih _ _ _ (by simp only [Job.rank] at *; omega)) (L _ _ _) fun t us h2=>hend _ _
   | decl kind must =>
     unfold Z0;refine Zu.name fun s h=>Zu.ite (fun _=>Zu.fail) fun _=>Zu.ite (fun h2=>Zu.bind (ih _ _ _ ?_) (L _ _ _) fun t us h3=>Zu.ok) fun _=>Zu.ok;have:=Z1a ts.tail; simp only [Job.rank] at *; omega
   | try_ =>
     unfold Z0;refine Zu.bind (ih _ _ _ (by simp only [Job.rank] at *; omega)) (L (.block false) _ _) fun b us h=>?_;have hk:∀ (l:List Tree) (vs:List Tok),vs.length≤us.length→Zu (if isT Zt vs then Z0g (Z0 f (.block false) d vs.tail) fun c ts=>okT (.mk 12 ByteArray.empty 0 (l ++ [.mk 14 ByteArray.empty 0 [c]])) ts else if l.length=1 then Z2t 3 vs else okT (.mk 12 ByteArray.empty 0 l) vs):=by
      intro l vs h2;have:=Z1a vs;exact Zu.ite (fun _=>Zu.bind (ih _ _ _ (by simp only [Job.rank,Job.least] at *; omega)) (L _ _ _) fun t xs h3=>Zu.ok) fun _=>Zu.ite (fun _=>Zu.fail) fun _=>Zu.ok
     refine Zu.ite (fun h1=>?_) fun _=>hk _ _ (Nat.le_refl _);have:=Z1a us;refine Zu.want fun h2=>Zu.name fun s h3=>Zu.want fun h4=>Zu.bind (ih _ _ _ (by simp only [Job.rank,Job.least] at *; omega)) (L (.block false) _ _) fun c vs h5=>hk _ _ ?_;simp only [Job.least] at *; omega
   | value=>unfold Z0; exact Zu.within (ih _ _ _ (by simp only [Job.rank] at *; omega))
   | assign =>
     unfold Z0;refine Zu.bind (ih _ _ _ (by simp only [Job.rank] at *; omega)) (L (.bin 0) _ _) fun x us h=>Zu.ite (fun h1=>Zu.ite (fun _=>Zu.bind (ih _ _ _ ?_) (L _ _ _) fun y vs h2=>Zu.ok) fun _=>by simp [Zu]) fun _=>Zu.ok;have:=Z1a us; simp only [Job.rank,Job.least] at *; omega
   | bin level =>
     unfold Z0;refine Zu.ite (fun h=>ih _ _ _ (by simp only [Job.rank] at *; omega)) fun h=>Zu.bind (ih _ _ _ (by simp only [Job.rank] at *; omega)) (L (.bin (level + 1)) _ _) fun x us h=>ih _ _ _ (by simp only [Job.rank,Job.least] at *; omega)
   | binLoop level x =>
     unfold Z0;refine Zu.ite (fun _=>Zu.ok) fun h0=>Zu.bind (ih _ _ _ ?_) (L (.bin (level + 1)) _ _) fun y us h=>ih _ _ _ ?_;·have:=Z71 h0; simp only [Job.rank] at *; omega
     ·have:=Z71 h0; simp only [Job.rank,Job.least] at *; omega
   | unary =>
     unfold Z0;refine Zu.ite (fun _=>ih _ _ _ (by simp only [Job.rank] at *; omega)) fun h0=>Zu.bind (Zu.within (ih _ _ _ ?_)) (Leaves.within (L _ _ _)) fun y us h=>Zu.ok;have:=Z9b h0; simp only [Job.rank] at *; omega
   | postfix_ =>
     unfold Z0;exact Zu.bind (ih _ _ _ (by simp only [Job.rank] at *; omega)) (L .primary _ _) fun y us h=>ih _ _ _ (by simp only [Job.rank,Job.least] at *; omega)
   | postLoop x =>
     unfold Z0;refine Zu.ite (fun h=>Zu.name fun s h2=>ih _ _ _ (by simp only [Job.rank] at *; omega)) fun _=>Zu.ite (fun h=>?_) fun _=>Zu.ok;have:=Z0j h;exact Zu.bind (ih _ _ _ (by simp only [Job.rank] at *; omega)) (L (.args [x]) _ _) fun y us h=>ih _ _ _ (by simp only [Job.rank,Job.least] at *; omega)
   | args acc =>
     unfold Z0;exact Zu.ite (fun h=>Zu.ok) fun _=>Zu.comma fun us h=>Zu.ite (fun _=>Zu.fail) fun _=>Zu.bind (ih _ _ _ (by simp only [Job.rank] at *; omega)) (L .value _ _) fun y vs h2=>ih _ _ _ (by simp only [Job.rank,Job.least] at *; omega)
   | primary =>
     unfold Z0;have:=Z1a ts.tail;refine Zu.ite (fun _=>Zu.ok) fun _=>Zu.ite (fun _=>Zu.ok) fun _=>Zu.ite (fun _=>Zu.ok) fun _=>Zu.ite (fun _=>Zu.ok) fun _=>?_;refine Zu.ite (fun _=>ih _ _ _ (by simp only [Job.rank] at *; omega)) fun _=>?_;refine Zu.ite (fun _=>Zu.ite (fun _=>ih _ _ _ (by simp only [Job.rank] at *; omega)) fun _=>ih _ _ _ (by simp only [Job.rank] at *; omega)) fun _=>?_;exact Zu.ite (fun h=>ih _ _ _ (by have:=Z0j h; simp only [Job.rank] at *; omega)) fun _=>Zu.fail
   | object acc =>
     unfold Z0;exact Zu.ite (fun h=>Zu.ok) fun _=>Zu.comma fun us h=>Zu.ite (fun _=>Zu.fail) fun _=>Zu.name fun s h1=>Zu.want fun h2=>Zu.bind (ih _ _ _ (by simp only [Job.rank] at *; omega)) (L .value _ _) fun y vs h2=>ih _ _ _ (by simp only [Job.rank,Job.least] at *; omega)
def Z1p (text:ByteArray):Except (Int×Int) Tree:=
 if 3000 < text.size then .error (4,-1)
 else match Z6d text with
  | .error (e,p)=>.error (e,p)
  | .ok ts => match Z0 (40 * ts.length + 31) (.stmts 1 []) 0 ts with
    | none=>.error (0,-2)
    | some (.error (e,p))=>.error (e,p)
    | some (.ok (t,_))=>if 1500 < t.many then .error (4,-1) else .ok t
inductive Pc
 | sp (c:UInt8)
 | t (kind:Int) (text:ByteArray) (n:Int)
def escB (u:UInt8):List UInt8:=if u=92 then [92,92] else if u=39 then [92,39] else if u=10 then [92,110] else [u]
def Z58 (s:ByteArray):List UInt8:=39 :: (s.data.toList.flatMap escB ++ [39])
def Pc.bytes:Pc→List UInt8
 | .sp c=>[c]
 | .t k s n=>if k=3 then Lib.itoa n else if k=4 then Z58 s else s.data.toList
def Zd (l:List Pc):List UInt8:=l.flatMap Pc.bytes
def toB (l:List Pc):ByteArray:=⟨(Zd l).toArray⟩
abbrev sg (c:UInt8):Pc:=.t 5 ⟨#[c]⟩ 0
abbrev wd (s:ByteArray):Pc:=.t 2 s 0
abbrev nm (s:ByteArray):Pc:=.t 1 s 0
abbrev sp:Pc:=.sp 32
def Zo (k:Int):Int:=
 if k=24 then 0 else if k=25 then 1 else if k=26 then 2 else if k=27 then 3 else if k=28 then 4 else if k=29∨k=30 then 5 else if k=31 then 6
 else if k=32∨k=33∨k=34 then 7 else if k=35∨k=36 then 8 else 9
def sgnP (k:Int):List Pc:=
 if k=25 then [sp,.t 5 s_or 0,sp] else if k=26 then [sp,.t 5 Z5n 0,sp] else if k=27 then [sp,.t 5 Z3h 0,sp] else if k=28 then [sp,sg 60,sp]
 else if k=29 then [sp,sg 43,sp] else if k=30 then [sp,sg 45,sp] else if k=31 then [sp,sg 42,sp]
 else if k=32 then [sg 33] else if k=33 then [wd Z1l,sp] else [wd Z1t,sp]
def Z2w (k:Int):List Pc:=
 if k=2 then [wd Z19,sp] else if k=3 then [wd Z1c,sp] else if k=4 then [wd Z06,sp] else if k=7 then [wd s_if,sp] else if k=8 then [wd Zz,sp]
 else if k=9 then [wd Z0d,sp] else if k=10 then [wd Z08] else [wd Z0s]
def Z9w (k:Int):ByteArray:=if k=19 then Z45 else if k=20 then Z36 else if k=21 then Z4q else Z1o
def Z6v (s:List UInt8):Bool:=Lib.hasPrefix s [123] || Lib.hasPrefix s [102,117,110,99,116,105,111,110,40] || Lib.hasPrefix s [102,117,110,99,116,105,111,110,32]
def Z9j (p:Bool) (l:List Pc):List Pc:=if p then sg 40 :: (l ++ [sg 41]) else l
def Zhh (l:List Pc):List Pc:=Z9j (Z6v (Zd l)) l
def fnP (t:ByteArray) (l b:List Pc):List Pc:=wd Ze :: ((if t.size=0 then [] else [sp,nm t]) ++ sg 40 :: (l ++ sg 41 :: sp :: b))
def sepP (first:Bool) (l:List Pc):List Pc:=if first then [] else l
mutual
def vP:Tree→Int→List Pc
 | .mk k t n ks,need=>Z9j (decide (Zo k < need)) (vbP k t n ks)
def vbP (k:Int) (t:ByteArray) (n:Int) (ks:List Tree):List Pc:=
 if k=17 then [.t 3 ByteArray.empty n] else if k=18 then [.t 4 t 0]
 else if k=19∨k=20∨k=21∨k=22 then [wd (Z9w k)] else if k=23 then [nm t]
 else if k=24 then match ks with
  | x :: y :: _=>vP x 8 ++ sp :: sg 61 :: sp :: vP y 0
  | _=>[]
 else if k=32∨k=33∨k=34 then match ks with
  | x :: _=>sgnP k ++ vP x 7
  | _=>[]
 else if k=36 then match ks with
  | x :: _=>vP x 8 ++ [sg 46,nm t]
  | _=>[]
 else if k=35 then match ks with
  | x :: r=>vP x 8 ++ sg 40 :: (lP true r ++ [sg 41])
  | _=>[]
 else if k=37 then match ks with
  | .mk _ _ _ ps :: b :: _=>fnP t (lP true ps) (sP b)
  | _=>[]
 else if k=38 then sg 123 :: (lP true ks ++ [sg 125])
 else if k=39 then match ks with
  | x :: _=>nm t :: sg 58 :: sp :: vP x 0
  | _=>[]
 else match ks with
  | x :: y :: _=>vP x (Zo k) ++ (sgnP k ++ vP y (Zo k + 1))
  | _=>[]
def lP (first:Bool):List Tree→List Pc
 | []=>[]
 | x :: r=>sepP first [sg 44,sp] ++ (vP x 0 ++ lP false r)
def sP:Tree→List Pc
 | .mk k t n ks =>
   if k=2∨k=3∨k=4 then Z2w k ++ nm t :: (match ks with
    | x :: _=>sp :: sg 61 :: sp :: (vP x 0 ++ [sg 59])
    | _=>[sg 59])
   else if k=5 then match ks with
    | .mk _ _ _ ps :: b :: _=>fnP t (lP true ps) (sP b)
    | _=>[]
   else if k=6 then sg 123 :: (bP true ks ++ [sg 125])
   else if k=7∨k=8∨k=9 then match ks with
    | x :: y :: r => Z2w k ++ sg 40 :: (vP x 0 ++ sg 41 :: sp :: (sP y ++ (match r with
      | z :: _=>sp :: wd Z1y :: sp :: sP z
      | _=>[])))
    | _=>[]
   else if k=10∨k=11 then Z2w k ++ (match ks with
    | x :: _=>sp :: (vP x 0 ++ [sg 59])
    | _=>[sg 59])
   else if k=12 then match ks with
    | x :: r=>wd Z1j :: sp :: (sP x ++ cP r)
    | _=>[]
   else if k=16 then [sg 59]
   else match ks with
    | x :: _=>Zhh (vP x 0) ++ [sg 59]
    | _=>[]
def bP (first:Bool):List Tree→List Pc
 | []=>[]
 | x :: r=>sepP first [sp] ++ (sP x ++ bP false r)
def cP:List Tree→List Pc
 | []=>[]
 | .mk k t _ ks :: r => (match ks with
   | x :: _=>(if k=13 then [sp,wd Z0t,sp,sg 40,nm t,sg 41,sp] else [sp,wd Zt,sp]) ++ sP x
   | _=>[]) ++ cP r
end
def pP:List Tree→List Pc
 | []=>[]
 | x :: r=>sP x ++ .sp 10 :: pP r
def Zh5 (l:List Tree):ByteArray:=toB (pP l)
theorem Z7 (l m:List Pc):Zd (l ++ m)=Zd l ++ Zd m:=by simp [Zd]
theorem Z4 (p:Pc) (l:List Pc):Zd (p :: l)=p.bytes ++ Zd l:=by simp [Zd]
theorem Zj:Zd []=[]:=rfl
theorem Zix (v:World) (cs:Array Value) (t:TypeId) (b i:Nat) (hb:b=v.heap.size):(v.alloc (.cells cs t)).cell? ⟨b,i,none⟩=cs[i]?:=by
 subst hb;exact World.cell?_alloc_new _ _ _ _
theorem Zbj {k:Int} (h:∀ c:Int,24≤c→c≤36→k≠c):Zo k=9:=by
 have h1:¬ (24≤k∧k≤36):=fun ⟨a,b⟩=>h k a b rfl;unfold Zo;repeat' split
 all_goals omega
theorem Z23 {k:Int} {j:Nat} (hN:∀ c:Int,24≤c→c≤36→Zo c < (j:Int)→k≠c) (h:∀ c:Int,24≤c→c≤36→Zo c=(j:Int)→k≠c) :
 ∀ c:Int,24≤c→c≤36→Zo c < ((j + 1:Nat):Int)→k≠c:=by
 intro c h1 h2 h3;by_cases h4:Zo c=(j:Int)
 ·exact h c h1 h2 h4
 ·exact hN c h1 h2 (by omega)
theorem Zai (w:World) (k:Int):Calls Tryz.prog 90 #[.int .i64 k] w fun e w'=>e=.returned (.int .i64 (Zo k))∧Below w.heap.size w w':=by
 have hBel:∀ l:List Obj,Below w.heap.size w (l.foldl (fun v o=>v.alloc o) w):=fun l=>by
  have:∀ (l:List Obj) (v:World),Below w.heap.size w v→Below w.heap.size w (l.foldl (fun v o=>v.alloc o) v):=by
   intro l;induction l with
   | nil=>intro v h; exact h
   | cons o l ih=>intro v h; exact ih _ (h.alloc h.size _)
  exact this l w (Below.refl _ _)
 obtain ⟨W,hW⟩:∃ W,W=((((((((((w.alloc (.cells #[.int .i64 24] 3)).alloc (.cells #[.int .i64 25] 3)).alloc (.cells #[.int .i64 26] 3)).alloc (.cells #[.int .i64 27] 3)).alloc (.cells #[.int .i64 28] 3)).alloc (.cells #[.int .i64 29,.int .i64 30] 3)).alloc (.cells #[.int .i64 31] 3)).alloc (.cells #[.int .i64 32,.int .i64 33,.int .i64 34] 3)).alloc (.cells #[.int .i64 35,.int .i64 36] 3)).alloc (.cells #[.slice (some ⟨w.heap.size,0,none⟩) 1 1,.slice (some ⟨w.heap.size + 1,0,none⟩) 1 1,.slice (some ⟨w.heap.size + 1 + 1,0,none⟩) 1 1,.slice (some ⟨w.heap.size + 1 + 1 + 1,0,none⟩) 1 1,.slice (some ⟨w.heap.size + 1 + 1 + 1 + 1,0,none⟩) 1 1,.slice (some ⟨w.heap.size + 1 + 1 + 1 + 1 + 1,0,none⟩) 2 2,.slice (some ⟨w.heap.size + 1 + 1 + 1 + 1 + 1 + 1,0,none⟩) 1 1,.slice (some ⟨w.heap.size + 1 + 1 + 1 + 1 + 1 + 1 + 1,0,none⟩) 3 3,.slice (some ⟨w.heap.size + 1 + 1 + 1 + 1 + 1 + 1 + 1 + 1,0,none⟩) 2 2] 145)):=⟨_,rfl⟩
 have HB:Hid (Below w.heap.size w W):=Lib.hid (by rw [hW]; exact hBel [_,_,_,_,_,_,_,_,_,_]);clear hBel
 obtain ⟨o0,d24,o1,d25,o2,d26,o3,d27,o4,d28,o5,d29,d30,o6,d31,o7,d32,d33,d34,o8,d35,d36⟩:W.cell? ⟨w.heap.size + 1 + 1 + 1 + 1 + 1 + 1 + 1 + 1 + 1,0,none⟩=some (.slice (some ⟨w.heap.size,0,none⟩) 1 1)∧W.cell? ⟨w.heap.size,0,none⟩=some (.int .i64 24)∧W.cell? ⟨w.heap.size + 1 + 1 + 1 + 1 + 1 + 1 + 1 + 1 + 1,1,none⟩=some (.slice (some ⟨w.heap.size + 1,0,none⟩) 1 1)∧W.cell? ⟨w.heap.size + 1,0,none⟩=some (.int .i64 25)∧W.cell? ⟨w.heap.size + 1 + 1 + 1 + 1 + 1 + 1 + 1 + 1 + 1,2,none⟩=some (.slice (some ⟨w.heap.size + 1 + 1,0,none⟩) 1 1)∧W.cell? ⟨w.heap.size + 1 + 1,0,none⟩=some (.int .i64 26)∧W.cell? ⟨w.heap.size + 1 + 1 + 1 + 1 + 1 + 1 + 1 + 1 + 1,3,none⟩=some (.slice (some ⟨w.heap.size + 1 + 1 + 1,0,none⟩) 1 1)∧W.cell? ⟨w.heap.size + 1 + 1 + 1,0,none⟩=some (.int .i64 27)∧W.cell? ⟨w.heap.size + 1 + 1 + 1 + 1 + 1 + 1 + 1 + 1 + 1,4,none⟩=some (.slice (some ⟨w.heap.size + 1 + 1 + 1 + 1,0,none⟩) 1 1)∧W.cell? ⟨w.heap.size + 1 + 1 + 1 + 1,0,none⟩=some (.int .i64 28)∧W.cell? ⟨w.heap.size + 1 + 1 + 1 + 1 + 1 + 1 + 1 + 1 + 1,5,none⟩=some (.slice (some ⟨w.heap.size + 1 + 1 + 1 + 1 + 1,0,none⟩) 2 2)∧W.cell? ⟨w.heap.size + 1 + 1 + 1 + 1 + 1,0,none⟩=some (.int .i64 29)∧W.cell? ⟨w.heap.size + 1 + 1 + 1 + 1 + 1,1,none⟩=some (.int .i64 30)∧W.cell? ⟨w.heap.size + 1 + 1 + 1 + 1 + 1 + 1 + 1 + 1 + 1,6,none⟩=some (.slice (some ⟨w.heap.size + 1 + 1 + 1 + 1 + 1 + 1,0,none⟩) 1 1)∧W.cell? ⟨w.heap.size + 1 + 1 + 1 + 1 + 1 + 1,0,none⟩=some (.int .i64 31)∧W.cell? ⟨w.heap.size + 1 + 1 + 1 + 1 + 1 + 1 + 1 + 1 + 1,7,none⟩=some (.slice (some ⟨w.heap.size + 1 + 1 + 1 + 1 + 1 + 1 + 1,0,none⟩) 3 3)∧W.cell? ⟨w.heap.size + 1 + 1 + 1 + 1 + 1 + 1 + 1,0,none⟩=some (.int .i64 32)∧W.cell? ⟨w.heap.size + 1 + 1 + 1 + 1 + 1 + 1 + 1,1,none⟩=some (.int .i64 33)∧W.cell? ⟨w.heap.size + 1 + 1 + 1 + 1 + 1 + 1 + 1,2,none⟩=some (.int .i64 34)∧W.cell? ⟨w.heap.size + 1 + 1 + 1 + 1 + 1 + 1 + 1 + 1 + 1,8,none⟩=some (.slice (some ⟨w.heap.size + 1 + 1 + 1 + 1 + 1 + 1 + 1 + 1,0,none⟩) 2 2)∧W.cell? ⟨w.heap.size + 1 + 1 + 1 + 1 + 1 + 1 + 1 + 1,0,none⟩=some (.int .i64 35)∧W.cell? ⟨w.heap.size + 1 + 1 + 1 + 1 + 1 + 1 + 1 + 1,1,none⟩=some (.int .i64 36):=by
  rw [hW];refine ⟨?_,?_,?_,?_,?_,?_,?_,?_,?_,?_,?_,?_,?_,?_,?_,?_,?_,?_,?_,?_,?_,?_⟩;all_goals repeat (first | exact Zix _ _ _ _ _ (by simp) | rw [Z8 (by simp; try omega)])
 go_enter Tryz.func90,Tryz.ntmps90
 go_wp2_with fail
 rw [← hW];clear hW;go_loopw [18] (fun i wr=>∃ j:Nat,j≤9∧i=.int .i64 j∧wr=W∧Hid (∀ c:Int,24≤c→c≤36→Zo c < (j:Int)→k≠c)) (fun i _=>9 - (intOf i).toNat)
 case atStart=>
  refine ⟨0,by omega,rfl,rfl,Lib.hid fun c h1 h2 h3=>?_⟩;exfalso;unfold Zo at h3;repeat' split at h3
  all_goals omega
 case round=>
  obtain ⟨j,hj,rfl,rfl,HN⟩:=hrel;have hc:j=0∨j=1∨j=2∨j=3∨j=4∨j=5∨j=6∨j=7∨j=8∨j=9:=by omega
  clear hj;rcases hc with rfl | rfl | rfl | rfl | rfl | rfl | rfl | rfl | rfl | rfl
  ·go_wp2_with fail
   refine wp_loop_rounds 2 ?_;rw [rounds_succ];by_cases h24:k=24
   ·subst h24;go_wp2_with fail
    go_ret;exact ⟨rfl,HB.out⟩
   have b24:((24:Int) == k)=false:=by simp; omega
   go_wp2_with fail
   rw [rounds_succ];go_wp2;go_roundw
   case rel=>
    refine ⟨1,by omega,by first | rfl | trivial,by first | rfl | trivial,Lib.hid (Z23 (j:=0) HN.out fun c h1 h2 h3=>?_)⟩;have hc:c=24∨c=25∨c=26∨c=27∨c=28∨c=29∨c=30∨c=31∨c=32∨c=33∨c=34∨c=35∨c=36:=by omega
    clear HN h1 h2;rcases hc with rfl | rfl | rfl | rfl | rfl | rfl | rfl | rfl | rfl | rfl | rfl | rfl | rfl;all_goals first | assumption | (exfalso; revert h3; decide)
   case measure=>simp [intOf]
  ·go_wp2_with fail
   refine wp_loop_rounds 2 ?_;rw [rounds_succ];by_cases h25:k=25
   ·subst h25;go_wp2_with fail
    go_ret;exact ⟨rfl,HB.out⟩
   have b25:((25:Int) == k)=false:=by simp; omega
   go_wp2_with fail
   rw [rounds_succ];go_wp2;go_roundw
   case rel=>
    refine ⟨2,by omega,by first | rfl | trivial,by first | rfl | trivial,Lib.hid (Z23 (j:=1) HN.out fun c h1 h2 h3=>?_)⟩;have hc:c=24∨c=25∨c=26∨c=27∨c=28∨c=29∨c=30∨c=31∨c=32∨c=33∨c=34∨c=35∨c=36:=by omega
    clear HN h1 h2;rcases hc with rfl | rfl | rfl | rfl | rfl | rfl | rfl | rfl | rfl | rfl | rfl | rfl | rfl;all_goals first | assumption | (exfalso; revert h3; decide)
   case measure=>simp [intOf]
  ·go_wp2_with fail
   refine wp_loop_rounds 2 ?_;rw [rounds_succ];by_cases h26:k=26
   ·subst h26;go_wp2_with fail
    go_ret;exact ⟨rfl,HB.out⟩
   have b26:((26:Int) == k)=false:=by simp; omega
   go_wp2_with fail
   rw [rounds_succ];go_wp2;go_roundw
   case rel=>
    refine ⟨3,by omega,by first | rfl | trivial,by first | rfl | trivial,Lib.hid (Z23 (j:=2) HN.out fun c h1 h2 h3=>?_)⟩;have hc:c=24∨c=25∨c=26∨c=27∨c=28∨c=29∨c=30∨c=31∨c=32∨c=33∨c=34∨c=35∨c=36:=by omega
    clear HN h1 h2;rcases hc with rfl | rfl | rfl | rfl | rfl | rfl | rfl | rfl | rfl | rfl | rfl | rfl | rfl;all_goals first | assumption | (exfalso; revert h3; decide)
   case measure=>simp [intOf]
  ·go_wp2_with fail
   refine wp_loop_rounds 2 ?_;rw [rounds_succ];by_cases h27:k=27
   ·subst h27;go_wp2_with fail
    go_ret;exact ⟨rfl,HB.out⟩
   have b27:((27:Int) == k)=false:=by simp; omega
   go_wp2_with fail
   rw [rounds_succ];go_wp2;go_roundw
   case rel=>
    refine ⟨4,by omega,by first | rfl | trivial,by first | rfl | trivial,Lib.hid (Z23 (j:=3) HN.out fun c h1 h2 h3=>?_)⟩;have hc:c=24∨c=25∨c=26∨c=27∨c=28∨c=29∨c=30∨c=31∨c=32∨c=33∨c=34∨c=35∨c=36:=by omega
    clear HN h1 h2;rcases hc with rfl | rfl | rfl | rfl | rfl | rfl | rfl | rfl | rfl | rfl | rfl | rfl | rfl;all_goals first | assumption | (exfalso; revert h3; decide)
   case measure=>simp [intOf]
  ·go_wp2_with fail
   refine wp_loop_rounds 2 ?_;rw [rounds_succ];by_cases h28:k=28
   ·subst h28;go_wp2_with fail
    go_ret;exact ⟨rfl,HB.out⟩
   have b28:((28:Int) == k)=false:=by simp; omega
   go_wp2_with fail
   rw [rounds_succ];go_wp2;go_roundw
   case rel=>
    refine ⟨5,by omega,by first | rfl | trivial,by first | rfl | trivial,Lib.hid (Z23 (j:=4) HN.out fun c h1 h2 h3=>?_)⟩;have hc:c=24∨c=25∨c=26∨c=27∨c=28∨c=29∨c=30∨c=31∨c=32∨c=33∨c=34∨c=35∨c=36:=by omega
    clear HN h1 h2;rcases hc with rfl | rfl | rfl | rfl | rfl | rfl | rfl | rfl | rfl | rfl | rfl | rfl | rfl;all_goals first | assumption | (exfalso; revert h3; decide)
   case measure=>simp [intOf]
  ·go_wp2_with fail
   refine wp_loop_rounds 3 ?_;rw [rounds_succ];by_cases h29:k=29
   ·subst h29;go_wp2_with fail
    go_ret;exact ⟨rfl,HB.out⟩
   have b29:((29:Int) == k)=false:=by simp; omega
   go_wp2_with fail
   rw [rounds_succ];by_cases h30:k=30
   ·subst h30;go_wp2_with fail
    go_ret;exact ⟨rfl,HB.out⟩
   have b30:((30:Int) == k)=false:=by simp; omega
   go_wp2_with fail
   rw [rounds_succ];go_wp2;go_roundw
   case rel=>
    refine ⟨6,by omega,by first | rfl | trivial,by first | rfl | trivial,Lib.hid (Z23 (j:=5) HN.out fun c h1 h2 h3=>?_)⟩;have hc:c=24∨c=25∨c=26∨c=27∨c=28∨c=29∨c=30∨c=31∨c=32∨c=33∨c=34∨c=35∨c=36:=by omega
    clear HN h1 h2;rcases hc with rfl | rfl | rfl | rfl | rfl | rfl | rfl | rfl | rfl | rfl | rfl | rfl | rfl;all_goals first | assumption | (exfalso; revert h3; decide)
   case measure=>simp [intOf]
  ·go_wp2_with fail
   refine wp_loop_rounds 2 ?_;rw [rounds_succ];by_cases h31:k=31
   ·subst h31;go_wp2_with fail
    go_ret;exact ⟨rfl,HB.out⟩
   have b31:((31:Int) == k)=false:=by simp; omega
   go_wp2_with fail
   rw [rounds_succ];go_wp2;go_roundw
   case rel=>
    refine ⟨7,by omega,by first | rfl | trivial,by first | rfl | trivial,Lib.hid (Z23 (j:=6) HN.out fun c h1 h2 h3=>?_)⟩;have hc:c=24∨c=25∨c=26∨c=27∨c=28∨c=29∨c=30∨c=31∨c=32∨c=33∨c=34∨c=35∨c=36:=by omega
    clear HN h1 h2;rcases hc with rfl | rfl | rfl | rfl | rfl | rfl | rfl | rfl | rfl | rfl | rfl | rfl | rfl;all_goals first | assumption | (exfalso; revert h3; decide)
   case measure=>simp [intOf]
  ·go_wp2_with fail
   refine wp_loop_rounds 4 ?_;rw [rounds_succ];by_cases h32:k=32
   ·subst h32;go_wp2_with fail
    go_ret;exact ⟨rfl,HB.out⟩
   have b32:((32:Int) == k)=false:=by simp; omega
   go_wp2_with fail
   rw [rounds_succ];by_cases h33:k=33
   ·subst h33;go_wp2_with fail
    go_ret;exact ⟨rfl,HB.out⟩
   have b33:((33:Int) == k)=false:=by simp; omega
   go_wp2_with fail
   rw [rounds_succ];by_cases h34:k=34
   ·subst h34;go_wp2_with fail
    go_ret;exact ⟨rfl,HB.out⟩
   have b34:((34:Int) == k)=false:=by simp; omega
   go_wp2_with fail
   rw [rounds_succ];go_wp2;go_roundw
   case rel=>
    refine ⟨8,by omega,by first | rfl | trivial,by first | rfl | trivial,Lib.hid (Z23 (j:=7) HN.out fun c h1 h2 h3=>?_)⟩;have hc:c=24∨c=25∨c=26∨c=27∨c=28∨c=29∨c=30∨c=31∨c=32∨c=33∨c=34∨c=35∨c=36:=by omega
    clear HN h1 h2;rcases hc with rfl | rfl | rfl | rfl | rfl | rfl | rfl | rfl | rfl | rfl | rfl | rfl | rfl;all_goals first | assumption | (exfalso; revert h3; decide)
   case measure=>simp [intOf]
  ·go_wp2_with fail
   refine wp_loop_rounds 3 ?_;rw [rounds_succ];by_cases h35:k=35
   ·subst h35;go_wp2_with fail
    go_ret;exact ⟨rfl,HB.out⟩
   have b35:((35:Int) == k)=false:=by simp; omega
   go_wp2_with fail
   rw [rounds_succ];by_cases h36:k=36
   ·subst h36;go_wp2_with fail
    go_ret;exact ⟨rfl,HB.out⟩
   have b36:((36:Int) == k)=false:=by simp; omega
   go_wp2_with fail
   rw [rounds_succ];go_wp2;go_roundw
   case rel=>
    refine ⟨9,by omega,by first | rfl | trivial,by first | rfl | trivial,Lib.hid (Z23 (j:=8) HN.out fun c h1 h2 h3=>?_)⟩;have hc:c=24∨c=25∨c=26∨c=27∨c=28∨c=29∨c=30∨c=31∨c=32∨c=33∨c=34∨c=35∨c=36:=by omega
    clear HN h1 h2;rcases hc with rfl | rfl | rfl | rfl | rfl | rfl | rfl | rfl | rfl | rfl | rfl | rfl | rfl;all_goals first | assumption | (exfalso; revert h3; decide)
   case measure=>simp [intOf]
  ·have hs:Zo k=9:=Zbj fun c h1 h2=>HN.out c h1 h2 (by
    have hc:c=24∨c=25∨c=26∨c=27∨c=28∨c=29∨c=30∨c=31∨c=32∨c=33∨c=34∨c=35∨c=36:=by omega
    rcases hc with rfl | rfl | rfl | rfl | rfl | rfl | rfl | rfl | rfl | rfl | rfl | rfl | rfl;all_goals decide)
   clear HN;go_wp2;go_ret;exact ⟨Zkv (k:=.i64) hs.symm,HB.out⟩
open Go Go.RowKit
theorem lh {p:Prop} (h:p):Hid p:=Lib.hid h
theorem zT {w u v:World} (a:Hid (Below w.heap.size w u)) (b:Below u.heap.size u v):Hid (Below w.heap.size w v):=lh (a.out.trans (b.mono a.out.size))
theorem zL {α:Type _} {as bs:List α}:(as ++ bs).length=as.length + bs.length:=List.length_append
theorem zM {α:Type _} {a:α} {as:List α}:(a :: as).length=as.length + 1:=rfl
theorem zN {α:Type _}:([]:List α).length=0:=rfl
theorem zA {α:Type _} (l:List α) (i:Nat) (v:α):l.toArray.setIfInBounds i v=(l.set i v).toArray:=List.setIfInBounds_toArray ..
theorem zB {α:Type _} (x v:α) (l:List α):(x :: l).set 0 v=v :: l:=rfl
theorem zC {α:Type _} (x v:α) (l:List α) (n:Nat):(x :: l).set (n + 1) v=x :: l.set n v:=rfl
theorem Y5:type_of% @Nat.le_refl:=@Nat.le_refl
theorem Y6:type_of% @Array.getElem?_eq_some_iff:=@Array.getElem?_eq_some_iff
theorem Y8:type_of% @Below.refl:=@Below.refl
theorem Y9:type_of% @if_neg:=@if_neg
theorem Ya:type_of% @Nat.le_trans:=@Nat.le_trans
theorem Yb:type_of% @if_pos:=@if_pos
theorem Yd:type_of% @List.getElem?_eq_getElem:=@List.getElem?_eq_getElem
theorem Ye:type_of% @Nat.lt_of_lt_of_le:=@Nat.lt_of_lt_of_le
theorem Yg:type_of% @Below.heap_setCell:=@Below.heap_setCell
theorem Yh:type_of% @World.ownsRow.lt:=@World.ownsRow.lt
theorem Yi:type_of% @World.news_of_block:=@World.news_of_block
theorem Yj:type_of% @World.cell?_of_block:=@World.cell?_of_block
theorem Yk:type_of% @Option.some.inj:=@Option.some.inj
theorem Yl:type_of% @List.mem_of_getElem?:=@List.mem_of_getElem?
theorem Ym:type_of% @List.take_of_length_le:=@List.take_of_length_le
theorem Yn:type_of% @World.size_setCell:=@World.size_setCell
theorem Yo:type_of% @List.getElem?_map:=@List.getElem?_map
theorem Yp:type_of% @Nat.zero_le:=@Nat.zero_le
theorem Yq:type_of% @List.length_append:=@List.length_append
theorem Yr:type_of% @Tryz.underlying9:=@Tryz.underlying9
theorem Ys:type_of% @Tryz.underlying3:=@Tryz.underlying3
theorem Yt:type_of% @Nat.le_of_eq:=@Nat.le_of_eq
theorem Yu:type_of% @List.map_append:=@List.map_append
theorem Yv:type_of% @List.length_map:=@List.length_map
theorem Yw:type_of% @WideMaps.keyOf_string_mk:=@WideMaps.keyOf_string_mk
theorem zD {α β:Type _} (f:α→Option β) (a:α) (l:List α):(a :: l).filterMap f=match f a with | none=>l.filterMap f | some b=>b :: l.filterMap f:=rfl
theorem zE {α β:Type _} (f:α→Option β):([]:List α).filterMap f=[]:=rfl
theorem zF {α:Type _} (l:List α) (i:Nat):l.toArray[i]?=l[i]?:=List.getElem?_toArray ..
theorem zG {α:Type _} (a:α) (l:List α):(a :: l)[0]?=some a:=rfl
theorem zH {α:Type _} (a:α) (l:List α) (i:Nat):(a :: l)[i + 1]?=l[i]?:=rfl
theorem zI {α β:Type _} (f:α→β) (a:α):(some a).map f=some (f a):=rfl
theorem zJ {α β:Type _} (f:α→β) (a:α) (l:List α):(a :: l).map f=f a :: l.map f:=rfl
theorem zK {α β:Type _} (f:α→β):([]:List α).map f=[]:=rfl
theorem zX {α:Sort _} (a:α):∃ x,x=a:=⟨a,rfl⟩
end Go.Proofs.YtmeiggjboakmpaaGreatDoor
