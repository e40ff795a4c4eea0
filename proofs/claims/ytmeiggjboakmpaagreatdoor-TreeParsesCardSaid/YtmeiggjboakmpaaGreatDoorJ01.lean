/- Package lex: classes of bytes. -/
import Derived.Test.YtmeiggjboakmpaaGreatDoorProg
import Derived.WalkKit
import Derived.Lib.Hide
import Derived.OrdersHeld
import Derived.Tactics
import Derived.KernelRfl
import Derived.Laws.World
import Derived.Laws.AppendOwn
import Derived.Deep.AppendLies
import Derived.Lib.Builder
import Derived.Deep.RegionHeld3
import Derived.Deep.RegionLaw
import Derived.Deep.DeepMust
import Derived.WalkSpells
import Derived.WalkLawsBesides
import Derived.Shelf.Strings.Builder1
import Derived.Shelf.LaysM
import Derived.Shelf.Slices.Turned
import Derived.Test.YtmeiggjboakmpaaGreatDoorRows
namespace Go.Proofs.YtmeiggjboakmpaaGreatDoor
open Go Go.RowKit
set_option maxRecDepth 100000
set_option maxHeartbeats 20000000
def Z13 (c:Int):Bool:=(decide (97≤c) && decide (c≤122)) || decide (c=95)
def Z0q (c:Int):Bool:=decide (48≤c) && decide (c≤57)
def Z0x (c:Int):Bool:=decide (c=32) || decide (c=10)
def Z2r (c:Int):Bool:=Z13 c || Z0q c
theorem Za6 (w:World) (c:Int):Calls Tryz.prog 44 #[.int .u8 c] w fun e w'=>e=.returned (.bool (Z13 c))∧w'=w:=by
 by_cases h1:97≤c
 ·by_cases h2 : c ≤ 122
  ·have e : Z13 c = true := by simp [Z13, h1, h2]
   rw [e];go_enter Tryz.func44,Tryz.ntmps44
   go_wp2;go_ret;exact ⟨rfl,rfl⟩
  ·have e : Z13 c = false := by simp [Z13, h1, h2]; omega
   have h3:(c == 95)=false:=by simp; omega
   rw [e];go_enter Tryz.func44,Tryz.ntmps44
   go_wp2;go_ret;exact ⟨rfl,rfl⟩
 ·by_cases h3 : c = 95
  ·subst h3;go_enter Tryz.func44, Tryz.ntmps44
   go_wp2;go_ret;exact ⟨rfl,rfl⟩
  ·have e : Z13 c = false := by simp [Z13, h1, h3]
   have h3':(c == 95)=false:=by simp [h3]
   rw [e];go_enter Tryz.func44,Tryz.ntmps44
   go_wp2;go_ret;exact ⟨rfl,rfl⟩
theorem Z8y (w:World) (c:Int):Calls Tryz.prog 46 #[.int .u8 c] w fun e w'=>e=.returned (.bool (Z0q c))∧w'=w:=by
 by_cases h1:48≤c
 ·by_cases h2 : c ≤ 57
  ·have e : Z0q c = true := by simp [Z0q, h1, h2]
   rw [e];go_enter Tryz.func46,Tryz.ntmps46
   go_wp2;go_ret;exact ⟨rfl,rfl⟩
  ·have e : Z0q c = false := by simp [Z0q, h2]
   rw [e];go_enter Tryz.func46,Tryz.ntmps46
   go_wp2;go_ret;exact ⟨rfl,rfl⟩
 ·have e : Z0q c = false := by simp [Z0q, h1]
  rw [e];go_enter Tryz.func46,Tryz.ntmps46
  go_wp2;go_ret;exact ⟨rfl,rfl⟩
theorem Zfs (w:World) (c:Int):Calls Tryz.prog 43 #[.int .u8 c] w fun e w'=>e=.returned (.bool (Z0x c))∧w'=w:=by
 by_cases h1:c=32
 ·subst h1;go_enter Tryz.func43, Tryz.ntmps43
  go_wp2;go_ret;exact ⟨rfl,rfl⟩
 ·have q1 : (c == 32) = false := by simp [h1]
  have e:Z0x c=(c == 10):=by simp [Z0x,h1]; rfl
  rw [e];go_enter Tryz.func43,Tryz.ntmps43
  go_wp2;go_ret;exact ⟨rfl,rfl⟩
theorem Zi2 (w:World) (c:Int):Calls Tryz.prog 45 #[.int .u8 c] w fun e w'=>e=.returned (.bool (Z2r c))∧w'=w:=by
 have HL:=Lib.hid (Za6 w c);have HD:=Lib.hid (Z8y w c);unfold Z2r;cases hl:Z13 c
 ·rw [hl] at HL;go_enter Tryz.func45, Tryz.ntmps45
  go_wp2_with fail
  refine HL.out.mono ?_;rintro e w1 ⟨rfl,rfl⟩;go_wp2_with fail
  refine HD.out.mono ?_;rintro e w1 ⟨rfl,rfl⟩;go_wp2;go_ret;exact ⟨rfl,rfl⟩
 ·rw [hl] at HL;go_enter Tryz.func45, Tryz.ntmps45
  go_wp2_with fail
  refine HL.out.mono ?_;rintro e w1 ⟨rfl,rfl⟩;go_wp2;go_ret;exact ⟨rfl,rfl⟩
end Go.Proofs.YtmeiggjboakmpaaGreatDoor
namespace Go.Proofs.YtmeiggjboakmpaaGreatDoor
open Go
set_option maxRecDepth 100000
set_option maxHeartbeats 20000000
section
variable {P:Program} {ops:Array Oper} {md:Region.Mode}
def Ends (K:Act→World→Prop) (Q:Exit→Act→World→Prop):Exit→Act→World→Prop
 | .normal,a,w=>K a w
 | e,a,w=>Q e a w
theorem Zkm {Q Q':Exit→Act→World→Prop} {o:Oper} {a:Act} {w:World} {K:Act→World→Prop}
 (hp:∀ c a w,Q' (.panic c) a w→Q (.panic c) a w) (ho:LetsOut Q'→LetsOut Q) (h:o.wp P a w K Q'):o.wp P a w K Q:=by
 unfold Oper.wp at *;generalize (execOp a.eval o).run P w=r at *;cases r with
 | ok n w' =>
   cases n <;> simp only [Oper.upon] at h ⊢ <;>
    first
     | exact h
     | exact Calls.mono h (fun e w'' he=>by cases e <;> first | exact he | exact hp _ _ _ he | exact ho he)
 | halt x w'=>cases x <;> simp only [Oper.upon] at h ⊢ <;> exact hp _ _ _ h
theorem Zg5 {Q:Exit→Act→World→Prop} {R:Act→World→Prop} {i:Nat} {a:Act} {w:World} {K:Act→World→Prop}
 (h:wpOp P ops (Ends R Q) i K a w):wpOp P ops Q i K a w:=by
 unfold wpOp at *;split;·rename_i ho; simp only [ho] at h; exact h
 ·rename_i o ho;simp only [ho] at h;split
  ·rename_i hw;simp only [hw, if_true] at h;rcases h with h | ⟨h1, h2⟩;·exact .inl (Zkm (fun _ _ _ h => h) (fun h => h) h)
   ·exact .inr ⟨h1,h2⟩
  ·rename_i hw; simp only [hw] at h; exact h
theorem Za8 {Q:Exit→Act→World→Prop}:∀ (f:Nat) (listed:Array Bool) (a:Act) (w:World),wpAny P md ops Q f listed a w→wpAny P md ops Q (f + 1) listed a w
 | 0,listed,a,w,h=>⟨fun _=>h.2,by rw [h.1]; simp⟩
 | f + 1,listed,a,w,h=>⟨h.1,fun i hi=>wpOp_mono (fun a' w' h'=>Za8 f _ a' w' h') (h.2 i hi)⟩
theorem Zcn {Q:Exit→Act→World→Prop} {f g:Nat} (hfg:f≤g) {listed:Array Bool} {a:Act} {w:World} (h:wpAny P md ops Q f listed a w):wpAny P md ops Q g listed a w:=by
 obtain ⟨d,rfl⟩:=Nat.exists_eq_add_of_le hfg;induction d with
 | zero=>exact h
 | succ d ih=>exact Za8 _ _ _ _ (ih (by omega))
theorem Z67 (m j:Nat):(Array.replicate m false).getD j false=false:=by
 rcases Nat.lt_or_ge j m with h | h <;> simp [h]
def Z1p (l:List Nat) (m:Array Bool):Array Bool:=l.foldl (fun m i=>m.setIfInBounds i true) m
theorem Z47 (l:List Nat) (m:Array Bool):(Z1p l m).size=m.size:=by
 unfold Z1p;induction l generalizing m with
 | nil=>rfl
 | cons i l ih=>simp only [List.foldl_cons]; rw [ih]; simp
theorem Z4d {l:List Nat} {m:Array Bool} {j:Nat} (d:Bool) (h:j ∉ l):(Z1p l m).getD j d=m.getD j d:=by
 unfold Z1p;induction l generalizing m with
 | nil=>rfl
 | cons i l ih =>
   simp only [List.mem_cons,not_or] at h;simp only [List.foldl_cons];rw [ih h.2,getD_set_ne d (Ne.symm h.1)]
theorem Z3v {l:List Nat} {m:Array Bool} {j:Nat} (h:m.getD j false=true):(Z1p l m).getD j false=true:=by
 unfold Z1p;induction l generalizing m with
 | nil=>exact h
 | cons i l ih=>simp only [List.foldl_cons]; exact ih (getD_set_true h)
theorem Z4u {l:List Nat} {m:Array Bool} {j:Nat} (h:j∈l) (hj:j < m.size):(Z1p l m).getD j false=true:=by
 unfold Z1p;induction l generalizing m with
 | nil=>cases h
 | cons i l ih =>
   simp only [List.foldl_cons];rcases List.mem_cons.1 h with rfl | h;·exact Z3v (l:=l) (by simp [hj])
   ·exact ih h (by simpa using hj)
theorem Z7m (m:Array Bool) (i j:Nat):(m.setIfInBounds i true).setIfInBounds j true=(m.setIfInBounds j true).setIfInBounds i true:=by
 by_cases h:i=j;·subst h; rfl
 ·exact Array.setIfInBounds_comm _ _ h
theorem Zc6 (l:List Nat) (m:Array Bool) (i:Nat):Z1p l (m.setIfInBounds i true)=(Z1p l m).setIfInBounds i true:=by
 unfold Z1p;induction l generalizing m with
 | nil=>rfl
 | cons j l ih=>simp only [List.foldl_cons]; rw [Z7m,ih]
def Closed (md:Region.Mode) (ops:Array Oper) (m:Array Bool):Prop:=
 ∀ j o,ops[j]?=some o→m.getD j false=true→∀ e∈o.after,Region.binds md e=true→m.getD e.on false=true
theorem Closed.set {m:Array Bool} (h:Closed md ops m) {i:Nat} (hi:i∈Region.ready md ops m):Closed md ops (m.setIfInBounds i true):=by
 obtain ⟨_,oi,hoi,hall⟩:=mem_ready.1 hi;intro j o hj hl e he hb;by_cases hij:i=j
 ·subst hij;have:o=oi:=Option.some.inj (hj.symm.trans hoi);subst this;exact getD_set_true (hall e he hb)
 ·rw [getD_set_ne false hij] at hl;exact getD_set_true (h j o hj hl e he hb)
def Z5l (md:Region.Mode) (ops:Array Oper) (m:Array Bool) (j:Nat):Array Bool:=
 match ops[j]? with
 | some o=>o.after.toList.foldl (fun m e=>if Region.binds md e then m.setIfInBounds e.on true else m) m
 | none=>m
def Zks (md:Region.Mode) (ops:Array Oper) (t:Nat):Array Bool:=
 (List.range t).reverse.foldl (fun m j=>if m.getD j false then Z5l md ops m j else m) (Z5l md ops (Array.replicate ops.size false) t)
theorem Z7d {m listed:Array Bool} (hm:∀ k,m.getD k false=true→listed.getD k false=true) {j:Nat}
 (hj:∀ o,ops[j]?=some o→∀ e∈o.after,Region.binds md e=true→listed.getD e.on false=true):∀ k,(Z5l md ops m j).getD k false=true→listed.getD k false=true:=by
 unfold Z5l;cases ho:ops[j]? with
 | none=>exact hm
 | some o =>
   simp only;have hall:=hj o ho
   have:∀ (l:List Edge),(∀ e∈l,Region.binds md e=true→listed.getD e.on false=true)→∀ m:Array Bool,(∀ k,m.getD k false=true→listed.getD k false=true) →
    ∀ k,(l.foldl (fun m e=>if Region.binds md e then m.setIfInBounds e.on true else m) m).getD k false=true→listed.getD k false=true:=by
    intro l;induction l with
    | nil=>intro _ m hm; exact hm
    | cons e l ih =>
      intro he m hm;simp only [List.foldl_cons];refine ih (fun e' h'=>he e' (List.mem_cons_of_mem _ h')) _ fun k hk=>?_;by_cases hb:Region.binds md e=true
      ·rw [if_pos hb] at hk;by_cases hke : e.on = k;·subst hke; exact he e (List.mem_cons_self ..) hb
       ·rw [getD_set_ne false hke] at hk; exact hm k hk
      ·rw [if_neg hb] at hk; exact hm k hk
   exact this o.after.toList (fun e he=>hall e (Array.mem_toList_iff.1 he)) m hm
theorem Zfh {listed:Array Bool} (hc:Closed md ops listed) {t:Nat} (ht:∀ o,ops[t]?=some o→∀ e∈o.after,Region.binds md e=true→listed.getD e.on false=true) :
 ∀ k,(Zks md ops t).getD k false=true→listed.getD k false=true:=by
 unfold Zks;have h0:∀ k,(Z5l md ops (Array.replicate ops.size false) t).getD k false=true→listed.getD k false=true:=
  Z7d (fun k hk=>by
   rcases Nat.lt_or_ge k ops.size with h | h;·simp [h] at hk
   ·simp [h] at hk) ht
 have:∀ (l:List Nat) (m:Array Bool),(∀ k,m.getD k false=true→listed.getD k false=true) →
  ∀ k,(l.foldl (fun m j=>if m.getD j false then Z5l md ops m j else m) m).getD k false=true→listed.getD k false=true:=by
  intro l;induction l with
  | nil=>intro m hm; exact hm
  | cons j l ih =>
    intro m hm;simp only [List.foldl_cons];refine ih _ ?_;by_cases hj:m.getD j false=true
    ·rw [if_pos hj];exact Z7d hm (fun o ho e he hb=>hc j o ho (hm j hj) e he hb)
    ·rw [if_neg hj]; exact hm
 exact this _ _ h0
def waits (md:Region.Mode) (ops:Array Oper) (j i:Nat):Bool:=
 match ops[j]? with
 | some o=>o.after.any fun e=>Region.binds md e && e.on == i
 | none=>false
def Zho (md:Region.Mode) (ops:Array Oper):Bool:=
 (List.range ops.size).all fun j=>match ops[j]? with | some o=>o.after.all fun e=>!Region.binds md e || decide (e.on < j) | none=>true
def Zab (md:Region.Mode) (ops:Array Oper):Nat→List Nat→Bool
 | _,[]=>true
 | t,u :: r=>waits md ops u t && Zab md ops u r
def Z4g (md:Region.Mode) (ops:Array Oper):List Nat→Bool
 | []=>false
 | t :: r=>Zho md ops && ((t :: r).all fun j=>decide (j < ops.size)) && ((List.range ops.size).all fun j=>(t :: r).contains j || (Zks md ops t).getD j false) && Zab md ops t r
def Zch (md:Region.Mode) (ops:Array Oper):List Nat→Array Bool→Bool
 | [],listed=>(Region.ready md ops listed).isEmpty
 | t :: r,listed=>decide (Region.ready md ops listed=[t]) && Zch md ops r (listed.setIfInBounds t true)
theorem Zbf {t:Nat}:∀ {r:List Nat},Zab md ops t r=true→∀ u∈r,∃ s∈t :: r,waits md ops u s=true:=by
 intro r;induction r generalizing t with
 | nil=>intro _ u hu; cases hu
 | cons v r ih =>
   intro h u hu;simp only [Zab,Bool.and_eq_true] at h;rcases List.mem_cons.1 hu with rfl | hu;·exact ⟨t,List.mem_cons_self ..,h.1⟩
   ·obtain ⟨s,hs,hw⟩:=ih h.2 u hu;exact ⟨s,List.mem_cons_of_mem _ hs,hw⟩
theorem Z7t {j i:Nat} (h:waits md ops j i=true) {m:Array Bool} (hj:j∈Region.ready md ops m):m.getD i false=true:=by
 obtain ⟨_,o,ho,hall⟩:=mem_ready.1 hj;unfold waits at h;rw [ho] at h;obtain ⟨e,he,hb⟩:=Array.any_eq_true'.1 h;simp only [Bool.and_eq_true,beq_iff_eq] at hb;rw [← hb.2];exact hall e he hb.1
theorem Zg2 {ph:List Nat} (hB:Z4g md ops ph=true) {m:Array Bool} (hc:Closed md ops m) (hun:∀ t∈ph,m.getD t false=false)
 {j:Nat} (hj:j < ops.size) (hjp:j ∉ ph) (hju:m.getD j false=false):∀ t∈ph,t ∉ Region.ready md ops m:=by
 cases ph with
 | nil=>simp [Z4g] at hB
 | cons t r =>
   simp only [Z4g,Bool.and_eq_true] at hB;obtain ⟨⟨⟨_,_⟩,hd⟩,hch⟩:=hB;intro u hu hr;rcases List.mem_cons.1 hu with rfl | hu'
   ·obtain ⟨_,o,ho,hall⟩:=mem_ready.1 hr;have h1:=List.all_eq_true.1 hd j (List.mem_range.2 hj);simp only [Bool.or_eq_true,List.contains_eq_mem,decide_eq_true_eq] at h1;have h2:=h1.resolve_left hjp;have:=Zfh hc (t:=u) (fun o' ho' e he hb=>by
     have:o'=o:=Option.some.inj (ho'.symm.trans ho);subst this;exact hall e he hb) j h2
    rw [hju] at this;cases this
   ·obtain ⟨s,hs,hw⟩:=Zbf hch u hu';have h3:=Z7t hw hr;rw [hun s hs] at h3;cases h3
theorem Zav {m:Array Bool} {j:Nat} (h:j < m.size):m.getD j true=m.getD j false:=by simp [h]
theorem Z7z (hB:Zho md ops=true) {m:Array Bool} (hs:m.size=ops.size):∀ j,j < ops.size→m.getD j false=false→Region.ready md ops m≠[]:=by
 intro j;induction j using Nat.strongRecOn with
 | _ j ih =>
   intro hj hju;have ho:ops[j]?=some ops[j]:=Array.getElem?_eq_getElem hj;have h1:=List.all_eq_true.1 hB j (List.mem_range.2 hj);rw [ho] at h1;simp only [Array.all_eq_true_iff_forall_mem,Bool.or_eq_true,Bool.not_eq_true',decide_eq_true_eq] at h1;by_cases hall:∀ e∈ops[j].after,Region.binds md e=true→m.getD e.on false=true
   ·intro h0;have:j∈Region.ready md ops m:=mem_ready.2 ⟨by rw [Zav (by omega)]; exact hju,_,ho,hall⟩;rw [h0] at this;cases this
   ·simp only [Classical.not_forall] at hall;obtain ⟨e,he,hb,hn⟩:=hall;have hlt:e.on < j:=(h1 e he).resolve_left (by simp [hb]);exact ih e.on hlt (by omega) (by simpa using hn)
theorem Z7h {Q:Exit→Act→World→Prop}:∀ (l:List Nat) (listed:Array Bool) (a:Act) (w:World),Zch md ops l listed=true →
 wpList P ops Q (l.filterMap (ops[·]?)) a w→wpAny P md ops Q l.length listed a w
 | [],listed,a,w,hB,h=>⟨by simpa [Zch] using hB,h⟩
 | t :: l, listed, a, w, hB, h => by
   simp only [Zch,Bool.and_eq_true,decide_eq_true_eq] at hB;refine ⟨fun h1=>(by rw [hB.1] at h1; cases h1),fun i hi=>?_⟩;have hi':=hi;rw [hB.1] at hi;have hit:i=t:=by simpa using hi
   subst hit;obtain ⟨_,o,ho,_⟩:=mem_ready.1 hi';rw [List.filterMap_cons,ho] at h;simp only [wpList] at h;have hw:wpOp P ops Q i (wpList P ops Q (l.filterMap (ops[·]?))) a w:=by unfold wpOp; simp only [ho]; exact h
   exact wpOp_mono (fun a' w' h'=>Z7h l _ a' w' hB.2 h') hw
theorem Z8v {Q:Exit→Act→World→Prop} {ph:List Nat} (hB:Z4g md ops ph=true) (hseq:∀ m:Array Bool,m.size=ops.size→(∀ j,j < ops.size→m.getD j false=!ph.contains j)→Zch md ops ph m=true) :
 ∀ (f : Nat) (listed : Array Bool) (a : Act) (w : World), listed.size = ops.size → Closed md ops listed → (∀ t ∈ ph, listed.getD t false = false) →
   wpAny P md ops (Ends (wpList P ops Q (ph.filterMap (ops[·]?))) Q) f (Z1p ph listed) a w→wpAny P md ops Q (f + ph.length) listed a w:=by
 have hback:Zho md ops=true:=by
  cases ph with
  | nil=>simp [Z4g] at hB
  | cons t r=>simp only [Z4g,Bool.and_eq_true] at hB; exact hB.1.1.1
 have hin:∀ t∈ph,t < ops.size:=by
  cases ph with
  | nil=>simp [Z4g] at hB
  | cons t r =>
    simp only [Z4g,Bool.and_eq_true] at hB;intro u hu;simpa using List.all_eq_true.1 hB.1.1.2 u hu
 have fin:∀ (g:Nat) (listed:Array Bool) (a:Act) (w:World),listed.size=ops.size→(∀ t∈ph,listed.getD t false=false)→(∀ j,j < ops.size→j ∉ ph→listed.getD j false=true) →
  wpList P ops Q (ph.filterMap (ops[·]?)) a w→wpAny P md ops Q (g + ph.length) listed a w:=by
  intro g listed a w hs hun hall h;refine Zcn (Nat.le_add_left _ _) (Z7h ph listed a w (hseq listed hs fun j hj=>?_) h);by_cases hjp:j∈ph;·rw [hun j hjp]; simp [hjp]
  ·rw [hall j hj hjp]; simp [hjp]
 have done:∀ (listed:Array Bool),listed.size=ops.size→Region.ready md ops (Z1p ph listed)=[]→∀ j,j < ops.size→j ∉ ph→listed.getD j false=true:=by
  intro listed hs hr j hj hjp;cases h:listed.getD j false with
  | true=>rfl
  | false=>exact absurd hr (Z7z hback (by rw [Z47]; exact hs) j hj (by rw [Z4d false hjp]; exact h))
 intro f;induction f with
 | zero =>
   intro listed a w hs hc hun h;exact fin 0 listed a w hs hun (done listed hs h.1) h.2
 | succ f ih =>
   intro listed a w hs hc hun h;by_cases hall:∀ j,j < ops.size→j ∉ ph→listed.getD j false=true
   ·refine fin (f + 1) listed a w hs hun hall (h.1 ?_);refine List.eq_nil_iff_forall_not_mem.2 fun i hi => ?_;obtain ⟨h0, o, ho, _⟩ := mem_ready.1 hi;have hil : i < ops.size := (Array.getElem?_eq_some_iff.1 ho).1;rw [Zav (by rw [Z47]; omega)] at h0;by_cases hip : i ∈ ph;·rw [Z4u hip (by omega)] at h0; cases h0
    ·rw [Z4d false hip,hall i hil hip] at h0; cases h0
   ·simp only [Classical.not_forall] at hall;obtain ⟨j, hj, hjp, hju⟩ := hall;have hju' : listed.getD j false = false := by simpa using hju
    have hnr:=Zg2 hB hc hun hj hjp hju';rw [show f + 1 + ph.length=(f + ph.length) + 1 by omega];refine ⟨fun h0=>absurd h0 (Z7z hback hs j hj hju'),fun i hi=>?_⟩;have hip:i ∉ ph:=fun hp=>hnr i hp hi;obtain ⟨h0,o,ho,hae⟩:=mem_ready.1 hi;have hi':i∈Region.ready md ops (Z1p ph listed):=mem_ready.2 ⟨by rw [Z4d true hip]; exact h0,o,ho,fun e he hb=>Z3v (hae e he hb)⟩;refine wpOp_mono (fun a' w' h'=>?_) (Zg5 (h.2 i hi'));refine ih _ a' w' (by simpa using hs) (hc.set hi) (fun t ht=>?_) (by rw [Zc6]; exact h');rw [getD_set_ne false (by rintro rfl; exact hip ht)]
    exact hun t ht
def Z46 (P:Program) (ops:Array Oper) (Q:Exit→Act→World→Prop) (S:World→Prop):List (Bool×Oper)→Act→World→Prop
 | [],a,w=>Q .normal a w
 | (true,o) :: r,a,w=>∃ v,YieldsIf P ops S o v a∧Z46 P ops Q S r (a.put o.dst v) w
 | (false,o) :: r,a,w=>if Region.wanted o (yielded ops a.tmps)=true then o.wp P a w (fun a' w'=>S w'∧Z46 P ops Q S r a' w') Q else Z46 P ops Q S r (a.put o.dst undef) w
def Zco (md:Region.Mode) (ops:Array Oper):List (Bool×Nat)→Array Bool→Bool
 | [],listed=>(Region.ready md ops listed).isEmpty
 | (true,i) :: r,listed=>(Region.ready md ops listed).contains i && Region.free md ops listed i && Zco md ops r (listed.setIfInBounds i true)
 | (false,i) :: r,listed=>decide (Region.ready md ops listed=[i]) && Zco md ops r (listed.setIfInBounds i true)
def Zh (ops:Array Oper) (l:List (Bool×Nat)):List (Bool×Oper):=l.filterMap fun x=>(ops[x.2]?).map fun o=>(x.1,o)
theorem Z59 {Q:Exit→Act→World→Prop} {S:World→Prop} (hsel:Region.noSelect ops=true) (hQ:∀ c a d v w,Q (.panic c) (Act.put a d v) w→Q (.panic c) a w) :
 ∀ (l:List (Bool×Nat)) (listed:Array Bool) (a:Act) (w:World),Zco md ops l listed=true→S w→Z46 P ops Q S (Zh ops l) a w→wpAnyH P md ops Q S l.length listed a w
 | [],listed,a,w,hB,_,h=>⟨by simpa [Zco] using hB,h⟩
 | (true, i) :: l, listed, a, w, hB, hS, h => by
   simp only [Zco,Bool.and_eq_true] at hB;obtain ⟨⟨hr,hf⟩,hB'⟩:=hB;obtain ⟨_,o,ho,_⟩:=mem_ready.1 (show i∈Region.ready md ops listed by simpa using hr);have e:Zh ops ((true,i) :: l)=(true,o) :: Zh ops l:=by simp [Zh,ho]
   rw [e] at h;obtain ⟨v,hy,h'⟩:=h;exact wpAnyH_take ho hsel hf hr (fun c a w=>hQ c a _ _ w) hy hS (Z59 hsel hQ l _ _ w hB' hS h')
 | (false, i) :: l, listed, a, w, hB, hS, h => by
   simp only [Zco,Bool.and_eq_true,decide_eq_true_eq] at hB;obtain ⟨hr,hB'⟩:=hB;obtain ⟨_,o,ho,_⟩:=mem_ready.1 (show i∈Region.ready md ops listed by rw [hr]; simp);have e:Zh ops ((false,i) :: l)=(false,o) :: Zh ops l:=by simp [Zh,ho]
   rw [e] at h;refine wpAnyH_all hr (by simp) fun k hk=>?_;have hki:k=i:=by simpa using hk
   subst hki;unfold wpOp;simp only [ho];unfold Z46 at h;split at h
   ·rename_i hw;rw [if_pos hw];exact .inl (Oper.wp_mono (fun a' w' h'=>⟨h'.1,Z59 hsel hQ l _ a' w' hB' h'.1 h'.2⟩) h)
   ·rename_i hw;rw [if_neg hw];exact ⟨hS,Z59 hsel hQ l _ _ w hB' hS h⟩
theorem Za {Q:Exit→Act→World→Prop} {S:World→Prop} {o:Oper} {r:List (Bool×Oper)} {a:Act} {w:World} (v:Value) (h:Z46 P ops Q S r (a.put o.dst v) w)
 (hw:Region.wanted o (yielded ops a.tmps)=true:=by rfl) (hy:∀ w',S w'→(execOp a.eval o).run P w'=.ok (.value v) w':=by (intro w' hS'; (repeat (have hs_:=hS'.1; replace hS':=hS'.2)); go_simp; first | done | with_reducible rfl)) :
 Z46 P ops Q S ((true,o) :: r) a w:=⟨v,.inl ⟨hw,hy⟩,h⟩
theorem Zb {Q:Exit→Act→World→Prop} {S:World→Prop} {o:Oper} {r:List (Bool×Oper)} {a:Act} {w:World} (h:Z46 P ops Q S r (a.put o.dst undef) w)
 (hw:Region.wanted o (yielded ops a.tmps)=false:=by rfl):Z46 P ops Q S ((true,o) :: r) a w:=⟨undef,.inr ⟨hw,rfl⟩,h⟩
theorem Z5 {Q:Exit→Act→World→Prop} {S:World→Prop} {o:Oper} {r:List (Bool×Oper)} {a:Act} {w:World}
 (h:∀ K:Act→World→Prop,(∀ a' w',S w'→Z46 P ops Q S r a' w'→K a' w')→if Region.wanted o (yielded ops a.tmps)=true then o.wp P a w K Q else K (a.put o.dst undef) w) :
 Z46 P ops Q S ((false,o) :: r) a w:=by
 unfold Z46;by_cases hw:Region.wanted o (yielded ops a.tmps)=true
 ·rw [if_pos hw];have:=h (fun a' w'=>S w'∧Z46 P ops Q S r a' w') (fun _ _ h1 h2=>⟨h1,h2⟩);rwa [if_pos hw] at this
 ·rw [if_neg hw];have:=h (fun a' w'=>S w'∧Z46 P ops Q S r a' w') (fun _ _ h1 h2=>⟨h1,h2⟩);rw [if_neg hw] at this;exact this.2
theorem Z6 {Q:Exit→Act→World→Prop} {S:World→Prop} {a:Act} {w:World} {l:List Oper} (h:wpList P ops Q l a w):Z46 P ops (Ends (wpList P ops Q l) Q) S [] a w:=h
def allB (md:Region.Mode) (ops:Array Oper) (plan:List (Bool×Nat)) (ph:List Nat):Bool:=
 Region.noSelect ops && Z4g md ops ph && Zch md ops ph (((List.range ops.size).map fun j=>!ph.contains j).toArray) && Zco md ops plan (Z1p ph (Array.replicate ops.size false)) && decide (plan.length + ph.length=ops.size)
theorem Z6q {Q:Exit→Act→World→Prop} {id:Nat} {l:List Oper} {a:Act} {w:World} (plan:List (Bool×Nat)) (ph:List Nat) (S:World→Prop) (hm:P.follows .mixedOrders=true)
 (hB:allB .any l.toArray plan ph=true) (hQ:∀ c a d v w,Q (.panic c) (Act.put a d v) w→Q (.panic c) a w) (hS:S w.drew)
 (h:S w.drew→Z46 P l.toArray (Ends (wpList P l.toArray Q (ph.filterMap (l.toArray[·]?))) Q) S (Zh l.toArray plan) a w.drew):(Code.region id l.toArray true).wp P Q a w:=by
 simp only [allB,Bool.and_eq_true,decide_eq_true_eq] at hB;obtain ⟨⟨⟨⟨hsel,hph⟩,hseq⟩,hplan⟩,hlen⟩:=hB;refine wp_region_any hm ?_;have hin:∀ t∈ph,t < l.toArray.size:=by
  cases ph with
  | nil=>simp [Z4g] at hph
  | cons t r =>
    simp only [Z4g,Bool.and_eq_true] at hph;intro u hu;simpa using List.all_eq_true.1 hph.1.1.2 u hu
 have H:=Z59 (P:=P) (md:=.any) (Q:=Ends (wpList P l.toArray Q (ph.filterMap (l.toArray[·]?))) Q) hsel hQ plan _ a w.drew hplan hS (h hS);have key:=Z8v (Q:=Q) hph (fun m hs hm'=>?_) plan.length (Array.replicate l.toArray.size false) a w.drew (by simp) ?_ ?_ (wpAny_of_held _ _ _ _ H);·rw [hlen] at key; exact key
 ·have:m=((List.range l.toArray.size).map fun j=>!ph.contains j).toArray:=by
   apply Array.ext;·simp only [hs,List.size_toArray,List.length_map,List.length_range]
   ·intro j h1 h2;have:=hm' j (by omega);simp only [List.getElem_toArray,List.getElem_map,List.getElem_range];rw [← this];simp [h1]
  rw [this]; exact hseq
 ·intro j o _ hl;rw [Z67] at hl;cases hl
 ·intro t _;exact Z67 _ _
def pD (n:Nat):Bool×Nat:=(n % 2 == 0,n / 2)
theorem Zf {Q:Exit→Act→World→Prop} {id:Nat} {l:List Oper} {a:Act} {w:World} (plan:List Nat) (ph:List Nat) (S:World→Prop) (hS:S w.drew)
 (h:S w.drew→Z46 P l.toArray (Ends (wpList P l.toArray Q (ph.filterMap (l.toArray[·]?))) Q) S (Zh l.toArray (plan.map pD)) a w.drew) (hm:P.follows .mixedOrders=true:=by kernel_rfl)
 (hB:allB .any l.toArray (plan.map pD) ph=true:=by kernel_rfl) (hQ:∀ c a d v w,Q (.panic c) (Act.put a d v) w→Q (.panic c) a w:=by (intro _ _ d _ _ h; cases d <;> exact h)):(Code.region id l.toArray true).wp P Q a w:=
 Z6q (plan.map pD) ph S hm hB hQ hS h
end
end Go.Proofs.YtmeiggjboakmpaaGreatDoor
namespace Go.Proofs.YtmeiggjboakmpaaGreatDoor
open Go Go.RowKit
set_option maxRecDepth 100000
set_option maxHeartbeats 20000000
def Z15 (a b:ByteArray):Bool:=decide (a=b)
theorem Z3m {a b:ByteArray}:Z15 a b=true↔a=b:=by simp [Z15]
theorem Z25 {a b:ByteArray} (h:a.toList=b.toList):a=b:=by
 obtain ⟨⟨a⟩⟩:=a; obtain ⟨⟨b⟩⟩:=b;simpa [ByteArray.toList_eq] using h
theorem Z3u (a b:ByteArray):(a.toList == b.toList)=Z15 a b:=by
 unfold Z15;by_cases h:a=b;·simp [h]
 ·simp only [h,decide_false,beq_eq_false_iff_ne,ne_eq];exact fun e=>h (Z25 e)
theorem getElem?_flatMap {α β:Type} (f:α→List β) (m:Nat) (hf:∀ a,(f a).length=m) (l:List α) (i j:Nat) (hj:j < m) :
 (l.flatMap f)[i * m + j]?=(l[i]?).bind fun a=>(f a)[j]?:=by
 induction l generalizing i with
 | nil=>simp
 | cons a l ih =>
   rw [List.flatMap_cons];cases i with
   | zero=>rw [List.getElem?_append_left (by rw [hf]; omega)]; simp
   | succ i =>
     rw [List.getElem?_append_right (by rw [hf,Nat.succ_mul]; omega),hf,show (i + 1) * m + j - m=i * m + j by rw [Nat.succ_mul]; omega,ih];simp
theorem Zdr {w:World} {base:Nat} {e:TypeId} {m:Nat} {v:Value} {n:Nat} {α:Type} {f:α→List Value} {l:List α} (hf:∀ a,(f a).length=m)
 (h:w.ownsRow base e m v n (l.flatMap f)) {g:Nat} (hg:v.ownBlock=some g) {i j:Nat} {a:α} {x:Value} (hi:l[i]?=some a) (hj:(f a)[j]?=some x) :
 w.cell? ⟨g,i * m + j,none⟩=some x:=by
 have hjm:j < m:=by rw [← hf a]; exact (List.getElem?_eq_some_iff.1 hj).1
 have:=h.cells hg (i * m + j) x (by rw [getElem?_flatMap f m hf l i j hjm,hi]; exact hj);rwa [show ((⟨g,0,none⟩:Addr).add (i * m + j))=⟨g,i * m + j,none⟩ by unfold Addr.add; split <;> simp_all] at this
theorem Zq {w w':World} {base:Nat} {e:TypeId} {m:Nat} {v:Value} {n:Nat} {xs:List Value} (h:w.ownsRow base e m v n xs)
 (hb:∀ g,v.ownBlock=some g→w'.heap[g]?=w.heap[g]?):w'.ownsRow base e m v n xs:=by
 refine ⟨h.1,?_⟩;rcases h.2 with hn | ⟨g,cap,cur,rfl,hbg,hgg,rest⟩;·exact .inl hn
 ·exact .inr ⟨g,cap,cur,rfl,hbg,by rw [hb g rfl]; exact hgg,rest⟩
theorem Zp {w:World} {base:Nat} {e:TypeId} {m:Nat} {v:Value} {n:Nat} {xs:List Value} (h:w.ownsRow base e m v n xs) :
 (v=.slice none 0 0∧n=0)∨∃ g cap,v=.slice (some ⟨g,0,none⟩) n cap∧n≤cap∧cap≤maxLen∧g < w.heap.size:=by
 rcases h.2 with hn | ⟨g,cap,cur,rfl,_,hgg,h1,h2,_⟩;·exact .inl hn
 ·exact .inr ⟨g,cap,rfl,h1,h2,(Array.getElem?_eq_some_iff.1 hgg).1⟩
theorem Zl5 {k:IntKind} {a b:Int} (h:a=b):Ending.returned (.int k a)=.returned (.int k b):=by rw [h]
theorem Z7a {a b:Bool} (h:a=b):Ending.returned (.bool a)=.returned (.bool b):=by rw [h]
theorem Z8 {w:World} {o:Obj} {p:Addr} (h:p.block < w.heap.size):(w.alloc o).cell? p=w.cell? p:=((Below.refl w.heap.size w).alloc (Nat.le_refl _) o).cell h
theorem Z0m {w:World} {o:Obj} {p:Addr} (h:p.block < w.heap.size):(w.alloc o).frozen? p=w.frozen? p:=((Below.refl w.heap.size w).alloc (Nat.le_refl _) o).frozen h
theorem Z07 {w:World} {b o:Nat} {c:Array Value} {T:TypeId} {mk:Nat×Nat} (v:Value) (h:w.heap[b]?=some (.cells c T mk)) :
 (w.setCell ⟨b,o,none⟩ v).heap[b]?=some (.cells (c.setIfInBounds o v) T mk):=by
 simp [World.setCell,Array.getElem?_modify,h]
structure ScanAt (w0 w:World) (sb:Nat) (text:ByteArray) (at':Nat):Prop where
 blk:w.heap[sb]?=some (.cells #[.string text,.int .i64 at'] 85 (0,0))
 os:w.os=w0.os
 tape:w.tape=w0.tape
 output:w.output=w0.output
 size:w0.heap.size≤w.heap.size
 block:∀ k,k < w0.heap.size→k≠sb→w.heap[k]?=w0.heap[k]?
variable {w0 w w':World} {sb:Nat} {text:ByteArray} {a b:Nat}
theorem ScanAt.refl (h:w.heap[sb]?=some (.cells #[.string text,.int .i64 a] 85 (0,0))):ScanAt w w sb text a:=⟨h,rfl,rfl,rfl,Nat.le_refl _,fun _ _ _=>rfl⟩
theorem ScanAt.trans (h:ScanAt w0 w sb text a) (g:ScanAt w w' sb text b):ScanAt w0 w' sb text b:=
 ⟨g.blk,g.os.trans h.os,g.tape.trans h.tape,g.output.trans h.output,Nat.le_trans h.size g.size,fun k hk hn=>(g.block k (Nat.lt_of_lt_of_le hk h.size) hn).trans (h.block k hk hn)⟩
theorem ScanAt.drew (h:ScanAt w0 w sb text a):ScanAt w0 w.drew sb text a:=⟨h.blk,h.os,h.tape,h.output,h.size,h.block⟩
theorem ScanAt.lt (h:ScanAt w0 w sb text a):sb < w.heap.size:=(Array.getElem?_eq_some_iff.1 h.blk).1
theorem ScanAt.below (h:ScanAt w0 w sb text a) (hB:Below w.heap.size w w'):ScanAt w0 w' sb text a:=
 ⟨(hB.block sb h.lt).trans h.blk,hB.os.trans h.os,hB.tape.trans h.tape,hB.output.trans h.output,Nat.le_trans h.size hB.size,fun k hk hn=>(hB.block k (Nat.lt_of_lt_of_le hk h.size)).trans (h.block k hk hn)⟩
theorem ScanAt.c0 (h:ScanAt w0 w sb text a):w.cell? ⟨sb,0,none⟩=some (.string text):=by simp [World.cell?,h.blk]
theorem ScanAt.c1 (h:ScanAt w0 w sb text a):w.cell? ⟨sb,1,none⟩=some (.int .i64 a):=by simp [World.cell?,h.blk]
theorem ScanAt.fz (h:ScanAt w0 w sb text a) (o:Nat):w.frozen? ⟨sb,o,none⟩=false:=by simp [World.frozen?,h.blk]
theorem ScanAt.set (h:ScanAt w0 w sb text a) (b:Nat):ScanAt w0 (w.setCell ⟨sb,1,none⟩ (.int .i64 b)) sb text b:=
 ⟨Z07 _ h.blk,h.os,h.tape,h.output,by simpa using h.size,fun k hk hn=>(Below.heap_setCell _ _ _ _ hn).trans (h.block k hk hn)⟩
def Zc (text:ByteArray) (i:Nat):Int:=((text.data.getD i 0).toNat:Int)
def Z03 (p:Int→Bool) (text:ByteArray):Nat→Nat→Nat
 | 0,i=>i
 | f + 1,i=>if i < text.size && p (Zc text i) then Z03 p text f (i + 1) else i
theorem Z2a {i:Nat} (h:i < text.size):Zc text i=((text[i]'h).toNat:Int):=by
 unfold Zc;have:i < text.data.size:=h;simp only [Array.getD,dif_pos this];rfl
theorem Z88 {p:Int→Bool} {j:Nat} (h:j < text.size) (hp:p (Zc text j)=true):Z03 p text (text.size - j) j=Z03 p text (text.size - (j + 1)) (j + 1):=by
 obtain ⟨f,hf⟩:∃ f,text.size - j=f + 1:=⟨text.size - j - 1,by omega⟩
 rw [hf,show text.size - (j + 1)=f by omega];simp [Z03,h,hp]
theorem Z8c {p:Int→Bool} {j:Nat} (hp:¬ j < text.size∨p (Zc text j)=false):Z03 p text (text.size - j) j=j:=by
 cases hf:text.size - j with
 | zero=>rfl
 | succ f =>
   rcases hp with h | h;·omega
   ·simp [Z03,h]
theorem Zci {fv:Value} {p:Int→Bool} (hfp:(fv=.func (.func 43) #[] #[]∧p=Z0x)∨(fv=.func (.func 45) #[] #[]∧p=Z2r)∨(fv=.func (.func 46) #[] #[]∧p=Z0q)) (h:w.heap[sb]?=some (.cells #[.string text,.int .i64 a] 85 (0,0))) (ha:a≤text.size) (hm:text.size≤1000000) :
 Calls Tryz.prog 42 #[.pointer (some ⟨sb,0,none⟩),fv] w fun e w'=>∃ b,b=Z03 p text (text.size - a) a∧a≤b∧b≤text.size∧e=.returned (.string (text.extract a b))∧ScanAt w w' sb text b:=by
 rcases hfp with ⟨rfl,rfl⟩ | ⟨rfl,rfl⟩ | ⟨rfl,rfl⟩;have HL:=Lib.hid (fun w c=>Zfs w c);obtain ⟨P,hP⟩:∃ P,P=Z0x:=⟨_,rfl⟩
 rw [← hP] at HL ⊢;clear hP;rotate_left
 have HL:=Lib.hid (fun w c=>Zi2 w c);obtain ⟨P,hP⟩:∃ P,P=Z2r:=⟨_,rfl⟩
 rw [← hP] at HL ⊢;clear hP;rotate_left
 have HL:=Lib.hid (fun w c=>Z8y w c);obtain ⟨P,hP⟩:∃ P,P=Z0q:=⟨_,rfl⟩
 rw [← hP] at HL ⊢;clear hP;rotate_left
 all_goals
  have S0:=Lib.hid (ScanAt.refl h);have c0:=S0.out.c0;have c1:=S0.out.c1;clear h;go_enter Tryz.func42,Tryz.ntmps42
  go_wp2;go_loopw [] (fun wr=>∃ j:Nat,a≤j∧j≤text.size∧Z03 P text (text.size - j) j=Z03 P text (text.size - a) a∧ScanAt w wr sb text j) (fun wr=>text.size - (intOf ((wr.cell? ⟨sb,1,none⟩).getD .nilIface)).toNat)
  case atStart=>exact ⟨a,Nat.le_refl _,ha,rfl,S0.out⟩
  case round=>
   obtain ⟨j,hj1,hj2,hsp,hS⟩:=hrel;have q0:=hS.c0;have q1:=hS.c1;have SJ:=Lib.hid hS;have HSP:=Lib.hid hsp;clear hS hsp c0 c1;by_cases hlt:j < text.size
   ·obtain ⟨B, hB⟩ : ∃ B, B = P (Zc text j) := ⟨_, rfl⟩
    have HB:=Lib.hid hB;have HC:=HL.out wr.drew (Zc text j);rw [← hB,Z2a hlt] at HC;have HC:=Lib.hid HC;clear hB;cases B
    all_goals
     go_wp2_with fail
     refine Zf [0,2,4,6,8,10,12,14,16,18,20,22,24,26,28,30,32,34,36,38,40] [21,22] (fun W=>W.cell? ⟨sb,0,none⟩=some (.string text)∧W.cell? ⟨sb,1,none⟩=some (.int .i64 j)) ⟨q0,q1⟩ fun _=>?_;simp only [List.map_cons,List.map_nil,pD,Zh,List.filterMap_cons,List.filterMap_nil,List.getElem?_toArray,List.getElem?_cons_zero,List.getElem?_cons_succ,Option.map_some]
     iterate 21
      first | refine Za _ ?_ | refine Zb ?_
      simp only [Act.put,List.setIfInBounds_toArray,List.set_cons_zero,List.set_cons_succ]
     refine Z6 ?_;go_wp2_with fail
     refine HC.out.mono ?_;rintro e w1 ⟨rfl,rfl⟩
    ·go_wp2_with fail
     refine Zf [0,2,4,6,8,10,12,14,16] [9,10] (fun W=>W.cell? ⟨sb,0,none⟩=some (.string text)∧W.cell? ⟨sb,1,none⟩=some (.int .i64 j)) ⟨q0,q1⟩ fun _=>?_;simp only [List.map_cons,List.map_nil,pD,Zh,List.filterMap_cons,List.filterMap_nil,List.getElem?_toArray,List.getElem?_cons_zero,List.getElem?_cons_succ,Option.map_some]
     iterate 9
      first | refine Za _ ?_ | refine Zb ?_
      simp only [Act.put,List.setIfInBounds_toArray,List.set_cons_zero,List.set_cons_succ]
     refine Z6 ?_;go_wp2;go_ret;exact ⟨j,by rw [← HSP.out]; exact (Z8c (.inr HB.out.symm)).symm,hj1,hj2,rfl,SJ.out.drew.drew⟩
    ·have z1 := SJ.out.fz 1;go_wp2;go_roundw
     case rel=>exact ⟨j + 1,by omega,by omega,by rw [← Z88 hlt HB.out.symm]; exact HSP.out,SJ.out.drew.set (j + 1)⟩
     case measure=>
      have e1:(wr.setCell ⟨sb,1,none⟩ (.int .i64 ((j:Int) + 1))).cell? ⟨sb,1,none⟩=some (.int .i64 ((j:Int) + 1)):=(SJ.out.set (j + 1)).c1;have e2:=SJ.out.c1;rw [World.cell?_drew,e1,e2];simp [intOf];omega
   ·go_wp2_with fail
    refine Zf [0,2,4,6,8,10,12,14,16,18,20,22,24,26,28,30,32,34,36,38,40] [21,22] (fun W=>W.cell? ⟨sb,0,none⟩=some (.string text)∧W.cell? ⟨sb,1,none⟩=some (.int .i64 j)) ⟨q0,q1⟩ fun _=>?_;simp only [List.map_cons,List.map_nil,pD,Zh,List.filterMap_cons,List.filterMap_nil,List.getElem?_toArray,List.getElem?_cons_zero,List.getElem?_cons_succ,Option.map_some]
    iterate 21
     first | refine Za _ ?_ | refine Zb ?_
     simp only [Act.put,List.setIfInBounds_toArray,List.set_cons_zero,List.set_cons_succ]
    refine Z6 ?_;go_wp2_with fail
    refine Zf [0,2,4,6,8,10,12,14,16] [9,10] (fun W=>W.cell? ⟨sb,0,none⟩=some (.string text)∧W.cell? ⟨sb,1,none⟩=some (.int .i64 j)) ⟨q0,q1⟩ fun _=>?_;simp only [List.map_cons,List.map_nil,pD,Zh,List.filterMap_cons,List.filterMap_nil,List.getElem?_toArray,List.getElem?_cons_zero,List.getElem?_cons_succ,Option.map_some]
    iterate 9
     first | refine Za _ ?_ | refine Zb ?_
     simp only [Act.put,List.setIfInBounds_toArray,List.set_cons_zero,List.set_cons_succ]
    refine Z6 ?_;go_wp2;go_ret;exact ⟨j,by rw [← HSP.out]; exact (Z8c (.inl hlt)).symm,hj1,hj2,rfl,SJ.out.drew.drew⟩
theorem Zgi (h:w.heap[sb]?=some (.cells #[.string text,.int .i64 a] 85 (0,0))) (ha:a≤text.size) (hm:text.size≤1000000) :
 Calls Tryz.prog 42 #[.pointer (some ⟨sb,0,none⟩),.func (.func 43) #[] #[]] w fun e w'=>∃ b,b=Z03 Z0x text (text.size - a) a∧a≤b∧b≤text.size∧e=.returned (.string (text.extract a b))∧ScanAt w w' sb text b:=Zci (.inl ⟨rfl,rfl⟩) h ha hm
theorem Zi4 (h:w.heap[sb]?=some (.cells #[.string text,.int .i64 a] 85 (0,0))) (ha:a≤text.size) (hm:text.size≤1000000) :
 Calls Tryz.prog 42 #[.pointer (some ⟨sb,0,none⟩),.func (.func 45) #[] #[]] w fun e w'=>∃ b,b=Z03 Z2r text (text.size - a) a∧a≤b∧b≤text.size∧e=.returned (.string (text.extract a b))∧ScanAt w w' sb text b:=Zci (.inr (.inl ⟨rfl,rfl⟩)) h ha hm
theorem Zfi (h:w.heap[sb]?=some (.cells #[.string text,.int .i64 a] 85 (0,0))) (ha:a≤text.size) (hm:text.size≤1000000) :
 Calls Tryz.prog 42 #[.pointer (some ⟨sb,0,none⟩),.func (.func 46) #[] #[]] w fun e w'=>∃ b,b=Z03 Z0q text (text.size - a) a∧a≤b∧b≤text.size∧e=.returned (.string (text.extract a b))∧ScanAt w w' sb text b:=Zci (.inr (.inr ⟨rfl,rfl⟩)) h ha hm
theorem Tryz.sizeBuilder:(Tryz.prog.info? 69).map (·.size)=some 2:=by kernel_rfl
theorem Tryz.liesBuilder:liesAt Tryz.prog Tryz.prog.depth 69 (2 / Tryz.prog.cellsOf 69) 0 69 1=true:=by kernel_rfl
theorem Z65 (w:World) (b:Nat) (h0:w.cell? ⟨b,0,none⟩=some (.pointer none)) (hsh:w.shape? b=some (69,2)) (hfz:w.frozen? ⟨b,0,none⟩=false) :
 Calls Tryz.prog 58 #[.pointer (some ⟨b,0,none⟩)] w fun e w'=>e=.returned (.tuple #[])∧w'=w.setCell ⟨b,0,none⟩ (.pointer (some ⟨b,0,none⟩)):=by
 obtain ⟨j,hj,hjs⟩:=Option.map_eq_some_iff.1 Tryz.sizeBuilder;go_enter Tryz.func58,Tryz.ntmps58
 go_wp2;rw [Lib.run_to_unsafe w ⟨b,0,none⟩ Tryz.underlying66 Tryz.underlying120 hj (by rw [hjs]; decide) hsh (Nat.zero_lt_succ 1)];simp only [Result.andThen];rw [Oper.upon_value];go_wp2;rw [run_callFunc_extern Tryz.func87 (by kernel_rfl) (by kernel_rfl) (by kernel_rfl) (e:=Extern.AbiNoEscape.same) (by kernel_rfl)];rw [Lib.run_noEscape];simp only [Result.andThen];rw [Oper.upon_value];go_wp2;rw [Lib.run_from_unsafe w ⟨b,0,none⟩ Tryz.underlying120 Tryz.underlying66 hj hsh Tryz.liesBuilder];simp only [Result.andThen];rw [Oper.upon_value];go_wp2;go_end0
 exact ⟨rfl,rfl⟩
theorem Z6p (w:World) (b:Nat) (h0:w.cell? ⟨b,0,none⟩=some (.pointer (some ⟨b,0,none⟩))) :
 Calls Tryz.prog 58 #[.pointer (some ⟨b,0,none⟩)] w fun e w'=>e=.returned (.tuple #[])∧w'=w:=by
 obtain ⟨j,hj,_⟩:=Option.map_eq_some_iff.1 Tryz.sizeBuilder;go_enter Tryz.func58,Tryz.ntmps58
 go_wp2;rw [Lib.run_neq_ptr_same w _ Tryz.underlying66 hj];go_wp2;go_end0
 exact ⟨rfl,rfl⟩
structure BAt (B:Nat) (w:World) (b:Nat) (p v:Value) (bs:List Value):Prop where
 blk:w.heap[b]?=some (.cells #[p,v] 69 (0,0))
 ptr:p=.pointer none∨p=.pointer (some ⟨b,0,none⟩)
 own:w.ownsRow B 5 1 v bs.length bs
 ne:v.ownBlock≠some b
 le:B≤b
theorem Tryz.infoU8:(Tryz.prog.info? 5).map (fun i=>(i.zero,i.size,i.bytes))=some (some (.int .u8 0),1,1):=by kernel_rfl
structure BFr (w w':World) (b:Nat) (v v':Value):Prop where
 os:w'.os=w.os
 tape:w'.tape=w.tape
 output:w'.output=w.output
 size:w.heap.size≤w'.heap.size
 block:∀ k,k < w.heap.size→k≠b→v.ownBlock≠some k→w'.heap[k]?=w.heap[k]?
 row:v'.ownBlock=v.ownBlock∨∃ g,v'.ownBlock=some g∧w.heap.size≤g
theorem Z9p (B:Nat) (w:World) (b:Nat) (v:Value) (bs:List Value) (c:Int) (h:BAt B w b (.pointer (some ⟨b,0,none⟩)) v bs) (hn:bs.length < 1099511627776) :
 Calls Tryz.prog 24 #[.pointer (some ⟨b,0,none⟩),.int .u8 c] w fun e w'=>e=.returned .nilIface∧∃ v',BAt B w' b (.pointer (some ⟨b,0,none⟩)) v' (bs ++ [.int .u8 c])∧BFr w w' b v v':=by
 obtain ⟨i0,hi,hz0,hz1,hz2⟩:=info_parts Tryz.infoU8;have hbl:b < w.heap.size:=(Array.getElem?_eq_some_iff.1 h.blk).1;have h0:w.cell? ⟨b,0,none⟩=some (.pointer (some ⟨b,0,none⟩)):=by simp [World.cell?,h.blk]
 have h1:w.cell? ⟨b,1,none⟩=some v:=by simp [World.cell?,h.blk]
 have hz:w.frozen? ⟨b,1,none⟩=false:=by simp [World.frozen?,h.blk]
 have HC:=Lib.hid (Z6p w b h0);have HO:=Lib.hid h.own;have HB:=Lib.hid h;have hne:=h.ne;have hBb:=h.le;have HNE:=Lib.hid hne;obtain ⟨n,hnn⟩:∃ n,n=bs.length:=⟨_,rfl⟩
 rw [← hnn] at HO hn;have HNN:=Lib.hid hnn;clear h hne hnn h0;have haft:∀ o (w1:World),(w.alloc o).grownBy w1 v.ownBlock→w1.cell? ⟨b,1,none⟩=some v∧w1.frozen? ⟨b,1,none⟩=false:=fun o w1 hg=>
  ⟨(hg.cell_far ⟨b,1,none⟩ (by simp; omega) (fun e=>HNE.out e.symm)).trans ((Z8 hbl).trans h1),(hg.frozen_far ⟨b,1,none⟩ (by simp; omega) (fun e=>HNE.out e.symm)).trans ((Z0m hbl).trans hz)⟩
 have HA:=Lib.hid haft;clear haft;go_enter Tryz.func24,Tryz.ntmps24
 go_wp2_with fail
 refine HC.out.mono ?_;rintro e w1 ⟨rfl,rfl⟩
 go_wp2_with (at_builtin; go_must (refine wpList_append_lies _ rfl (.tmp 11) (.tmp 13) 67 rfl B 5 i0 (.int .u8 0) 1 1 Tryz.underlying67 hi hz0 hz1 hz2 rfl (by decide) v n bs rfl (HO.out.alloc _) ⟨w1.heap.size,0,none⟩ 1 1 [.int .u8 c] rfl rfl (fun j u hu=>cell_one_new w1 _ _ j u hu) (by intro u hu; simp at hu; subst hu; rfl) (by first | omega | (simp; omega)) (by unfold maxLen; omega) (by first | omega | (simp; omega)) (by first | omega | (simp; omega)) (w1.heap.size + 1) (by simp) ?_); intro g cap w2 hown2 hgrow2 hat2 hgl2; obtain ⟨hc1,hf1⟩:=HA.out _ _ hgrow2; have HG:=Lib.hid hgrow2; have HW:=Lib.hid hown2; have HT:=Lib.hid hat2; clear hgrow2 hown2 hat2 hgl2)
 go_ret;refine ⟨rfl,.slice (some ⟨g,0,none⟩) (n + 1) cap,?_,?_⟩
 ·have hgb:g≠b:=by
   rcases HT.out with h | h;·exact fun e=>HNE.out (by rw [h,e])
   ·omega
  have hblk:w2.heap[b]?=some (.cells #[.pointer (some ⟨b,0,none⟩),v] 69 (0,0)):=(HG.out.block b (by simp; omega) (fun e=>HNE.out e.symm)).trans ((Below.heap_alloc _ _ _ hbl).trans HB.out.blk);refine ⟨Z07 _ hblk,.inr rfl,?_,by simp only [Value.ownBlock,ne_eq,Option.some.injEq]; exact hgb,hBb⟩;rw [List.length_append,← HNN.out];exact Zq HW.out fun g' hg'=>Below.heap_setCell _ _ _ _ (fun e=>hgb (by simp only [Value.ownBlock,Option.some.injEq] at hg'; rw [hg',e]))
 ·refine ⟨HG.out.os, HG.out.tape, HG.out.output, by rw [World.size_setCell]; have := HG.out.size; rw [World.size_alloc] at this; omega, fun k hk hkb hkv => ?_, ?_⟩;·exact (Below.heap_setCell _ _ _ _ hkb).trans ((HG.out.block k (by simp; omega) (fun e => hkv e.symm)).trans (Below.heap_alloc _ _ _ hk))
  ·rcases HT.out with h | h;·exact .inl h.symm
   ·exact .inr ⟨g,rfl,by omega⟩
theorem Z8l (B:Nat) (w:World) (b:Nat) (v:Value) (bs:List Value) (c:Int) (h':BAt B w b (.pointer none) v bs) (hn:bs.length < 1099511627776) :
 Calls Tryz.prog 24 #[.pointer (some ⟨b,0,none⟩),.int .u8 c] w fun e w'=>e=.returned .nilIface∧∃ v',BAt B w' b (.pointer (some ⟨b,0,none⟩)) v' (bs ++ [.int .u8 c])∧BFr w w' b v v':=by
 obtain ⟨i0,hi,hz0,hz1,hz2⟩:=info_parts Tryz.infoU8;have h0:w.cell? ⟨b,0,none⟩=some (.pointer none):=by simp [World.cell?,h'.blk]
 have hz0':w.frozen? ⟨b,0,none⟩=false:=by simp [World.frozen?,h'.blk]
 have HC:=Lib.hid (Z65 w b h0 (by simp [World.shape?,h'.blk]) hz0');have h:BAt B (w.setCell ⟨b,0,none⟩ (.pointer (some ⟨b,0,none⟩))) b (.pointer (some ⟨b,0,none⟩)) v bs:=
  ⟨Z07 _ h'.blk,.inr rfl,Zq h'.own fun g hg=>Below.heap_setCell _ _ _ _ (fun e=>h'.ne (by rw [hg]; exact congrArg some e)),h'.ne,h'.le⟩
 have HS:∀ k,k≠b→(w.setCell ⟨b,0,none⟩ (.pointer (some ⟨b,0,none⟩))).heap[k]?=w.heap[k]?:=fun k hk=>Below.heap_setCell _ _ _ _ hk;have HS:=Lib.hid HS;have hsz:(w.setCell ⟨b,0,none⟩ (.pointer (some ⟨b,0,none⟩))).heap.size=w.heap.size:=World.size_setCell ..;have HZ:=Lib.hid hsz;have hos:(w.setCell ⟨b,0,none⟩ (.pointer (some ⟨b,0,none⟩))).os=w.os∧(w.setCell ⟨b,0,none⟩ (.pointer (some ⟨b,0,none⟩))).tape=w.tape∧(w.setCell ⟨b,0,none⟩ (.pointer (some ⟨b,0,none⟩))).output=w.output:=⟨rfl,rfl,rfl⟩
 have HOS:=Lib.hid hos;clear h' h0 hz0' hsz hos;obtain ⟨w1,hw1⟩:∃ W,W=w.setCell ⟨b,0,none⟩ (.pointer (some ⟨b,0,none⟩)):=⟨_,rfl⟩
 rw [← hw1] at HC h HS HZ HOS;have hbl:b < w1.heap.size:=(Array.getElem?_eq_some_iff.1 h.blk).1;have h1:w1.cell? ⟨b,1,none⟩=some v:=by simp [World.cell?,h.blk]
 have hz:w1.frozen? ⟨b,1,none⟩=false:=by simp [World.frozen?,h.blk]
 have HO:=Lib.hid h.own;have HB:=Lib.hid h;have hne:=h.ne;have hBb:=h.le;have HNE:=Lib.hid hne;obtain ⟨n,hnn⟩:∃ n,n=bs.length:=⟨_,rfl⟩
 rw [← hnn] at HO hn;have HNN:=Lib.hid hnn;clear h hne hnn hw1;have haft:∀ o (w2:World),(w1.alloc o).grownBy w2 v.ownBlock→w2.cell? ⟨b,1,none⟩=some v∧w2.frozen? ⟨b,1,none⟩=false:=fun o w2 hg=>
  ⟨(hg.cell_far ⟨b,1,none⟩ (by simp; omega) (fun e=>HNE.out e.symm)).trans ((Z8 hbl).trans h1),(hg.frozen_far ⟨b,1,none⟩ (by simp; omega) (fun e=>HNE.out e.symm)).trans ((Z0m hbl).trans hz)⟩
 have HA:=Lib.hid haft;clear haft;go_enter Tryz.func24,Tryz.ntmps24
 go_wp2_with fail
 refine HC.out.mono ?_;rintro e w1' ⟨rfl,hw⟩;rw [hw];clear hw w1'
 go_wp2_with (at_builtin; go_must (refine wpList_append_lies _ rfl (.tmp 11) (.tmp 13) 67 rfl B 5 i0 (.int .u8 0) 1 1 Tryz.underlying67 hi hz0 hz1 hz2 rfl (by decide) v n bs rfl (HO.out.alloc _) ⟨w1.heap.size,0,none⟩ 1 1 [.int .u8 c] rfl rfl (fun j u hu=>cell_one_new w1 _ _ j u hu) (by intro u hu; simp at hu; subst hu; rfl) (by first | omega | (simp; omega)) (by unfold maxLen; omega) (by first | omega | (simp; omega)) (by first | omega | (simp; omega)) (w1.heap.size + 1) (by simp) ?_); intro g cap w2 hown2 hgrow2 hat2 hgl2; obtain ⟨hc1,hf1⟩:=HA.out _ _ hgrow2; have HG:=Lib.hid hgrow2; have HW:=Lib.hid hown2; have HT:=Lib.hid hat2; clear hgrow2 hown2 hat2 hgl2)
 go_ret;refine ⟨rfl,.slice (some ⟨g,0,none⟩) (n + 1) cap,?_,?_⟩
 ·have hgb:g≠b:=by
   rcases HT.out with h | h;·exact fun e=>HNE.out (by rw [h,e])
   ·omega
  have hblk:w2.heap[b]?=some (.cells #[.pointer (some ⟨b,0,none⟩),v] 69 (0,0)):=(HG.out.block b (by simp; omega) (fun e=>HNE.out e.symm)).trans ((Below.heap_alloc _ _ _ hbl).trans HB.out.blk);refine ⟨Z07 _ hblk,.inr rfl,?_,by simp only [Value.ownBlock,ne_eq,Option.some.injEq]; exact hgb,hBb⟩;rw [List.length_append,← HNN.out];exact Zq HW.out fun g' hg'=>Below.heap_setCell _ _ _ _ (fun e=>hgb (by simp only [Value.ownBlock,Option.some.injEq] at hg'; rw [hg',e]))
 ·refine ⟨HG.out.os.trans HOS.out.1, HG.out.tape.trans HOS.out.2.1, HG.out.output.trans HOS.out.2.2, by rw [World.size_setCell]; have := HG.out.size; rw [World.size_alloc, HZ.out] at this; omega, fun k hk hkb hkv => ?_, ?_⟩;·exact (Below.heap_setCell _ _ _ _ hkb).trans ((HG.out.block k (by simp; have := HZ.out; omega) (fun e => hkv e.symm)).trans ((Below.heap_alloc _ _ _ (by have := HZ.out; omega)).trans (HS.out k hkb)))
  ·rcases HT.out with h | h;·exact .inl h.symm
   ·exact .inr ⟨g,rfl,by have:=HZ.out; omega⟩
end Go.Proofs.YtmeiggjboakmpaaGreatDoor
namespace Go.Proofs
open Go.Shelf
set_option maxRecDepth 100000
set_option maxHeartbeats 20000000
def Tryz.lays170_ren:Go.Shelf.Ren:=⟨fun | 170=>70 | n=>n,fun | 70=>66 | 3=>3 | 0=>0 | 72=>69 | 37=>67 | 5=>5 | n=>n,fun | n=>n⟩
theorem Tryz.lays170:Go.Proofs.Lays.n170 Tryz.prog Tryz.lays170_ren:={
 mixed:=by kernel_rfl
 f170:=Tryz.func70.trans (congrArg some (by kernel_rfl))
 t0:=Tryz.underlying0
 a0:=Tryz.isAgg0
 z0:=Tryz.sizeOf0
 v0:=Tryz.zeroValue0
 t3:=Tryz.underlying3
 a3:=Tryz.isAgg3
 z3:=Tryz.sizeOf3
 v3:=Tryz.zeroValue3
 t37:=Tryz.underlying67
 a37:=Tryz.isAgg67
 z37:=Tryz.sizeOf67
 v37:=Tryz.zeroValue67
 t70:=Tryz.underlying66
 a70:=Tryz.isAgg66
 z70:=Tryz.sizeOf66
 v70:=Tryz.zeroValue66
 t72:=Tryz.underlying69
 a72:=Tryz.isAgg69
 z72:=Tryz.sizeOf69
 v72:=Tryz.zeroValue69 }
open Go.RowKit in
theorem Tryz.Builder_Len (B b:Nat) (bs:List Value) (w:World) (h:Lib.IsBuilder 69 5 B b bs w) :
 Calls Tryz.prog 70 #[.pointer (some ⟨b,0,none⟩)] w fun e w'=>e=.returned (.int .i64 bs.length)∧w'=w:=Any.Builder_Len Tryz.lays170 B b bs w h
def Tryz.lays169_ren:Go.Shelf.Ren:=⟨fun | 169=>25 | n=>n,fun | 70=>66 | 9=>9 | 0=>0 | 72=>69 | 37=>67 | 127=>103 | 3=>3 | 5=>5 | n=>n,fun | n=>n⟩
theorem Tryz.lays169:Go.Proofs.Lays.n169 Tryz.prog Tryz.lays169_ren:={
 mixed:=by kernel_rfl
 f169:=Tryz.func25.trans (congrArg some (by kernel_rfl))
 t0:=Tryz.underlying0
 a0:=Tryz.isAgg0
 z0:=Tryz.sizeOf0
 v0:=Tryz.zeroValue0
 t3:=Tryz.underlying3
 a3:=Tryz.isAgg3
 z3:=Tryz.sizeOf3
 v3:=Tryz.zeroValue3
 t9:=Tryz.underlying9
 a9:=Tryz.isAgg9
 z9:=Tryz.sizeOf9
 v9:=Tryz.zeroValue9
 t37:=Tryz.underlying67
 a37:=Tryz.isAgg67
 z37:=Tryz.sizeOf67
 v37:=Tryz.zeroValue67
 t70:=Tryz.underlying66
 a70:=Tryz.isAgg66
 z70:=Tryz.sizeOf66
 v70:=Tryz.zeroValue66
 t72:=Tryz.underlying69
 a72:=Tryz.isAgg69
 z72:=Tryz.sizeOf69
 v72:=Tryz.zeroValue69
 t127:=Tryz.underlying103
 a127:=Tryz.isAgg103
 z127:=Tryz.sizeOf103
 v127:=Tryz.zeroValue103 }
theorem Tryz.Builder_Extra_169:Builder.Extra Tryz.prog Tryz.lays169_ren:={
 sizeBuilder:=by kernel_rfl
 liesBuilder:=by kernel_rfl
 t5:=Tryz.underlying5
 a5:=Tryz.isAgg5
 z5:=Tryz.sizeOf5
 v5:=Tryz.zeroValue5
 infoByte:=by kernel_rfl
 cellsByte:=by kernel_rfl
 sizeByte:=by kernel_rfl
 neB5:=by decide }
open Go.RowKit in
theorem Tryz.Builder_String_any (B b:Nat) (l:List UInt8) (w:World) (h:Lib.IsBuilder 69 5 B b (Lib.byteCells l) w) (hBw:B≤w.heap.size) :
 Calls Tryz.prog 25 #[.pointer (some ⟨b,0,none⟩)] w fun e w'=>e=.returned (.string ⟨l.toArray⟩)∧Below B w w':=Any.Builder_String_any Tryz.lays169 Tryz.Builder_Extra_169 B b l w h hBw
end Go.Proofs
namespace Go.Proofs.YtmeiggjboakmpaaGreatDoor
open Go Go.RowKit
set_option maxRecDepth 100000
set_option maxHeartbeats 20000000
theorem BAt.is {B:Nat} {w:World} {b:Nat} {p v:Value} {bs:List Value} (h:BAt B w b p v bs):Lib.IsBuilder 69 5 B b bs w:=by
 obtain ⟨hb,hp,ho,hn,hl⟩:=h;rcases hp with rfl | rfl;·exact .inl ⟨hl,v,hb,ho,hn⟩
 ·exact .inr ⟨hl,v,hb,ho,hn⟩
theorem Zkz {B:Nat} {w:World} {b:Nat} {p v:Value} {bs:List Value} (h:BAt B w b p v bs) :
 Calls Tryz.prog 70 #[.pointer (some ⟨b,0,none⟩)] w fun e w'=>e=.returned (.int .i64 bs.length)∧w'=w:=Tryz.Builder_Len B b bs w h.is
theorem Zf9 {B:Nat} {w:World} {b:Nat} {p v:Value} (l:List UInt8) (h:BAt B w b p v (Lib.byteCells l)) (hB:B≤w.heap.size) :
 Calls Tryz.prog 25 #[.pointer (some ⟨b,0,none⟩)] w fun e w'=>e=.returned (.string ⟨l.toArray⟩)∧Below B w w':=Tryz.Builder_String_any B b l w h.is hB
def Z64 (c:Int):Option UInt8:=if c=110 then some 10 else if c=39 then some 39 else if c=92 then some 92 else none
def Z0o (text:ByteArray):Nat→Nat→List UInt8→List UInt8×Int×Nat
 | 0,i,_=>([],3,i)
 | f + 1, i, acc =>
   if text.size≤i∨Zc text i=10 then ([],3,i)
   else if Zc text i=39 then (if 500 < acc.length then ([],4,i + 1) else (acc,0,i + 1))
   else if Zc text i=92 then
    (if i + 1 < text.size then
     match Z64 (Zc text (i + 1)) with
     | some e=>Z0o text f (i + 2) (acc ++ [e])
     | none=>([],3,i + 1)
    else ([],3,i + 1))
   else Z0o text f (i + 1) (acc ++ [text.data.getD i 0])
def Z0z (text:ByteArray) (i:Nat):List UInt8×Int×Nat:=Z0o text (text.size + 1 - i) i []
end Go.Proofs.YtmeiggjboakmpaaGreatDoor
namespace Go.Proofs
set_option maxRecDepth 100000
set_option maxHeartbeats 20000000
def Tryz.lays110_ren:Go.Shelf.Ren:=⟨fun | 110=>69 | 109=>98 | n=>n,fun | 31=>76 | 9=>9 | 4=>4 | 3=>3 | 0=>0 | n=>n,fun | n=>n⟩
theorem Tryz.lays110:Go.Proofs.Lays.n110 Tryz.prog Tryz.lays110_ren:={
 mixed:=by kernel_rfl
 f109:=Tryz.func98.trans (congrArg some (by kernel_rfl))
 f110:=Tryz.func69.trans (congrArg some (by kernel_rfl))
 t0:=Tryz.underlying0
 a0:=Tryz.isAgg0
 z0:=Tryz.sizeOf0
 v0:=Tryz.zeroValue0
 t3:=Tryz.underlying3
 a3:=Tryz.isAgg3
 z3:=Tryz.sizeOf3
 v3:=Tryz.zeroValue3
 t4:=Tryz.underlying4
 a4:=Tryz.isAgg4
 z4:=Tryz.sizeOf4
 v4:=Tryz.zeroValue4
 t9:=Tryz.underlying9
 a9:=Tryz.isAgg9
 z9:=Tryz.sizeOf9
 v9:=Tryz.zeroValue9
 t31:=Tryz.underlying76
 a31:=Tryz.isAgg76
 z31:=Tryz.sizeOf76
 v31:=Tryz.zeroValue76 }
open Go.Lib in
theorem Tryz.slices_Contains_string (b off n c:Nat) (zs:List ByteArray) (x:ByteArray) (w:World) (hz:n≤zs.length) (hbig:n≤9223372036854775807) (hc:∀ j,j < zs.length→w.cell? ⟨b,off + j,none⟩=some (.string (zs.getD j ByteArray.empty))) :
 Calls Tryz.prog 69 #[.slice (some ⟨b,off,none⟩) n c,.string x] w fun e w'=>e=.returned (.bool (Lib.containsS (zs.take n) x))∧w'=w:=Any.slices_Contains_string Tryz.lays110 b off n c zs x w hz hbig hc
end Go.Proofs
namespace Go.Proofs.YtmeiggjboakmpaaGreatDoor
open Go Go.RowKit
set_option maxRecDepth 100000
set_option maxHeartbeats 20000000
def Z55:List ByteArray:=match (Rows.laid_sloppyscope_lex_wordList:DataW Unit) with
 | .agg l => l.map fun
   | .lit (.string bs)=>⟨bs.toArray⟩
   | _=>⟨#[]⟩
 | _=>[]
theorem Z6j:Z55.length=19:=by kernel_rfl
def Z2z (s:ByteArray):Bool:=Lib.containsS Z55 s
def Words (w:World):Prop:=∀ j,j < 19→w.cell? ⟨3,j,none⟩=some (.string (Z55.getD j ByteArray.empty))
theorem Zej (w:World) (s:ByteArray) (hW:Words w) :
 Calls Tryz.prog 47 #[.string s] w fun e w'=>e=.returned (.bool (Z2z s))∧w'=w:=by
 have HC:=Tryz.slices_Contains_string 3 0 19 19 Z55 s w (by rw [Z6j]; omega) (by omega) (fun j hj=>by rw [Nat.zero_add]; exact hW j (by rw [Z6j] at hj; exact hj));rw [show Z55.take 19=Z55 by rw [← Z6j]; exact List.take_length] at HC;have HC:=Lib.hid HC;clear hW;unfold Z2z;generalize Lib.containsS Z55 s=B at HC ⊢;go_enter Tryz.func47,Tryz.ntmps47
 go_wp2_with fail
 refine HC.out.mono ?_;rintro e w1 ⟨rfl,rfl⟩;go_wp2;go_ret;exact ⟨rfl,rfl⟩
structure Tok where
 kind:Int
 text:ByteArray
 n:Int
 at':Nat
def numF (text:ByteArray) (k:Nat):Nat→Nat→Int→Int
 | 0,_,n=>n
 | f + 1,i,n=>if i < k then numF text k f (i + 1) (10 * n + (Zc text i - 48)) else n
def Z0a (text:ByteArray) (j:Nat):Nat:=
 if Zc text j=61∧Zc text (j + 1)=61∧Zc text (j + 2)=61 then 3
 else if Zc text j=38∧Zc text (j + 1)=38 then 2
 else if Zc text j=124∧Zc text (j + 1)=124 then 2
 else 1
def Z5f (c:Int):Bool:=c == 40 || c == 41 || c == 123 || c == 125 || c == 91 || c == 93 || c == 59 || c == 58 || c == 44 || c == 46 || c == 61 || c == 43 || c == 45 || c == 42 || c == 60 || c == 33
def Z1f (text:ByteArray) (j:Nat):Except (Int×Nat) (Tok×Nat):=
 if Z13 (Zc text j) then
  let k:=Z03 Z2r text (text.size - j) j
  if Z2z (text.extract j k) then .ok (⟨2,text.extract j k,0,j⟩,k)
  else if 20 < k - j then .error (4,j)
  else .ok (⟨1,text.extract j k,0,j⟩,k)
 else if Z0q (Zc text j) then
  let k:=Z03 Z0q text (text.size - j) j
  if 10 < k - j∨(1 < k - j∧Zc text j=48) then .error (3,j)
  else if 1000000000 < numF text k (k - j) j 0 then .error (2,j)
  else .ok (⟨3,ByteArray.empty,numF text k (k - j) j 0,j⟩,k)
 else if Zc text j=39 then
  if (Z0z text (j + 1)).2.1=4 then .error (4,j)
  else if (Z0z text (j + 1)).2.1≠0 then .error (3,(Z0z text (j + 1)).2.2)
  else .ok (⟨4,⟨(Z0z text (j + 1)).1.toArray⟩,0,j⟩,(Z0z text (j + 1)).2.2)
 else if Z0a text j=1∧Z5f (Zc text j)=false then .error (3,j)
 else .ok (⟨5,text.extract j (j + Z0a text j),0,j⟩,j + Z0a text j)
def lexF (text:ByteArray):Nat→Nat→List Tok→Except (Int×Nat) (List Tok)
 | 0,_,acc=>.ok acc
 | f + 1, i, acc =>
   let j:=Z03 Z0x text (text.size - i) i
   if text.size≤j then .ok (acc ++ [⟨6,ByteArray.empty,0,j⟩])
   else match Z1f text j with
    | .error e=>.error e
    | .ok (t,k)=>lexF text f k (acc ++ [t])
def Z6h (text:ByteArray):Except (Int×Nat) (List Tok):=lexF text (text.size + 1) 0 []
theorem Z4n {text:ByteArray} {i:Nat} (h:text.size≤i):Zc text i=0:=by
 have h':¬ i < text.data.size:=by change ¬ i < text.size; omega
 unfold Zc Array.getD;rw [dif_neg h'];rfl
theorem Z4q {text:ByteArray} {i:Nat} (h:Zc text i≠0):i < text.size:=by
 rcases Nat.lt_or_ge i text.size with h' | h';·exact h'
 ·exact absurd (Z4n h') h
theorem getD_extract (text:ByteArray) {j k i:Nat} (h:i < k - j) (hk:k≤text.size):(text.extract j k).data.getD i 0=text.data.getD (j + i) 0:=by
 have h2:j + i < text.data.size:=by change _ < text.size; omega
 have h1:i < (text.extract j k).data.size:=by
  change i < (text.extract j k).size;rw [ByteArray.size_extract]; omega
 simp only [Array.getD,dif_pos h1,dif_pos h2];simp [ByteArray.data_extract]
theorem Z05 (text:ByteArray) {j k i:Nat} (h:i < k - j) (hk:k≤text.size):Zc (text.extract j k) i=Zc text (j + i):=by
 unfold Zc; rw [getD_extract text h hk]
theorem Z3n (text:ByteArray) {j k:Nat} (hk:k≤text.size):(text.extract j k).size=k - j:=by
 rw [ByteArray.size_extract]; omega
theorem Z12 (p:Int→Bool) (text:ByteArray):∀ (f i:Nat),text.size - i≤f→i≤text.size →
 i≤Z03 p text f i∧Z03 p text f i≤text.size∧(∀ m,i≤m→m < Z03 p text f i→p (Zc text m)=true)∧(Z03 p text f i < text.size→p (Zc text (Z03 p text f i))=false):=by
 intro f;induction f with
 | zero=>intro i h hi; simp only [Z03]; exact ⟨Nat.le_refl _,hi,fun m h1 h2=>by omega,fun h'=>by omega⟩
 | succ f ih =>
   intro i h hi;simp only [Z03];by_cases hc:i < text.size∧p (Zc text i)=true
   ·rw [if_pos (by simp [hc.1, hc.2])];obtain ⟨h1, h2, h3, h4⟩ := ih (i + 1) (by omega) (by omega);refine ⟨by omega, h2, fun m hm hm2 => ?_, h4⟩;by_cases e : m = i;·rw [e]; exact hc.2
    ·exact h3 m (by omega) hm2
   ·rw [if_neg (by simpa using hc)];refine ⟨Nat.le_refl _,hi,fun m h1 h2=>by omega,fun h'=>?_⟩;simpa [h'] using hc
theorem Z3h (p:Int→Bool) (text:ByteArray):∀ (f i k:Nat),text.size - i≤f→i≤k→k≤text.size→(∀ m,i≤m→m < k→p (Zc text m)=true)→(k < text.size→p (Zc text k)=false)→Z03 p text f i=k:=by
 intro f;induction f with
 | zero=>intro i k h h1 h2 _ _; simp only [Z03]; omega
 | succ f ih =>
   intro i k h h1 h2 h3 h4;simp only [Z03];by_cases e:i=k
   ·subst e;rw [if_neg];simp only [Bool.and_eq_true,decide_eq_true_eq,not_and,Bool.not_eq_true];exact h4
   ·rw [if_pos (by simp [h3 i (Nat.le_refl _) (by omega)]; omega)];exact ih (i + 1) k (by omega) (by omega) h2 (fun m a b=>h3 m (by omega) b) h4
theorem Z9g (p:Int→Bool) (text:ByteArray) {j k:Nat} (hj:j < text.size) (hk:Z03 p text (text.size - j) j=k) :
 Z03 p (text.extract j k) ((text.extract j k).size - 0) 0=k - j:=by
 obtain ⟨h1,h2,h3,h4⟩:=Z12 p text (text.size - j) j (Nat.le_refl _) (by omega);rw [hk] at h1 h2 h3 h4;have hs:=Z3n text (j:=j) h2;refine Z3h p _ _ _ _ (by omega) (by omega) (by omega) (fun m _ hm=>?_) (fun h=>by omega);rw [Z05 text hm h2];exact h3 _ (by omega) (by omega)
theorem Ziy (text:ByteArray) {j k:Nat} (hk:k≤text.size):∀ (f i:Nat) (n:Int),j≤i→numF (text.extract j k) (k - j) f (i - j) n=numF text k f i n:=by
 intro f;induction f with
 | zero=>intro i n _; rfl
 | succ f ih =>
   intro i n hi;simp only [numF];by_cases h:i < k
   ·rw [if_pos (by omega),if_pos h,Z05 text (by omega) hk,show j + (i - j)=i by omega,show i - j + 1=i + 1 - j by omega];exact ih (i + 1) _ (by omega)
   ·rw [if_neg (by omega),if_neg h]
theorem Zcq (text:ByteArray) {j:Nat}:∀ (f i:Nat) (acc bs:List UInt8) (k:Nat),j≤i→Z0o text f i acc=(bs,0,k) →
 i < k∧k≤text.size∧Zc text (k - 1)=39∧∀ f',k - i≤f'→Z0o (text.extract j k) f' (i - j) acc=(bs,0,k - j):=by
 intro f;induction f with
 | zero=>intro i acc bs k _ h; simp [Z0o] at h
 | succ f ih =>
   intro i acc bs k hj h;simp only [Z0o] at h;by_cases h1:text.size≤i∨Zc text i=10;·rw [if_pos h1] at h; simp at h
   rw [if_neg h1] at h;simp only [not_or,Nat.not_le] at h1;by_cases h2:Zc text i=39
   ·rw [if_pos h2] at h;by_cases h3 : 500 < acc.length;·rw [if_pos h3] at h; simp at h
    rw [if_neg h3] at h;simp only [Prod.mk.injEq,true_and] at h;obtain ⟨rfl,rfl⟩:=h;refine ⟨by omega,by omega,by simpa using h2,fun f' hf=>?_⟩;obtain ⟨g,rfl⟩:∃ g,f'=g + 1:=⟨f' - 1,by omega⟩
    have hb:Zc (text.extract j (i + 1)) (i - j)=Zc text i:=by
     rw [Z05 text (by omega) (by omega),show j + (i - j)=i by omega]
    have hs:=Z3n text (j:=j) (k:=i + 1) (by omega);simp only [Z0o,hb,hs];rw [if_neg (by omega),if_pos h2,if_neg h3,show i - j + 1=i + 1 - j by omega]
   rw [if_neg h2] at h;by_cases h3:Zc text i=92
   ·rw [if_pos h3] at h;by_cases h4 : i + 1 < text.size
    ·rw [if_pos h4] at h;cases he : Z64 (Zc text (i + 1)) with
     | none=>rw [he] at h; simp at h
     | some e =>
       rw [he] at h;simp only at h;obtain ⟨g1,g2,g3,g4⟩:=ih (i + 2) _ bs k (by omega) h;refine ⟨by omega,g2,g3,fun f' hf=>?_⟩;obtain ⟨g,rfl⟩:∃ g,f'=g + 1:=⟨f' - 1,by omega⟩
       have hb:Zc (text.extract j k) (i - j)=Zc text i:=by
        rw [Z05 text (by omega) (by omega),show j + (i - j)=i by omega]
       have hb1:Zc (text.extract j k) (i - j + 1)=Zc text (i + 1):=by
        rw [Z05 text (by omega) (by omega),show j + (i - j + 1)=i + 1 by omega]
       have hs:=Z3n text (j:=j) (k:=k) g2;simp only [Z0o,hb,hs,hb1];rw [if_neg (by omega),if_neg h2,if_pos h3,if_pos (by omega),he];simp only;rw [show i - j + 2=i + 2 - j by omega];exact g4 g (by omega)
    ·rw [if_neg h4] at h; simp at h
   ·rw [if_neg h3] at h;obtain ⟨g1, g2, g3, g4⟩ := ih (i + 1) _ bs k (by omega) h;refine ⟨by omega, g2, g3, fun f' hf => ?_⟩;obtain ⟨g, rfl⟩ : ∃ g, f' = g + 1 := ⟨f' - 1, by omega⟩
    have hb:Zc (text.extract j k) (i - j)=Zc text i:=by
     rw [Z05 text (by omega) (by omega),show j + (i - j)=i by omega]
    have hd:(text.extract j k).data.getD (i - j) 0=text.data.getD i 0:=by
     rw [getD_extract text (by omega) (by omega),show j + (i - j)=i by omega]
    have hs:=Z3n text (j:=j) (k:=k) g2;simp only [Z0o,hb,hs,hd];rw [if_neg (by omega),if_neg h2,if_neg h3,show i - j + 1=i + 1 - j by omega];exact g4 g (by omega)
theorem Z2g {c:Int} (h:Z2r c=true):Z0x c=false:=by
 unfold Z2r Z13 Z0q at h;unfold Z0x;simp only [Bool.or_eq_true,Bool.and_eq_true,decide_eq_true_eq] at h;simp only [Bool.or_eq_false_iff,decide_eq_false_iff_not];omega
theorem Z2w {c:Int} (h:Z13 c=true):Z2r c=true:=by simp [Z2r,h]
theorem Z7y {c:Int} (h:Z0q c=true):Z2r c=true:=by simp [Z2r,h]
theorem Zim {c:Int} (h:Z5f c=true):c≠0∧Z0x c=false:=by
 simp only [Z5f,Bool.or_eq_true,beq_iff_eq] at h;simp only [Z0x,Bool.or_eq_false_iff,decide_eq_false_iff_not];omega
theorem extract_all (b:ByteArray) (n:Nat) (h:n=b.size):b.extract 0 n=b:=by subst h; simp
theorem Zcf (text:ByteArray) (j:Nat) (h:Z0a text j=1→Z5f (Zc text j)=true) :
 1 ≤ Z0a text j ∧ j + Z0a text j ≤ text.size ∧ (∀ m, j ≤ m → m < j + Z0a text j → Z0x (Zc text m) = false) ∧ Z0a (text.extract j (j + Z0a text j)) 0 = Z0a text j ∧
   (Z0a text j=1→Zc (text.extract j (j + Z0a text j)) 0=Zc text j)∧Zc (text.extract j (j + Z0a text j)) 0=Zc text j:=by
 by_cases h3:Zc text j=61∧Zc text (j + 1)=61∧Zc text (j + 2)=61
 ·have e : Z0a text j = 3 := by simp [Z0a, h3]
  rw [e];have hl:=Z4q (text:=text) (i:=j + 2) (by omega);have b0:=Z05 text (j:=j) (k:=j + 3) (i:=0) (by omega) (by omega);have b1:=Z05 text (j:=j) (k:=j + 3) (i:=1) (by omega) (by omega);have b2:=Z05 text (j:=j) (k:=j + 3) (i:=2) (by omega) (by omega);refine ⟨by omega,by omega,fun m h1 h2=>?_,?_,fun _=>by rw [b0,Nat.add_zero],by rw [b0,Nat.add_zero]⟩
  ·have : m = j ∨ m = j + 1 ∨ m = j + 2 := by omega
   rcases this with rfl | rfl | rfl <;> simp [Z0x,h3]
  ·unfold Z0a; rw [show 0 + 1=1 by rfl,show 0 + 2=2 by rfl,b0,b1,b2,Nat.add_zero,if_pos h3]
 ·by_cases h2 : Zc text j = 38 ∧ Zc text (j + 1) = 38
  ·have e : Z0a text j = 2 := by simp [Z0a, h2]
   rw [e];have hl:=Z4q (text:=text) (i:=j + 1) (by omega);have b0:=Z05 text (j:=j) (k:=j + 2) (i:=0) (by omega) (by omega);have b1:=Z05 text (j:=j) (k:=j + 2) (i:=1) (by omega) (by omega);refine ⟨by omega,by omega,fun m h1 h2'=>?_,?_,fun _=>by rw [b0,Nat.add_zero],by rw [b0,Nat.add_zero]⟩
   ·have : m = j ∨ m = j + 1 := by omega
    rcases this with rfl | rfl <;> simp [Z0x,h2]
   ·unfold Z0a; rw [show 0 + 1=1 by rfl,show 0 + 2=2 by rfl,b0,b1,Nat.add_zero,if_neg (by omega),if_pos h2]
  ·by_cases h1 : Zc text j = 124 ∧ Zc text (j + 1) = 124
   ·have e : Z0a text j = 2 := by simp [Z0a, h1]
    rw [e];have hl:=Z4q (text:=text) (i:=j + 1) (by omega);have b0:=Z05 text (j:=j) (k:=j + 2) (i:=0) (by omega) (by omega);have b1:=Z05 text (j:=j) (k:=j + 2) (i:=1) (by omega) (by omega);refine ⟨by omega,by omega,fun m h1' h2'=>?_,?_,fun _=>by rw [b0,Nat.add_zero],by rw [b0,Nat.add_zero]⟩
    ·have : m = j ∨ m = j + 1 := by omega
     rcases this with rfl | rfl <;> simp [Z0x,h1]
    ·unfold Z0a; rw [show 0 + 1=1 by rfl,show 0 + 2=2 by rfl,b0,b1,Nat.add_zero,if_neg (by omega),if_neg (by omega),if_pos h1]
   ·have e : Z0a text j = 1 := by simp [Z0a, h3, h2, h1]
    have hs:=h e;rw [e];have hp:=Zim hs;have hl:=Z4q hp.1;have b0:=Z05 text (j:=j) (k:=j + 1) (i:=0) (by omega) (by omega);have b1:=Z4n (text:=text.extract j (j + 1)) (i:=1) (by rw [Z3n text (by omega)]; omega);refine ⟨by omega,by omega,fun m h1' h2'=>?_,?_,fun _=>by rw [b0,Nat.add_zero],by rw [b0,Nat.add_zero]⟩
    ·obtain rfl : m = j := by omega
     exact hp.2
    ·unfold Z0a; rw [show 0 + 1=1 by rfl,show 0 + 2=2 by rfl,b1,if_neg (by omega),if_neg (by omega),if_neg (by omega)]
theorem Z2k (text:ByteArray) {j k:Nat} {t:Tok} (hj:j < text.size) (h:Z1f text j=.ok (t,k)) :
 j < k ∧ k ≤ text.size ∧ t.at' = j ∧ t.kind ≠ 6 ∧ Z0x (Zc text j) = false ∧ Z0x (Zc text (k - 1)) = false ∧
   Z1f (text.extract j k) 0=.ok ({ t with at':=0 },k - j):=by
 unfold Z1f at h;by_cases hl:Z13 (Zc text j)=true
 ·rw [if_pos hl] at h;simp only at h;obtain ⟨K, hK⟩ : ∃ K, Z03 Z2r text (text.size - j) j = K := ⟨_, rfl⟩
  rw [hK] at h;obtain ⟨s1,s2,s3,s4⟩:=Z12 Z2r text (text.size - j) j (Nat.le_refl _) (by omega);have hcut:=Z9g Z2r text hj hK;rw [hK] at s1 s2 s3 s4;have hjK:j < K:=by
   rcases Nat.lt_or_ge j K with h' | h';·exact h'
   ·have:=s4 (by omega);rw [show K=j by omega,Z2w hl] at this;cases this
  have hb0:Zc (text.extract j K) 0=Zc text j:=by rw [Z05 text (by omega) s2,Nat.add_zero]
  have hbl:=Z2g (s3 (K - 1) (by omega) (by omega));have hall:(text.extract j K).extract 0 (K - j)=text.extract j K:=extract_all _ _ (Z3n text s2).symm;by_cases hw:Z2z (text.extract j K)=true
  ·rw [if_pos hw] at h;simp only [Except.ok.injEq,Prod.mk.injEq] at h;obtain ⟨rfl,rfl⟩:=h;refine ⟨hjK,s2,rfl,by simp,Z2g (Z2w hl),hbl,?_⟩;unfold Z1f;rw [hb0,if_pos hl];simp only [hcut,hall];rw [if_pos hw]
  ·rw [if_neg hw] at h;by_cases h20 : 20 < K - j;·rw [if_pos h20] at h; cases h
   ·rw [if_neg h20] at h;simp only [Except.ok.injEq,Prod.mk.injEq] at h;obtain ⟨rfl,rfl⟩:=h;refine ⟨hjK,s2,rfl,by simp,Z2g (Z2w hl),hbl,?_⟩;unfold Z1f;rw [hb0,if_pos hl];simp only [hcut,hall];rw [if_neg hw,if_neg (by omega)]
 rw [if_neg hl] at h;by_cases hd:Z0q (Zc text j)=true
 ·rw [if_pos hd] at h;simp only at h;obtain ⟨K, hK⟩ : ∃ K, Z03 Z0q text (text.size - j) j = K := ⟨_, rfl⟩
  rw [hK] at h;obtain ⟨s1,s2,s3,s4⟩:=Z12 Z0q text (text.size - j) j (Nat.le_refl _) (by omega);have hcut:=Z9g Z0q text hj hK;rw [hK] at s1 s2 s3 s4;have hjK:j < K:=by
   rcases Nat.lt_or_ge j K with h' | h';·exact h'
   ·have:=s4 (by omega);rw [show K=j by omega,hd] at this;cases this
  have hb0:Zc (text.extract j K) 0=Zc text j:=by rw [Z05 text (by omega) s2,Nat.add_zero]
  have hbl:=Z2g (Z7y (s3 (K - 1) (by omega) (by omega)));have hnum:=Ziy text (j:=j) s2 (K - j) j 0 (Nat.le_refl _);rw [Nat.sub_self] at hnum;by_cases h1:10 < K - j∨(1 < K - j∧Zc text j=48);·rw [if_pos h1] at h; cases h
  rw [if_neg h1] at h;by_cases h2:1000000000 < numF text K (K - j) j 0;·rw [if_pos h2] at h; cases h
  rw [if_neg h2] at h;simp only [Except.ok.injEq,Prod.mk.injEq] at h;obtain ⟨rfl,rfl⟩:=h;refine ⟨hjK,s2,rfl,by simp,Z2g (Z7y hd),hbl,?_⟩;unfold Z1f;rw [hb0,if_neg hl,if_pos hd];simp only [hcut];simp only [Nat.sub_zero,hnum];rw [if_neg h1,if_neg h2]
 rw [if_neg hd] at h;by_cases hq:Zc text j=39
 ·rw [if_pos hq] at h;obtain ⟨⟨bs, e, K⟩, hR⟩ : ∃ R, R = Z0z text (j + 1) := ⟨_, rfl⟩
  rw [← hR] at h;simp only at h;by_cases h4:e=4;·rw [if_pos h4] at h; cases h
  rw [if_neg h4] at h;by_cases h0:e≠0;·rw [if_pos h0] at h; cases h
  rw [if_neg h0] at h;simp only [ne_eq,Decidable.not_not] at h0;subst h0;simp only [Except.ok.injEq,Prod.mk.injEq] at h;obtain ⟨rfl,rfl⟩:=h;obtain ⟨g1,g2,g3,g4⟩:=Zcq text (j:=j) _ _ _ _ _ (by omega) hR.symm;refine ⟨by omega,g2,rfl,by simp,by rw [hq]; rfl,by rw [g3]; rfl,?_⟩;have hb0:Zc (text.extract j K) 0=Zc text j:=by rw [Z05 text (by omega) g2,Nat.add_zero]
  have hqa:Z0z (text.extract j K) (0 + 1)=(bs,0,K - j):=by
   have:=g4 ((text.extract j K).size + 1 - (0 + 1)) (by rw [Z3n text g2]; omega);rw [show j + 1 - j=0 + 1 by omega] at this;exact this
  unfold Z1f;rw [hb0,if_neg hl,if_neg hd,if_pos hq,hqa];simp
 rw [if_neg hq] at h;by_cases hs:Z0a text j=1∧Z5f (Zc text j)=false;·rw [if_pos hs] at h; cases h
 rw [if_neg hs] at h;simp only [Except.ok.injEq,Prod.mk.injEq] at h;obtain ⟨rfl,rfl⟩:=h;obtain ⟨g1,g2,g3,g4,g5,g6⟩:=Zcf text j (fun e=>by
  cases hb:Z5f (Zc text j) with
  | true=>rfl
  | false=>exact absurd ⟨e,hb⟩ hs)
 refine ⟨by omega,g2,rfl,by simp,g3 j (Nat.le_refl _) (by omega),g3 _ (by omega) (by omega),?_⟩;have hall:(text.extract j (j + Z0a text j)).extract 0 (0 + Z0a text j)=text.extract j (j + Z0a text j):=extract_all _ _ (by rw [Z3n text g2]; omega);unfold Z1f;rw [g6,if_neg hl,if_neg hd,if_neg hq,g4,if_neg hs,hall];simp
def Z6u (text:ByteArray):Nat→List Tok→Prop
 | _,[]=>False
 | i,[t]=>text.size≤Z03 Z0x text (text.size - i) i∧t=⟨6,ByteArray.empty,0,Z03 Z0x text (text.size - i) i⟩
 | i,t :: u :: l=>∃ k,Z03 Z0x text (text.size - i) i < text.size∧Z1f text (Z03 Z0x text (text.size - i) i)=.ok (t,k)∧Z6u text k (u :: l)
theorem Zf5 (text:ByteArray):∀ (f i:Nat) (acc l:List Tok),i≤text.size→text.size - i < f→lexF text f i acc=.ok l→∃ r,l=acc ++ r∧Z6u text i r:=by
 intro f;induction f with
 | zero=>intro i acc l _ h2; omega
 | succ f ih =>
   intro i acc l hi hf h;simp only [lexF] at h;obtain ⟨s1,s2,_,_⟩:=Z12 Z0x text (text.size - i) i (Nat.le_refl _) hi;by_cases hj:text.size≤Z03 Z0x text (text.size - i) i
   ·rw [if_pos hj] at h;simp only [Except.ok.injEq] at h;exact ⟨_,h.symm,hj,rfl⟩
   ·rw [if_neg hj] at h;cases ht : Z1f text (Z03 Z0x text (text.size - i) i) with
    | error e=>rw [ht] at h; cases h
    | ok x =>
      obtain ⟨t,k⟩:=x;rw [ht] at h;simp only at h;obtain ⟨c1,c2,_,_,_,_,_⟩:=Z2k text (by omega) ht;obtain ⟨r,hr,hS⟩:=ih k _ l c2 (by omega) h;refine ⟨t :: r,by simp [hr],?_⟩;cases r with
      | nil=>exact hS.elim
      | cons u r=>exact ⟨k,by omega,ht,hS⟩
theorem Z6f {text:ByteArray} {l:List Tok} (h:Z6h text=.ok l):Z6u text 0 l:=by
 obtain ⟨r,hr,hS⟩:=Zf5 text _ 0 [] l (Nat.zero_le _) (by omega) h;rw [hr]; exact hS
open Go Go.RowKit
theorem lh {p:Prop} (h:p):Hid p:=Lib.hid h
theorem zT {w u v:World} (a:Hid (Below w.heap.size w u)) (b:Below u.heap.size u v):Hid (Below w.heap.size w v):=lh (a.out.trans (b.mono a.out.size))
theorem zL {α:Type _} {l m:List α}:(l ++ m).length=l.length + m.length:=List.length_append
theorem zM {α:Type _} {a:α} {l:List α}:(a :: l).length=l.length + 1:=rfl
theorem zN {α:Type _}:([]:List α).length=0:=rfl
theorem zA {α:Type _} (l:List α) (i:Nat) (v:α):l.toArray.setIfInBounds i v=(l.set i v).toArray:=List.setIfInBounds_toArray ..
theorem zB {α:Type _} (x v:α) (l:List α):(x :: l).set 0 v=v :: l:=rfl
theorem zC {α:Type _} (x v:α) (l:List α) (n:Nat):(x :: l).set (n + 1) v=x :: l.set n v:=rfl
theorem Y5:type_of% @Nat.le_refl:=@Nat.le_refl
theorem Y6:type_of% @Array.getElem?_eq_some_iff:=@Array.getElem?_eq_some_iff
theorem Y8:type_of% @Below.refl:=@Below.refl
theorem Y9:type_of% @if_neg:=@if_neg
theorem Ya:type_of% @Nat.le_trans:=@Nat.le_trans
theorem Yb:type_of% @if_pos:=@if_pos
theorem Yd:type_of% @List.getElem?_eq_getElem:=@List.getElem?_eq_getElem
theorem Ye:type_of% @Nat.lt_of_lt_of_le:=@Nat.lt_of_lt_of_le
theorem Yg:type_of% @Below.heap_setCell:=@Below.heap_setCell
theorem Yh:type_of% @World.ownsRow.lt:=@World.ownsRow.lt
theorem Yi:type_of% @World.news_of_block:=@World.news_of_block
theorem Yj:type_of% @World.cell?_of_block:=@World.cell?_of_block
theorem Yk:type_of% @Option.some.inj:=@Option.some.inj
theorem Yl:type_of% @List.mem_of_getElem?:=@List.mem_of_getElem?
theorem Ym:type_of% @List.take_of_length_le:=@List.take_of_length_le
theorem Yn:type_of% @World.size_setCell:=@World.size_setCell
theorem Yo:type_of% @List.getElem?_map:=@List.getElem?_map
theorem Yp:type_of% @Nat.zero_le:=@Nat.zero_le
theorem Yq:type_of% @List.length_append:=@List.length_append
theorem Yr:type_of% @Tryz.underlying9:=@Tryz.underlying9
theorem Ys:type_of% @Tryz.underlying3:=@Tryz.underlying3
theorem Yt:type_of% @Nat.le_of_eq:=@Nat.le_of_eq
theorem Yu:type_of% @List.map_append:=@List.map_append
theorem Yv:type_of% @List.length_map:=@List.length_map
theorem Yw:type_of% @WideMaps.keyOf_string_mk:=@WideMaps.keyOf_string_mk
theorem zD {α β:Type _} (f:α→Option β) (a:α) (l:List α):(a :: l).filterMap f=match f a with | none=>l.filterMap f | some b=>b :: l.filterMap f:=rfl
theorem zE {α β:Type _} (f:α→Option β):([]:List α).filterMap f=[]:=rfl
theorem zF {α:Type _} (l:List α) (i:Nat):l.toArray[i]?=l[i]?:=List.getElem?_toArray ..
theorem zG {α:Type _} (a:α) (l:List α):(a :: l)[0]?=some a:=rfl
theorem zH {α:Type _} (a:α) (l:List α) (i:Nat):(a :: l)[i + 1]?=l[i]?:=rfl
theorem zI {α β:Type _} (f:α→β) (a:α):(some a).map f=some (f a):=rfl
theorem zJ {α β:Type _} (f:α→β) (a:α) (l:List α):(a :: l).map f=f a :: l.map f:=rfl
theorem zK {α β:Type _} (f:α→β):([]:List α).map f=[]:=rfl
theorem zX {α:Sort _} (a:α):∃ x,x=a:=⟨a,rfl⟩
end Go.Proofs.YtmeiggjboakmpaaGreatDoor
