/- strings.Builder at this dump: WriteString, WriteByte (after the shelf' -/
import Derived.Test.YtmeiggjboakmpaaGreatDoorJ01
import Derived.Defers
import Derived.Shelf.Small.Strs
import Derived.Lib.Bytealg
import Derived.Shelf.Strings.Prefix
namespace Go.Proofs.YtmeiggjboakmpaaGreatDoor
open Go Go.RowKit
set_option maxRecDepth 100000
set_option maxHeartbeats 20000000
theorem Z9h (B b:Nat) (bs:List Value) (w:World) (h:Lib.IsBuilder 69 5 B b bs w) :
 Calls Tryz.prog 58 #[.pointer (some ⟨b,0,none⟩)] w fun e w'=>e=.returned (.tuple #[])∧(Lib.BuilderAt 69 5 B b (.pointer (some ⟨b,0,none⟩)) bs w'∧Below B w w'):=by
 rcases h with h | h
 ·refine (Z5z w b h.cell0 h.shape h.frozen0).mono ?_;rintro e w' ⟨rfl,rfl⟩;exact ⟨rfl,h.used _,(Y8 B w).setCell (p:=⟨b,0,none⟩) h.1 _⟩
 ·refine (Z6q w b h.cell0).mono ?_;rintro e w' ⟨rfl,rfl⟩;exact ⟨rfl,h,Y8 B _⟩
theorem Zg7 (B b:Nat) (bs:List Value) (c:Int) (w:World) (h:Lib.IsBuilder 69 5 B b bs w) (hlen:bs.length + 1≤140737488355328) (hBw:B≤w.heap.size) :
 Calls Tryz.prog 24 #[.pointer (some ⟨b,0,none⟩),.int .u8 c] w fun e w'=>e=.returned .nilIface∧(Lib.BuilderAt 69 5 B b (.pointer (some ⟨b,0,none⟩)) (bs ++ [.int .u8 c]) w'∧Below B w w'):=by
 obtain ⟨i0,hi,hz0,hz1,hz2⟩:=info_parts Tryz.infoU8;have HC:=lh (Z9h B b bs w h);clear h;go_enter Tryz.func24,Tryz.ntmps24
 go_wp2_with fail
 refine HC.out.mono ?_;rintro e w1 ⟨rfl,h1,hb1⟩;obtain ⟨hB,v,hbk,hown,hne⟩:=h1;have c0:w1.cell? ⟨b,0,none⟩=some (.pointer (some ⟨b,0,none⟩)):=by rw [Lib.cell_of_heap hbk]; rfl
 have c1:w1.cell? ⟨b,1,none⟩=some v:=by rw [Lib.cell_of_heap hbk]; rfl
 go_wp2_with (at_builtin; refine wpList_append_own _ rfl _ _ 67 rfl B 5 i0 (.int .u8 0) 1 1 Tryz.underlying67 hi hz0 hz1 hz2 rfl (by decide) _ _ _ rfl (hown.alloc _) ⟨w1.heap.size,0,none⟩ 1 1 [.int .u8 c] rfl rfl ?c1 ?c2 ?c3 ?c4 ?c5 ?_)
 case c1=>
  intro j u hj;match j,hj with
  | 0,hj=>simp at hj; subst hj; simp [Addr.add]
 case c2=>intro u hu; simp at hu; subst hu; rfl
 case c3=>unfold maxLen; omega
 case c4=>omega
 case c5=>have:=hb1.size; simp; omega
 intro v' w2 hown' hgrow _;have hlt:b < w1.heap.size:=by
  rcases Nat.lt_or_ge b w1.heap.size with h' | h';·exact h'
  ·simp [Array.getElem?_eq_none h'] at hbk
 have hb2:w2.heap[b]?=some (.cells #[.pointer (some ⟨b,0,none⟩),v] 69 (0,0)):=by
  rw [hgrow.block b (by simp; omega) (fun e=>hne e.symm),Lib.alloc_old w1 _ b hlt];exact hbk
 have d0:w2.cell? ⟨b,0,none⟩=some (.pointer (some ⟨b,0,none⟩)):=by rw [Lib.cell_of_heap hb2]; rfl
 have d1:w2.cell? ⟨b,1,none⟩=some v:=by rw [Lib.cell_of_heap hb2]; rfl
 have f1:w2.frozen? ⟨b,1,none⟩=false:=Lib.frozen_of_heap hb2 1;obtain ⟨g,cap,rfl⟩:∃ g cap,v'=.slice (some ⟨g,0,none⟩) (bs.length + 1) cap:=by
  rcases hown'.2 with ⟨_,h0⟩ | ⟨g,cap,cur,hv,_⟩;·omega
  ·exact ⟨g,cap,hv⟩
 go_wp2;go_ret;refine ⟨rfl,?_,?_⟩;·exact Lib.BuilderAt.put (T:=69) (e:=5) hB hb2 (bs':=bs ++ [.int .u8 c]) (by simpa using hown') (by decide)
 ·exact ((hb1.alloc (by have:=hb1.size; omega) _).grown hgrow (by have:=hb1.size; simp; omega) (fun k hk=>(hown.lt k hk).1)).setCell (p:=⟨b,1,none⟩) hB _
theorem Zf1 (B b:Nat) (bs:List Value) (c:Int) (w:World) (h:Lib.IsBuilder 69 5 B b bs w) (hlen:bs.length + 1≤140737488355328) (hBw:B≤w.heap.size) (u:FrameMode) :
 CallsD Tryz.prog 24 #[.pointer (some ⟨b,0,none⟩),.int .u8 c] u w fun e u' w'=>u'=u∧(e=.returned .nilIface∧Lib.BuilderAt 69 5 B b (.pointer (some ⟨b,0,none⟩)) (bs ++ [.int .u8 c]) w'∧Below B w w'):=by
 obtain ⟨i0,hi,hz0,hz1,hz2⟩:=info_parts Tryz.infoU8;have HC:=lh (Z9h B b bs w h);clear h;go_enter_d Tryz.func24,Tryz.ntmps24
 go_wp2_with fail
 refine HC.out.mono ?_;rintro e w1 ⟨rfl,h1,hb1⟩;obtain ⟨hB,v,hbk,hown,hne⟩:=h1;have c0:w1.cell? ⟨b,0,none⟩=some (.pointer (some ⟨b,0,none⟩)):=by rw [Lib.cell_of_heap hbk]; rfl
 have c1:w1.cell? ⟨b,1,none⟩=some v:=by rw [Lib.cell_of_heap hbk]; rfl
 go_wp2_with (at_builtin; refine wpList_append_own _ rfl _ _ 67 rfl B 5 i0 (.int .u8 0) 1 1 Tryz.underlying67 hi hz0 hz1 hz2 rfl (by decide) _ _ _ rfl (hown.alloc _) ⟨w1.heap.size,0,none⟩ 1 1 [.int .u8 c] rfl rfl ?c1 ?c2 ?c3 ?c4 ?c5 ?_)
 case c1=>
  intro j u hj;match j,hj with
  | 0,hj=>simp at hj; subst hj; simp [Addr.add]
 case c2=>intro u hu; simp at hu; subst hu; rfl
 case c3=>unfold maxLen; omega
 case c4=>omega
 case c5=>have:=hb1.size; simp; omega
 intro v' w2 hown' hgrow _;have hlt:b < w1.heap.size:=by
  rcases Nat.lt_or_ge b w1.heap.size with h' | h';·exact h'
  ·simp [Array.getElem?_eq_none h'] at hbk
 have hb2:w2.heap[b]?=some (.cells #[.pointer (some ⟨b,0,none⟩),v] 69 (0,0)):=by
  rw [hgrow.block b (by simp; omega) (fun e=>hne e.symm),Lib.alloc_old w1 _ b hlt];exact hbk
 have d0:w2.cell? ⟨b,0,none⟩=some (.pointer (some ⟨b,0,none⟩)):=by rw [Lib.cell_of_heap hb2]; rfl
 have d1:w2.cell? ⟨b,1,none⟩=some v:=by rw [Lib.cell_of_heap hb2]; rfl
 have f1:w2.frozen? ⟨b,1,none⟩=false:=Lib.frozen_of_heap hb2 1;obtain ⟨g,cap,rfl⟩:∃ g cap,v'=.slice (some ⟨g,0,none⟩) (bs.length + 1) cap:=by
  rcases hown'.2 with ⟨_,h0⟩ | ⟨g,cap,cur,hv,_⟩;·omega
  ·exact ⟨g,cap,hv⟩
 go_wp2;go_ret;refine ⟨rfl,?_,?_⟩;·exact Lib.BuilderAt.put (T:=69) (e:=5) hB hb2 (bs':=bs ++ [.int .u8 c]) (by simpa using hown') (by decide)
 ·exact ((hb1.alloc (by have:=hb1.size; omega) _).grown hgrow (by have:=hb1.size; simp; omega) (fun k hk=>(hown.lt k hk).1)).setCell (p:=⟨b,1,none⟩) hB _
theorem Zjw (B b:Nat) (bs:List Value) (s:ByteArray) (w:World) (h:Lib.IsBuilder 69 5 B b bs w) (hlen:bs.length + s.size≤140737488355328) (hBw:B≤w.heap.size) :
 Calls Tryz.prog 55 #[.pointer (some ⟨b,0,none⟩),.string s] w fun e w'=>e=.returned (.tuple #[.int .i64 s.size,.nilIface])∧(Lib.BuilderAt 69 5 B b (.pointer (some ⟨b,0,none⟩)) (bs ++ Lib.strCells s) w'∧Below B w w'):=by
 obtain ⟨i0,hi,hz0,hz1,hz2⟩:=info_parts Tryz.infoU8;have HC:=lh (Z9h B b bs w h);clear h;go_enter Tryz.func55,Tryz.ntmps55
 go_wp2_with fail
 refine HC.out.mono ?_;rintro e w1 ⟨rfl,h1,hb1⟩;obtain ⟨hB,v,hbk,hown,hne⟩:=h1;have c0:w1.cell? ⟨b,0,none⟩=some (.pointer (some ⟨b,0,none⟩)):=by rw [Lib.cell_of_heap hbk]; rfl
 have c1:w1.cell? ⟨b,1,none⟩=some v:=by rw [Lib.cell_of_heap hbk]; rfl
 go_wp2_with (at_builtin; refine Lib.wpList_append_own_string _ rfl _ _ 67 9 rfl B 5 i0 Tryz.underlying67 Yr hi hz0 hz1 hz2 _ _ _ rfl hown s rfl ?c3 ?c4 ?c5 ?_)
 case c3=>unfold maxLen; omega
 case c4=>omega
 case c5=>have:=hb1.size; omega
 intro v' w2 hown' hgrow _;have hlt:b < w1.heap.size:=by
  rcases Nat.lt_or_ge b w1.heap.size with h' | h';·exact h'
  ·simp [Array.getElem?_eq_none h'] at hbk
 have hb2:w2.heap[b]?=some (.cells #[.pointer (some ⟨b,0,none⟩),v] 69 (0,0)):=by
  rw [hgrow.block b hlt (fun e=>hne e.symm)];exact hbk
 have d0:w2.cell? ⟨b,0,none⟩=some (.pointer (some ⟨b,0,none⟩)):=by rw [Lib.cell_of_heap hb2]; rfl
 have d1:w2.cell? ⟨b,1,none⟩=some v:=by rw [Lib.cell_of_heap hb2]; rfl
 have f1:w2.frozen? ⟨b,1,none⟩=false:=Lib.frozen_of_heap hb2 1;obtain ⟨ao,n',cap,rfl⟩:∃ ao n' cap,v'=.slice ao n' cap:=by
  rcases hown'.2 with ⟨hv,_⟩ | ⟨g,cap,cur,hv,_⟩;·exact ⟨_,_,_,hv⟩
  ·exact ⟨_,_,_,hv⟩
 go_wp2;go_ret2
 refine ⟨rfl,?_,?_⟩;·exact Lib.BuilderAt.put (T:=69) (e:=5) hB hb2 (bs':=bs ++ Lib.strCells s) (by simpa [Lib.strCells_length] using hown') (by decide)
 ·exact (hb1.grown hgrow (by have:=hb1.size; omega) (fun k hk=>(hown.lt k hk).1)).setCell (p:=⟨b,1,none⟩) hB _
def Bnd (n:Nat) (p:PR):Prop:=∀ t ts,p=some (.ok (t,ts))→t.many + 2 * ts.length≤n
theorem Bnd.fail {n:Nat} {e:Int} {ts:List Tok}:Bnd n (Z2t e ts):=by intro t ts' h; cases h
theorem Bnd.none {n:Nat}:Bnd n none:=by intro t ts' h; cases h
theorem Bnd.err {n:Nat} {e:Int×Nat}:Bnd n (some (.error e)):=by intro t ts' h; cases h
theorem Bnd.ok {n:Nat} {t:Tree} {ts:List Tok} (h:t.many + 2 * ts.length≤n):Bnd n (okT t ts):=by
 intro t' ts' h';simp only [okT,Option.some.injEq,Except.ok.injEq,Prod.mk.injEq] at h';rw [← h'.1,← h'.2]; exact h
theorem Bnd.bind {n m:Nat} {p:PR} {k:Tree→List Tok→PR} (hp:Bnd m p) (hk:∀ t ts,t.many + 2 * ts.length≤m→Bnd n (k t ts)):Bnd n (Z0g p k):=by
 cases p with
 | none=>exact Bnd.none
 | some r =>
   cases r with
   | error e=>exact Bnd.err
   | ok x=>obtain ⟨t,ts⟩:=x; exact hk t ts (hp t ts rfl)
theorem Bnd.want {n:Nat} {s:ByteArray} {ts:List Tok} {k:List Tok→PR} (hk:ts.tail.length < ts.length→Bnd n (k ts.tail)):Bnd n (Z1e s ts k):=by
 unfold Z1e;by_cases h:isT s ts=true;·rw [Yb h]; exact hk (Z0j h)
 ·rw [Y9 h]; exact Bnd.fail
theorem Bnd.name {n:Nat} {ts:List Tok} {k:ByteArray→List Tok→PR} (hk:∀ s,ts.tail.length < ts.length→Bnd n (k s ts.tail)):Bnd n (Z3f ts k):=by
 unfold Z3f;by_cases h:(hdT ts).kind=1;·rw [Yb h]; exact hk _ (Z3l (by omega))
 ·rw [Y9 h]; exact Bnd.fail
theorem Bnd.within {n d:Nat} {ts:List Tok} {p:PR} (h:Bnd n p):Bnd n (Z18 d ts p):=by
 unfold Z18;by_cases h':30 < d + 1;·rw [Yb h']; exact Bnd.fail
 ·rw [Y9 h']; exact h
theorem Bnd.ite {n:Nat} {c:Prop} [Decidable c] {p q:PR} (hp:c→Bnd n p) (hq:¬ c→Bnd n q):Bnd n (if c then p else q):=by
 by_cases h:c;·rw [Yb h]; exact hp h
 ·rw [Y9 h]; exact hq h
theorem Bnd.comma {n:Nat} {c:Prop} [Decidable c] {ts:List Tok} {k:List Tok→PR} (hk:∀ ts',ts'.length≤ts.length→Bnd n (k ts')):Bnd n ((if c then Z1e Z1b ts else fun k=>k ts) k):=by
 by_cases h:c;·rw [Yb h]; exact Bnd.want fun h'=>hk _ (by omega)
 ·rw [Y9 h]; exact hk _ (Y5 _)
theorem Bnd.end' {n:Nat} {t:Tree} {ts:List Tok} (h:t.many + 2 * ts.length≤n + 2):Bnd n (endT t ts):=Bnd.want fun h'=>Bnd.ok (by omega)
def Job.base:Job→Nat
 | .stmts _ acc=>Zv acc + 1
 | .params acc=>Zv acc + 1
 | .try_=>1
 | .binLoop _ x=>x.many
 | .postLoop x=>x.many
 | .args acc=>Zv acc + 1
 | .object acc=>Zv acc + 1
 | _=>0
theorem Z66 (l m:List Tree):Zv (l ++ m)=Zv l + Zv m:=by
 induction l with
 | nil=>simp [Zv]
 | cons x l ih=>simp only [List.cons_append,Zv,ih]; omega
theorem Z1m (k:Int) (s:ByteArray) (n:Int) (l:List Tree):(Tree.mk k s n l).many=Zv l + 1:=by simp [Tree.many]
theorem Z2c (x:Tree):Zv [x]=x.many:=by simp [Zv]
theorem Z4r (x y:Tree):Zv [x,y]=x.many + y.many:=by simp [Zv]
theorem Zco (x y z:Tree):Zv [x,y,z]=x.many + y.many + z.many:=by simp [Zv]; omega
theorem Z32:Zv []=0:=by simp [Zv]
theorem Zg9 (x:Tree):x.many=Zv x.kids + 1:=by cases x; simp [Tree.many,Tree.kids]
theorem Zaa:∀ (f:Nat) (job:Job) (d:Nat) (ts:List Tok),Bnd (job.base + 2 * ts.length) (Z0 f job d ts):=by
 intro f;induction f with
 | zero=>intro job d ts; exact Bnd.none
 | succ f ih =>
   intro job d ts;have htl:=Z1a ts;have ih':∀ (job:Job) (d:Nat) (us:List Tok) {n:Nat},job.base + 2 * us.length≤n→Bnd n (Z0 f job d us):=fun job d us n h t vs hp=>Ya (ih job d us t vs hp) h;cases job with
   | stmts kind acc =>
     rw [Z0];refine Bnd.ite (fun _=>Bnd.ok ?_) fun _=>Bnd.bind (Bnd.within (ih .stmt _ _)) fun t us h=>ih' _ _ _ ?_;·rw [Z1m]; simp only [Job.base]; omega
     ·simp only [Job.base,Z66,Z2c] at *; omega
   | block body =>
     rw [Z0];refine Bnd.want fun h1=>Bnd.bind (ih (.stmts 6 []) _ _) fun t us h=>Bnd.want fun h2=>Bnd.ok ?_;simp only [Job.base,Z32] at *;cases body;·simp only [Bool.false_eq_true,if_false]; rw [Z1m]; rw [Zg9] at h; omega
     ·simp only [if_true]; omega
   | func kind text =>
     rw [Z0];refine Bnd.want fun h1=>Bnd.bind (ih (.params []) _ _) fun t us h=>Bnd.want fun h2=>Bnd.bind (ih (.block true) _ _) fun t vs h3=>Bnd.ok ?_;simp only [Job.base,Z32,Z1m,Z4r] at *; omega
   | params acc =>
     rw [Z0];refine Bnd.ite (fun _=>Bnd.ok ?_) fun _=>Bnd.comma fun us h=>Bnd.ite (fun _=>Bnd.fail) fun _=>Bnd.name fun s h2=>ih' _ _ _ ?_;·rw [Z1m]; simp only [Job.base]; omega
     ·simp only [Job.base,Z66,Z2c,Z1m,Z32] at *; omega
   | around =>
     rw [Z0];refine Bnd.want fun h1=>Bnd.bind (ih .value _ _) fun t us h=>Bnd.want fun h2=>Bnd.ok ?_;simp only [Job.base] at *; omega
   | stmt =>
     rw [Z0];refine Bnd.ite (fun h=>ih' _ _ _ (by simp only [Job.base]; omega)) fun _=>?_;refine Bnd.ite (fun h=>Bnd.ok (by have:=Z0j h; simp only [Job.base,Z1m,Z32]; omega)) fun _=>?_;refine Bnd.ite (fun h=>Bnd.bind (ih _ _ _) fun t us h2=>Bnd.end' (by simp only [Job.base] at *; omega)) fun _=>?_;refine Bnd.ite (fun h=>Bnd.bind (ih _ _ _) fun t us h2=>Bnd.end' (by simp only [Job.base] at *; omega)) fun _=>?_;refine Bnd.ite (fun h=>Bnd.bind (ih _ _ _) fun t us h2=>Bnd.end' (by simp only [Job.base] at *; omega)) fun _=>?_
     refine Bnd.ite (fun h=>Bnd.name fun s h2=>ih' _ _ _ (by simp only [Job.base]; omega)) fun _=>?_;refine Bnd.ite (fun h=>?_) fun _=>?_
     ·have:=Z0j h;refine Bnd.bind (ih .around _ _) fun t us h2=>Bnd.bind (Bnd.within (ih .stmt _ _)) fun t vs h3=>?_;have:=Z1a vs;exact Bnd.ite (fun h4=>Bnd.bind (Bnd.within (ih .stmt _ _)) fun t xs h5=>Bnd.ok (by simp only [Job.base,Z1m,Zco] at *; omega)) fun _=>Bnd.ok (by simp only [Job.base,Z1m,Z4r] at *; omega)
     refine Bnd.ite (fun h=>?_) fun _=>?_
     ·have:=Z0j h;exact Bnd.bind (ih .around _ _) fun t us h2=>Bnd.bind (Bnd.within (ih .stmt _ _)) fun t vs h3=>Bnd.ok (by simp only [Job.base,Z1m,Z4r] at *; omega)
     refine Bnd.ite (fun h=>?_) fun _=>?_
     ·have:=Z0j h;exact Bnd.bind (ih .around _ _) fun t us h2=>Bnd.bind (Bnd.within (ih .stmt _ _)) fun t vs h3=>Bnd.ok (by simp only [Job.base,Z1m,Z4r] at *; omega)
     refine Bnd.ite (fun h=>?_) fun _=>?_
     ·have:=Z0j h;exact Bnd.ite (fun h1=>Bnd.end' (by simp only [Job.base,Z1m,Z32] at *; omega)) fun _=>Bnd.bind (ih .value _ _) fun t us h2=>Bnd.end' (by simp only [Job.base,Z1m,Z2c] at *; omega)
     refine Bnd.ite (fun h=>?_) fun _=>?_
     ·have:=Z0j h;exact Bnd.bind (ih .value _ _) fun t us h2=>Bnd.end' (by simp only [Job.base,Z1m,Z2c] at *; omega)
     refine Bnd.ite (fun h=>ih' _ _ _ (by have:=Z0j h; simp only [Job.base]; omega)) fun _=>?_;exact Bnd.bind (ih .value _ _) fun t us h2=>Bnd.end' (by simp only [Job.base,Z1m,Z2c] at *; omega)
   | decl kind must =>
     rw [Z0];refine Bnd.name fun s h=>Bnd.ite (fun _=>Bnd.fail) fun _=>Bnd.ite (fun h2=>Bnd.bind (ih .value _ _) fun t us h3=>Bnd.ok ?_) fun _=>Bnd.ok ?_;·have:=Z1a ts.tail; simp only [Job.base,Z1m,Z2c] at *; omega
     ·simp only [Job.base,Z1m,Z32] at *; omega
   | try_ =>
     rw [Z0];refine Bnd.bind (ih (.block false) _ _) fun b us h=>?_;have hk:∀ (l:List Tree) (vs:List Tok),Zv l + 2 * vs.length≤2 * ts.length→Bnd (1 + 2 * ts.length) (if isT Zt vs then Z0g (Z0 f (.block false) d vs.tail) fun c ts=>okT (.mk 12 ByteArray.empty 0 (l ++ [.mk 14 ByteArray.empty 0 [c]])) ts else if l.length=1 then Z2t 3 vs else okT (.mk 12 ByteArray.empty 0 l) vs):=by
      intro l vs h2;refine Bnd.ite (fun h3=>Bnd.bind (ih (.block false) _ _) fun t xs h4=>Bnd.ok ?_) fun _=>Bnd.ite (fun _=>Bnd.fail) fun _=>Bnd.ok ?_;·have:=Z0j h3; simp only [Job.base,Z1m,Z66,Z2c] at *; omega
      ·rw [Z1m]; omega
     refine Bnd.ite (fun h1=>?_) fun _=>hk _ _ (by simp only [Job.base,Z2c] at *; omega);have:=Z0j h1;refine Bnd.want fun h2=>Bnd.name fun s h3=>Bnd.want fun h4=>Bnd.bind (ih (.block false) _ _) fun c vs h5=>hk _ _ ?_;simp only [Job.base,Z1m,Z2c,Z4r] at *; omega
   | value=>rw [Z0]; exact Bnd.within (ih' _ _ _ (by simp only [Job.base]; omega))
   | assign =>
     rw [Z0];refine Bnd.bind (ih (.bin 0) _ _) fun x us h=>Bnd.ite (fun h1=>Bnd.ite (fun _=>Bnd.bind (ih .value _ _) fun y vs h2=>Bnd.ok ?_) fun _=>Bnd.err) fun _=>Bnd.ok ?_;·have:=Z0j h1; simp only [Job.base,Z1m,Z4r] at *; omega
     ·simp only [Job.base] at *; omega
   | bin level =>
     rw [Z0];refine Bnd.ite (fun h=>ih' _ _ _ (by simp only [Job.base]; omega)) fun h=>Bnd.bind (ih (.bin (level + 1)) _ _) fun x us h=>ih' _ _ _ (by simp only [Job.base] at *; omega)
   | binLoop level x =>
     rw [Z0];refine Bnd.ite (fun _=>Bnd.ok (by simp only [Job.base]; omega)) fun h0=>Bnd.bind (ih (.bin (level + 1)) _ _) fun y us h=>ih' _ _ _ ?_;have:=Z71 h0; simp only [Job.base,Z1m,Z4r] at *; omega
   | unary =>
     rw [Z0];refine Bnd.ite (fun _=>ih' _ _ _ (by simp only [Job.base]; omega)) fun h0=>Bnd.bind (Bnd.within (ih .unary _ _)) fun y us h=>Bnd.ok ?_;have:=Z9b h0; simp only [Job.base,Z1m,Z2c] at *; omega
   | postfix_ =>
     rw [Z0];exact Bnd.bind (ih .primary _ _) fun y us h=>ih' _ _ _ (by simp only [Job.base] at *; omega)
   | postLoop x =>
     rw [Z0];refine Bnd.ite (fun h=>Bnd.name fun s h2=>ih' _ _ _ ?_) fun _=>Bnd.ite (fun h=>?_) fun _=>Bnd.ok (by simp only [Job.base]; omega);·have:=Z0j h; simp only [Job.base,Z1m,Z2c] at *; omega
     ·have:=Z0j h;exact Bnd.bind (ih (.args [x]) _ _) fun y us h=>ih' _ _ _ (by simp only [Job.base,Z2c] at *; omega)
   | args acc =>
     rw [Z0];refine Bnd.ite (fun h=>Bnd.ok ?_) fun _=>Bnd.comma fun us h=>Bnd.ite (fun _=>Bnd.fail) fun _=>Bnd.bind (ih .value _ _) fun y vs h2=>ih' _ _ _ ?_;·rw [Z1m]; simp only [Job.base]; omega
     ·simp only [Job.base,Z66,Z2c] at *; omega
   | primary =>
     rw [Z0];have:=Z1a ts.tail;refine Bnd.ite (fun h=>Bnd.ok ?_) fun _=>Bnd.ite (fun h=>Bnd.ok ?_) fun _=>Bnd.ite (fun h=>Bnd.ok ?_) fun _=>Bnd.ite (fun h=>Bnd.ok ?_) fun _=>?_;·have:=Z3l (ts:=ts) (by omega); simp only [Job.base,Z1m,Z32] at *; omega
     ·have:=Z3l (ts:=ts) (by omega); simp only [Job.base,Z1m,Z32] at *; omega
     ·have:=Z3l (ts:=ts) (by omega); simp only [Job.base,Z1m,Z32] at *; omega
     ·have:ts.tail.length < ts.length:=by
       unfold Z3t at h;by_cases h1:isT Z45 ts=true;·exact Z0j h1
       ·by_cases h2 : isT Z36 ts = true;·exact Z0j h2
        ·by_cases h3 : isT Z4q ts = true;·exact Z0j h3
         ·by_cases h4 : isT Z1o ts = true;·exact Z0j h4
          ·simp [h1,h2,h3,h4] at h
      simp only [Job.base,Z1m,Z32] at *; omega
     refine Bnd.ite (fun _=>ih' _ _ _ (by simp only [Job.base]; omega)) fun _=>?_;refine Bnd.ite (fun _=>Bnd.ite (fun _=>ih' _ _ _ (by simp only [Job.base]; omega)) fun _=>ih' _ _ _ (by simp only [Job.base]; omega)) fun _=>?_;exact Bnd.ite (fun h=>ih' _ _ _ (by have:=Z0j h; simp only [Job.base,Z32]; omega)) fun _=>Bnd.fail
   | object acc =>
     rw [Z0];refine Bnd.ite (fun h=>Bnd.ok ?_) fun _=>Bnd.comma fun us h=>Bnd.ite (fun _=>Bnd.fail) fun _=>Bnd.name fun s h1=>Bnd.want fun h2=>Bnd.bind (ih .value _ _) fun y vs h3=>ih' _ _ _ ?_;·rw [Z1m]; simp only [Job.base]; omega
     ·simp only [Job.base,Z66,Z2c,Z1m] at *; omega
structure RS where
 ts:List Tok
 f:Option (Int×Nat)
def gT:Tree:=.mk 0 ByteArray.empty 0 []
def Z39 (e:Int) (σ:RS):RS:=if σ.f.isNone then ⟨σ.ts,some (e,(hdT σ.ts).at')⟩ else σ
def Zl (s:ByteArray) (σ:RS):Bool:=σ.f.isNone && isT s σ.ts
def advR (σ:RS):RS:=⟨σ.ts.tail,σ.f⟩
def Z0z (s:ByteArray) (σ:RS):RS:=if σ.f.isNone then (if isT s σ.ts then advR σ else Z39 3 σ) else σ
def Zw (σ:RS):ByteArray×RS:=if σ.f.isNone then (if (hdT σ.ts).kind=1 then ((hdT σ.ts).text,advR σ) else (ByteArray.empty,Z39 3 σ)) else (ByteArray.empty,σ)
abbrev RR:=Option (Tree×RS)
def Z0n (p:RR) (k:Tree→RS→RR):RR:=match p with | none=>none | some (t,σ)=>k t σ
def Z37 (s:ByteArray):Int:=if Z15 s s_or then 25 else if Z15 s Z5n then 26 else if Z15 s Z3h then 27 else if Z15 s Z4i then 28 else if Z15 s Z51 then 29 else if Z15 s Z5p then 30 else if Z15 s Z6o then 31 else 0
def Z5a (level:Nat) (s:ByteArray):Bool:=
 match level with
 | 0=>Z15 s s_or
 | 1=>Z15 s Z5n
 | 2=>Z15 s Z3h
 | 3=>Z15 s Z4i
 | 4=>Z15 s Z51 || Z15 s Z5p
 | 5=>Z15 s Z6o
 | _=>false
def Z6g (σ:RS):Int:=if Zl Z5h σ then 32 else if Zl Z1l σ then 33 else if Zl Z1t σ then 34 else 0
def Z2z (s:ByteArray):Int:=if Z15 s Z45 then 19 else if Z15 s Z36 then 20 else if Z15 s Z4q then 21 else if Z15 s Z1o then 22 else 0
inductive RJob
 | prog (acc:List Tree)
 | braces (body:Bool)
 | bracesL (acc:List Tree)
 | params (acc:List Tree)
 | args (acc:List Tree)
 | props (acc:List Tree)
 | func (kind:Int) (text:ByteArray)
 | head
 | stmt
 | stmt2
 | value
 | pairs (level:Nat)
 | Z65 (level:Nat) (x:Tree)
 | single
 | singleL (x:Tree)
 | first
def Z3s (c:Bool) (σ:RS):RS:=if c then Z0z Z1b σ else σ
def Z5d (c:Bool) (σ:RS):RS:=if c then Z39 4 σ else σ
def tryF (l:List Tree) (σ:RS):RR:=some (.mk 12 ByteArray.empty 0 l,if l.length=1 then Z39 3 σ else σ)
def Z48 (σ:RS):Int:=if Zl Z19 σ then 2 else if Zl Z1c σ then 3 else if Zl Z06 σ then 4 else 0
def Z28 (k:Int) (σ:RS):RS:=if decide (k=4) && σ.f.isNone && !Zl s_eq σ then Z39 3 σ else σ
def refF:Nat→RJob→Nat→RS→RR
 | 0,_,_,_=>none
 | f + 1, .prog acc, d, σ =>
   if σ.f.isNone && !decide ((hdT σ.ts).kind=6) then Z0n (refF f .stmt 1 σ) fun x σ=>refF f (.prog (acc ++ [x])) d σ
   else some (.mk 0 ByteArray.empty 0 acc,σ)
 | f + 1, .braces body, d, σ =>
   Z0n (refF f (.bracesL []) d (Z0z Zi σ)) fun l σ=>
    some (.mk 6 (if body && (Z0z Z01 σ).f.isNone && Z1w l.kids then Z1d else ByteArray.empty) 0 l.kids,Z0z Z01 σ)
 | f + 1, .bracesL acc, d, σ =>
   if σ.f.isNone && !Zl Z01 σ then Z0n (refF f .stmt (d + 1) σ) fun x σ=>refF f (.bracesL (acc ++ [x])) d σ
   else some (.mk 0 ByteArray.empty 0 acc,σ)
 | f + 1, .params acc, d, σ =>
   if σ.f.isNone && !Zl Z0u σ then
    if (Z5d (decide (acc.length=8)) (Z3s (decide (0 < acc.length)) σ)).f.isNone then
     refF f (.params (acc ++ [.mk 23 (Zw (Z5d (decide (acc.length=8)) (Z3s (decide (0 < acc.length)) σ))).1 0 []])) d (Zw (Z5d (decide (acc.length=8)) (Z3s (decide (0 < acc.length)) σ))).2
    else refF f (.params acc) d (Z5d (decide (acc.length=8)) (Z3s (decide (0 < acc.length)) σ))
   else some (.mk 0 ByteArray.empty 0 acc,Z0z Z0u σ)
 | f + 1, .args acc, d, σ =>
   if σ.f.isNone && !Zl Z0u σ then
    if (Z5d (decide (acc.length=8)) (Z3s (decide (0 < acc.length)) σ)).f.isNone then
     Z0n (refF f .value (d + 1) (Z5d (decide (acc.length=8)) (Z3s (decide (0 < acc.length)) σ))) fun v σ=>refF f (.args (acc ++ [v])) d σ
    else refF f (.args acc) d (Z5d (decide (acc.length=8)) (Z3s (decide (0 < acc.length)) σ))
   else some (.mk 0 ByteArray.empty 0 acc,Z0z Z0u σ)
 | f + 1, .props acc, d, σ =>
   if σ.f.isNone && !Zl Z01 σ then
    if (Z5d (decide (acc.length=8)) (Z3s (decide (0 < acc.length)) σ)).f.isNone then
     Z0n (refF f .value (d + 1) (Z0z Z30 (Zw (Z5d (decide (acc.length=8)) (Z3s (decide (0 < acc.length)) σ))).2)) fun v σ'=>
      refF f (.props (acc ++ [.mk 39 (Zw (Z5d (decide (acc.length=8)) (Z3s (decide (0 < acc.length)) σ))).1 0 [v]])) d σ'
    else refF f (.props acc) d (Z5d (decide (acc.length=8)) (Z3s (decide (0 < acc.length)) σ))
   else some (.mk 0 ByteArray.empty 0 acc,Z0z Z01 σ)
 | f + 1, .func kind text, d, σ =>
   Z0n (refF f (.params []) d (Z0z Z0v σ)) fun l σ=>Z0n (refF f (.braces true) d σ) fun b σ=>some (.mk kind text 0 [.mk 40 ByteArray.empty 0 l.kids,b],σ)
 | f + 1,.head,d,σ=>Z0n (refF f .value (d + 1) (Z0z Z0v σ)) fun x σ=>some (x,Z0z Z0u σ)
 | f + 1, .stmt, d, σ =>
   if 30 < d then some (gT,Z39 4 σ)
   else if Zl Zi σ then refF f (.braces false) d σ
   else if Zl Zs σ then some (.mk 16 ByteArray.empty 0 [],advR σ)
   else if Zl Ze σ then refF f (.func 5 (Zw (advR σ)).1) d (Zw (advR σ)).2
   else if Zl s_if σ then
    Z0n (refF f .head d (advR σ)) fun x σ=>Z0n (refF f .stmt2 d σ) fun y σ=>
     if Zl Z1y σ then Z0n (refF f .stmt2 d (advR σ)) fun z σ=>some (.mk 7 ByteArray.empty 0 [x,y,z],σ)
     else some (.mk 7 ByteArray.empty 0 [x,y],σ)
   else if Zl Zz σ || Zl Z0d σ then
    Z0n (refF f .head d (advR σ)) fun x σ1=>Z0n (refF f .stmt2 d σ1) fun y σ2=>some (.mk (if Zl Z0d σ then 9 else 8) ByteArray.empty 0 [x,y],σ2)
   else if Zl Z1j σ then
    Z0n (refF f (.braces false) d (advR σ)) fun b σ=>
     (fun (k : List Tree → RS → RR) =>
      if Zl Z0t σ then
       Z0n (refF f (.braces false) d (Z0z Z0u (Zw (Z0z Z0v (advR σ))).2)) fun c σ'=>k [b,.mk 13 (Zw (Z0z Z0v (advR σ))).1 0 [c]] σ'
      else k [b] σ) fun l σ=>
     if Zl Zt σ then Z0n (refF f (.braces false) d (advR σ)) fun c σ=>tryF (l ++ [.mk 14 ByteArray.empty 0 [c]]) σ
     else tryF l σ
   else if Z48 σ≠0 then
    if Zl s_eq (Z28 (Z48 σ) (Zw (advR σ)).2) then
     Z0n (refF f .value (d + 1) (advR (Z28 (Z48 σ) (Zw (advR σ)).2))) fun x σ'=>some (.mk (Z48 σ) (Zw (advR σ)).1 0 [x],Z0z Zs σ')
    else some (.mk (Z48 σ) (Zw (advR σ)).1 0 [],Z0z Zs (Z28 (Z48 σ) (Zw (advR σ)).2))
   else if Zl Z08 σ then
    if Zl Zs (advR σ) then some (.mk 10 ByteArray.empty 0 [],Z0z Zs (advR σ))
    else Z0n (refF f .value (d + 1) (advR σ)) fun x σ=>some (.mk 10 ByteArray.empty 0 [x],Z0z Zs σ)
   else if Zl Z0s σ then Z0n (refF f .value (d + 1) (advR σ)) fun x σ=>some (.mk 11 ByteArray.empty 0 [x],Z0z Zs σ)
   else Z0n (refF f .value (d + 1) σ) fun x σ=>some (.mk 15 ByteArray.empty 0 [x],Z0z Zs σ)
 | f + 1,.stmt2,d,σ=>if σ.f.isNone then refF f .stmt (d + 1) σ else some (gT,σ)
 | f + 1, .value, d, σ =>
   if σ.f.isNone then
    if 30 < d then some (gT,Z39 4 σ)
    else Z0n (refF f (.pairs 0) d σ) fun x σ1=>
     if Zl s_eq σ1 then
      if x.kind=23∨x.kind=36 then Z0n (refF f .value (d + 1) (advR σ1)) fun y σ2=>some (.mk 24 ByteArray.empty 0 [x,y],σ2)
      else some (gT,Z39 1 ⟨σ.ts,σ1.f⟩)
     else some (x,σ1)
   else some (gT,σ)
 | f + 1, .pairs level, d, σ =>
   if 6≤level then refF f .single d σ
   else Z0n (refF f (.pairs (level + 1)) d σ) fun x σ=>refF f (.pairsL level x) d σ
 | f + 1, .pairsL level x, d, σ =>
   if σ.f.isNone && decide ((hdT σ.ts).kind=5) && Z5a level (hdT σ.ts).text then
    Z0n (refF f (.pairs (level + 1)) d (advR σ)) fun y σ'=>refF f (.pairsL level (.mk (Z37 (hdT σ.ts).text) ByteArray.empty 0 [x,y])) d σ'
   else some (x,σ)
 | f + 1, .single, d, σ =>
   if Z6g σ≠0 then
    if 30 < d + 1 then some (gT,Z39 4 (advR σ))
    else Z0n (refF f .single (d + 1) (advR σ)) fun x σ'=>some (.mk (Z6g σ) ByteArray.empty 0 [x],σ')
   else Z0n (refF f .first d σ) fun x σ=>refF f (.singleL x) d σ
 | f + 1, .singleL x, d, σ =>
   if Zl Z93 σ then refF f (.singleL (.mk 36 (Zw (advR σ)).1 0 [x])) d (Zw (advR σ)).2
   else if Zl Z0v σ then Z0n (refF f (.args []) d (advR σ)) fun l σ=>refF f (.singleL (.mk 35 ByteArray.empty 0 (x :: l.kids))) d σ
   else some (x,σ)
 | f + 1, .first, d, σ =>
   if σ.f.isNone then
    if (hdT σ.ts).kind=1 then some (.mk 23 (hdT σ.ts).text 0 [],advR σ)
    else if (hdT σ.ts).kind=3 then some (.mk 17 ByteArray.empty (hdT σ.ts).n [],advR σ)
    else if (hdT σ.ts).kind=4 then some (.mk 18 (hdT σ.ts).text 0 [],advR σ)
    else if Zl Z0v σ then refF f .head d σ
    else if Zl Ze σ then
     if (hdT (advR σ).ts).kind=1 then refF f (.func 37 (Zw (advR σ)).1) d (Zw (advR σ)).2
     else refF f (.func 37 ByteArray.empty) d (advR σ)
    else if Zl Zi σ then Z0n (refF f (.props []) d (advR σ)) fun l σ=>some (.mk 38 ByteArray.empty 0 l.kids,σ)
    else if (hdT σ.ts).kind=2∧Z2z (hdT σ.ts).text≠0 then some (.mk (Z2z (hdT σ.ts).text) ByteArray.empty 0 [],advR σ)
    else some (gT,Z39 3 σ)
   else some (gT,σ)
def Z1x (r:RR) (e:Int×Nat):Prop:=∃ t ts,r=some (t,⟨ts,some e⟩)
theorem Z4j (s:ByteArray) (ts:List Tok) (e:Int×Nat):Z0z s ⟨ts,some e⟩=⟨ts,some e⟩:=rfl
theorem Z54 (s:ByteArray) (ts:List Tok) (e:Int×Nat):Zl s ⟨ts,some e⟩=false:=rfl
theorem Zgd (ts:List Tok) (e:Int×Nat):Zw ⟨ts,some e⟩=(ByteArray.empty,⟨ts,some e⟩):=rfl
theorem Z8s (f d:Nat) (ts:List Tok) (e:Int×Nat):refF (f + 1) .value d ⟨ts,some e⟩=some (gT,⟨ts,some e⟩):=by simp [refF]
theorem Z9e (f d:Nat) (ts:List Tok) (e:Int×Nat):refF (f + 1) .stmt2 d ⟨ts,some e⟩=some (gT,⟨ts,some e⟩):=by simp [refF]
theorem Z6l (f d:Nat) (acc:List Tree) (ts:List Tok) (e:Int×Nat):refF (f + 1) (.params acc) d ⟨ts,some e⟩=some (.mk 0 ByteArray.empty 0 acc,⟨ts,some e⟩):=by simp [refF,Z4j]
theorem Zdu (f d:Nat) (acc:List Tree) (ts:List Tok) (e:Int×Nat):refF (f + 1) (.args acc) d ⟨ts,some e⟩=some (.mk 0 ByteArray.empty 0 acc,⟨ts,some e⟩):=by simp [refF,Z4j]
theorem Z76 (f d:Nat) (acc:List Tree) (ts:List Tok) (e:Int×Nat):refF (f + 1) (.props acc) d ⟨ts,some e⟩=some (.mk 0 ByteArray.empty 0 acc,⟨ts,some e⟩):=by simp [refF,Z4j]
theorem Z6s (f d:Nat) (acc:List Tree) (ts:List Tok) (e:Int×Nat):refF (f + 1) (.bracesL acc) d ⟨ts,some e⟩=some (.mk 0 ByteArray.empty 0 acc,⟨ts,some e⟩):=by simp [refF]
theorem Zi4 (f d:Nat) (acc:List Tree) (ts:List Tok) (e:Int×Nat):refF (f + 1) (.prog acc) d ⟨ts,some e⟩=some (.mk 0 ByteArray.empty 0 acc,⟨ts,some e⟩):=by simp [refF]
theorem Z4o (f d:Nat) (b:Bool) (ts:List Tok) (e:Int×Nat):refF (f + 2) (.braces b) d ⟨ts,some e⟩=some (.mk 6 ByteArray.empty 0 [],⟨ts,some e⟩):=by
 rw [refF,Z4j,Z6s]; simp [Z0n,Z4j,Tree.kids]
theorem Za5 (f d lv:Nat) (x:Tree) (ts:List Tok) (e:Int×Nat):refF (f + 1) (.pairsL lv x) d ⟨ts,some e⟩=some (x,⟨ts,some e⟩):=by simp [refF]
theorem Z74 (f d:Nat) (x:Tree) (ts:List Tok) (e:Int×Nat):refF (f + 1) (.singleL x) d ⟨ts,some e⟩=some (x,⟨ts,some e⟩):=by simp [refF,Z54]
theorem Zjk (f d:Nat) (k:Int) (s:ByteArray) (ts:List Tok) (e:Int×Nat):Z1x (refF (f + 3) (.func k s) d ⟨ts,some e⟩) e:=by
 rw [refF,Z4j,Z6l];simp only [Z0n];rw [Z4o];exact ⟨_,_,rfl⟩
def Zkt (t:Tok):Prop:=(t.kind=2→Z37 t.text=0)∧(t.kind=5→Z2z t.text=0)
def Z0c (ts:List Tok):Prop:=∀ t∈ts,Zkt t
theorem Z0c.tail {ts:List Tok} (h:Z0c ts):Z0c ts.tail:=fun t ht=>h t (List.mem_of_mem_tail ht)
theorem Z0c.hd {ts:List Tok} (h:Z0c ts):Zkt (hdT ts):=by
 cases ts with
 | nil=>exact ⟨fun h=>by simp [hdT] at h,fun h=>by simp [hdT] at h⟩
 | cons t l=>exact h t (by simp)
def Agree (p:PR) (q:RR):Prop:=
 match p with
 | none=>True
 | some (.ok (t,ts))=>q=some (t,⟨ts,none⟩)∧Z0c ts
 | some (.error e)=>Z1x q e
theorem Agree.ok {t:Tree} {ts:List Tok} (h:Z0c ts):Agree (okT t ts) (some (t,⟨ts,none⟩)):=⟨rfl,h⟩
theorem Agree.fail {k:Int} {t:Tree} {ts:List Tok}:Agree (Z2t k ts) (some (t,Z39 k ⟨ts,none⟩)):=⟨_,_,rfl⟩
theorem Agree.bind {p:PR} {q:RR} {k:Tree→List Tok→PR} {m:Tree→RS→RR} (h:Agree p q) (hk:∀ t ts,Z0c ts→Agree (k t ts) (m t ⟨ts,none⟩)) (he:∀ t ts e,Z1x (m t ⟨ts,some e⟩) e) :
 Agree (Z0g p k) (Z0n q m):=by
 cases p with
 | none=>trivial
 | some r =>
   cases r with
   | error e=>obtain ⟨t,ts,rfl⟩:=h; exact he t ts e
   | ok x=>obtain ⟨t,ts⟩:=x; obtain ⟨rfl,hg⟩:=h; exact hk t ts hg
theorem Agree.want {s:ByteArray} {ts:List Tok} {k:List Tok→PR} {m:RS→RR} (hg:Z0c ts) (hk:Z0c ts.tail→Agree (k ts.tail) (m ⟨ts.tail,none⟩)) (he:∀ ts e,Z1x (m ⟨ts,some e⟩) e) :
 Agree (Z1e s ts k) (m (Z0z s ⟨ts,none⟩)):=by
 unfold Z1e Z0z;by_cases h:isT s ts=true;·simp only [h,Option.isNone_none,if_true]; exact hk hg.tail
 ·simp only [h,Option.isNone_none,if_true]; exact he _ _
theorem Agree.name {ts:List Tok} {k:ByteArray→List Tok→PR} {m:ByteArray→RS→RR} (hg:Z0c ts) (hk:∀ s,Z0c ts.tail→Agree (k s ts.tail) (m s ⟨ts.tail,none⟩)) (he:∀ s ts e,Z1x (m s ⟨ts,some e⟩) e) :
 Agree (Z3f ts k) (m (Zw ⟨ts,none⟩).1 (Zw ⟨ts,none⟩).2):=by
 unfold Z3f Zw;by_cases h:(hdT ts).kind=1;·simp only [h,Option.isNone_none,if_true]; exact hk _ hg.tail
 ·simp only [h,Option.isNone_none,if_true,if_false]; exact he _ _ _
theorem Agree.ite {c:Prop} [Decidable c] {c':Bool} {p1 p2:PR} {q1 q2:RR} (h:c↔c'=true) (h1:c→Agree p1 q1) (h2:¬ c→Agree p2 q2):Agree (if c then p1 else p2) (if c'=true then q1 else q2):=by
 by_cases hc:c;·rw [Yb hc,Yb (h.1 hc)]; exact h1 hc
 ·rw [Y9 hc,Y9 (fun e=>hc (h.2 e))]; exact h2 hc
theorem Agree.within {d:Nat} {ts:List Tok} {p:PR} {q:RR} {t:Tree} (h:d + 1≤30→Agree p q):Agree (Z18 d ts p) (if 30 < d + 1 then some (t,Z39 4 ⟨ts,none⟩) else q):=by
 unfold Z18;by_cases hd:30 < d + 1;·rw [Yb hd,Yb hd]; exact Agree.fail
 ·rw [Y9 hd,Y9 hd]; exact h (by omega)
theorem Z16 (s:ByteArray) (ts:List Tok):Zl s ⟨ts,none⟩=isT s ts:=by simp [Zl]
theorem Z88 {text:ByteArray} {j k:Nat} {t:Tok} (h:Z1f text j=.ok (t,k)):t.kind≠6∧(t.kind=2→Z2u t.text=true)∧(t.kind=5→t.text=text.extract j (j + Z0a text j)∧Z13 (Zc text j)=false):=by
 unfold Z1f at h;simp only at h;split at h
 ·rename_i hl;split at h
  ·rename_i hw;simp only [Except.ok.injEq,Prod.mk.injEq] at h;obtain ⟨rfl,_⟩:=h;exact ⟨by simp,fun _=>hw,(fun h=>by simp at h)⟩
  ·split at h;·cases h
   ·simp only [Except.ok.injEq,Prod.mk.injEq] at h;obtain ⟨rfl,_⟩:=h;exact ⟨by simp,(fun h=>by simp at h),(fun h=>by simp at h)⟩
 ·rename_i hl;split at h
  ·split at h;·cases h
   ·split at h;·cases h
    ·simp only [Except.ok.injEq,Prod.mk.injEq] at h;obtain ⟨rfl,_⟩:=h;exact ⟨by simp,(fun h=>by simp at h),(fun h=>by simp at h)⟩
  ·split at h
   ·split at h;·cases h
    ·split at h;·cases h
     ·simp only [Except.ok.injEq,Prod.mk.injEq] at h;obtain ⟨rfl,_⟩:=h;exact ⟨by simp,(fun h=>by simp at h),(fun h=>by simp at h)⟩
   ·split at h;·cases h
    ·simp only [Except.ok.injEq,Prod.mk.injEq] at h;obtain ⟨rfl,_⟩:=h;exact ⟨by simp,(fun h=>by simp at h),fun _=>⟨rfl,by simpa using hl⟩⟩
theorem Zhi {s:ByteArray} (h:Z2u s=true):Z37 s=0:=by
 refine Decidable.byContradiction fun hs=>?_;have key:s=s_or∨s=Z5n∨s=Z3h∨s=Z4i∨s=Z51∨s=Z5p∨s=Z6o:=by
  unfold Z37 Z15 at hs;simp only [decide_eq_true_eq] at hs;by_cases h1:s=s_or;·exact .inl h1
  by_cases h2:s=Z5n;·exact .inr (.inl h2)
  by_cases h3:s=Z3h;·exact .inr (.inr (.inl h3))
  by_cases h4:s=Z4i;·exact .inr (.inr (.inr (.inl h4)))
  by_cases h5:s=Z51;·exact .inr (.inr (.inr (.inr (.inl h5))))
  by_cases h6:s=Z5p;·exact .inr (.inr (.inr (.inr (.inr (.inl h6)))))
  by_cases h7:s=Z6o;·exact .inr (.inr (.inr (.inr (.inr (.inr h7)))))
  simp [h1,h2,h3,h4,h5,h6,h7] at hs
 have no:∀ x,Z2u x=false→s=x→False:=fun x h1 h2=>by rw [h2,h1] at h; cases h
 rcases key with e | e | e | e | e | e | e;all_goals exact no _ (by kernel_rfl) e
theorem Zb0 {s:ByteArray} (h:Z2z s≠0):Z13 (Zc s 0)=true∧0 < s.size:=by
 unfold Z2z at h;by_cases h1:Z15 s Z45=true
 ·have : s = Z45 := by simpa [Z15] using h1
  subst this; exact ⟨by kernel_rfl,by decide⟩
 by_cases h2:Z15 s Z36=true
 ·have : s = Z36 := by simpa [Z15] using h2
  subst this; exact ⟨by kernel_rfl,by decide⟩
 by_cases h3:Z15 s Z4q=true
 ·have : s = Z4q := by simpa [Z15] using h3
  subst this; exact ⟨by kernel_rfl,by decide⟩
 by_cases h4:Z15 s Z1o=true
 ·have : s = Z1o := by simpa [Z15] using h4
  subst this; exact ⟨by kernel_rfl,by decide⟩
 simp [h1,h2,h3,h4] at h
theorem Zeg {text:ByteArray} {j k:Nat} {t:Tok} (hj:j < text.size) (h:Z1f text j=.ok (t,k)):Zkt t:=by
 obtain ⟨_,h2,h5⟩:=Z88 h;refine ⟨fun hk=>Zhi (h2 hk),fun hk=>?_⟩;obtain ⟨ht,hl⟩:=h5 hk;refine Decidable.byContradiction fun hc=>?_;obtain ⟨hb,hs⟩:=Zb0 hc;have hsz:0 < Z0a text j:=by
  unfold Z0a;split;·omega
  ·split;·omega
   ·split <;> omega
 have hp:Zc t.text 0=Zc text j:=by
  rw [ht];have hle:(text.extract j (j + Z0a text j)).size≤Z0a text j:=by rw [ByteArray.size_extract]; omega
  by_cases hk:j + Z0a text j≤text.size;·rw [Z05 text (by omega) hk]; rfl
  ·have e:text.extract j (j + Z0a text j)=text.extract j text.size:=by
    apply ByteArray.ext;simp only [ByteArray.data_extract];apply Array.ext
    ·simp only [Array.size_extract];have:text.size=text.data.size:=rfl;omega
    ·intro i h1 h2; simp only [Array.getElem_extract]
   rw [e,Z05 text (by omega) (Y5 _)]; rfl
 rw [hp,hl] at hb;cases hb
theorem Z73 {text:ByteArray}:∀ (r:List Tok) (i:Nat),i≤text.size→Z6x text i r→(∃ l e,r=l ++ [e]∧e.kind=6∧∀ t∈l,t.kind≠6)∧r.length + i≤text.size + 1∧Z0c r:=by
 intro r;induction r with
 | nil=>intro i _ h; exact h.elim
 | cons t r ih =>
   intro i hi h;cases r with
   | nil =>
     obtain ⟨h1,h2⟩:=h;refine ⟨⟨[],t,rfl,by rw [h2],fun t ht=>by cases ht⟩,by simp; omega,fun x hx=>?_⟩;simp only [List.mem_singleton] at hx;subst hx;rw [h2];exact ⟨fun h=>by simp at h,fun h=>by simp at h⟩
   | cons u r =>
     obtain ⟨k,h1,h2,h3⟩:=h;obtain ⟨c1,c2,_⟩:=Z2j text h1 h2;obtain ⟨s1,_,_,_⟩:=Z12 Z0x text (text.size - i) i (Y5 _) hi;obtain ⟨⟨l,e,h4,h5,h6⟩,h7,h8⟩:=ih k c2 h3;refine ⟨⟨t :: l,e,by rw [h4]; rfl,h5,fun x hx=>?_⟩,?_,fun x hx=>?_⟩
     ·rcases List.mem_cons.1 hx with rfl | hx;·exact (Z88 h2).1
      ·exact h6 x hx
     ·simp only [List.length_cons] at h7 ⊢; omega
     ·rcases List.mem_cons.1 hx with rfl | hx;·exact Zeg h1 h2
      ·exact h8 x hx
def Z3r (s:ByteArray):Prop:=1≤s.size∧s.size≤20∧Z13 (Zc s 0)=true∧(∀ i,i < s.size→Z2r (Zc s i)=true)∧Z2u s=false
def MAr (k:Int) (s:ByteArray) (l:List Tree):Prop:=k≠1∧(k=23→Z3r s∧l=[])
theorem MAr.any {k:Int} {s:ByteArray} {l:List Tree} (h:k≠1∧k≠23):MAr k s l:=⟨h.1,fun h'=>absurd h' h.2⟩
mutual
def MT:Tree→Prop
 | .mk k s _ l=>MAr k s l∧MTL l
def MTL:List Tree→Prop
 | []=>True
 | t :: l=>MT t∧MTL l
end
theorem MT.kids {t:Tree} (h:MT t):MTL t.kids:=by cases t; exact h.2
theorem MT.leaf {k:Int} {s:ByteArray} {n:Int} (h:k≠1∧k≠23):MT (.mk k s n []):=⟨MAr.any h,trivial⟩
theorem MT.nm {s:ByteArray} {n:Int} (h:Z3r s):MT (.mk 23 s n []):=⟨⟨by omega,fun _=>⟨h,rfl⟩⟩,trivial⟩
def GTn (ts:List Tok):Prop:=∀ t∈ts,t.kind=1→Z3r t.text
theorem GTn.tail {ts:List Tok} (h:GTn ts):GTn ts.tail:=fun t ht=>h t (List.mem_of_mem_tail ht)
theorem GTn.hd {ts:List Tok} (h:GTn ts) (hk:(hdT ts).kind=1):Z3r (hdT ts).text:=by
 cases ts with
 | nil=>simp [hdT] at hk
 | cons t l=>exact h t (by simp) hk
def Mh (P:Tree→Prop) (p:PR):Prop:=∀ t ts,p=some (.ok (t,ts))→P t∧GTn ts
theorem Mh.fail {P:Tree→Prop} {e:Int} {ts:List Tok}:Mh P (Z2t e ts):=by intro t ts' h; cases h
theorem Mh.none {P:Tree→Prop}:Mh P none:=by intro t ts' h; cases h
theorem Mh.err {P:Tree→Prop} {e:Int×Nat}:Mh P (some (.error e)):=by intro t ts' h; cases h
theorem Mh.ok {P:Tree→Prop} {t:Tree} {ts:List Tok} (h:P t) (g:GTn ts:=by first | assumption | exact GTn.tail (by assumption) | exact GTn.tail (GTn.tail (by assumption))):Mh P (okT t ts):=by
 intro t' ts' h';simp only [okT,Option.some.injEq,Except.ok.injEq,Prod.mk.injEq] at h';rw [← h'.1,← h'.2]; exact ⟨h,g⟩
theorem Mh.bind {P Q:Tree→Prop} {p:PR} {k:Tree→List Tok→PR} (hp:Mh P p) (hk:∀ t ts,P t→GTn ts→Mh Q (k t ts)):Mh Q (Z0g p k):=by
 cases p with
 | none=>exact Mh.none
 | some r =>
   cases r with
   | error e=>exact Mh.err
   | ok x=>obtain ⟨t,ts⟩:=x; exact hk t ts (hp t ts rfl).1 (hp t ts rfl).2
theorem Mh.want {P:Tree→Prop} {s:ByteArray} {ts:List Tok} {k:List Tok→PR} (hk:GTn ts.tail→Mh P (k ts.tail)) (g:GTn ts:=by first | assumption | exact GTn.tail (by assumption) | exact GTn.tail (GTn.tail (by assumption))):Mh P (Z1e s ts k):=by
 unfold Z1e;by_cases h:isT s ts=true;·rw [Yb h]; exact hk g.tail
 ·rw [Y9 h]; exact Mh.fail
theorem Mh.name {P:Tree→Prop} {ts:List Tok} {k:ByteArray→List Tok→PR} (hk:∀ s,Z3r s→GTn ts.tail→Mh P (k s ts.tail)) (g:GTn ts:=by first | assumption | exact GTn.tail (by assumption) | exact GTn.tail (GTn.tail (by assumption))):Mh P (Z3f ts k):=by
 unfold Z3f;by_cases h:(hdT ts).kind=1;·rw [Yb h]; exact hk _ (g.hd h) g.tail
 ·rw [Y9 h]; exact Mh.fail
theorem Mh.within {P:Tree→Prop} {d:Nat} {ts:List Tok} {p:PR} (h:Mh P p):Mh P (Z18 d ts p):=by
 unfold Z18;by_cases h':30 < d + 1;·rw [Yb h']; exact Mh.fail
 ·rw [Y9 h']; exact h
theorem Mh.ite {P:Tree→Prop} {c:Prop} [Decidable c] {p q:PR} (hp:c→Mh P p) (hq:¬ c→Mh P q):Mh P (if c then p else q):=by
 by_cases h:c;·rw [Yb h]; exact hp h
 ·rw [Y9 h]; exact hq h
theorem Mh.comma {P:Tree→Prop} {c:Prop} [Decidable c] {ts:List Tok} {k:List Tok→PR} (hk:∀ ts',GTn ts'→Mh P (k ts')) (g:GTn ts:=by first | assumption | exact GTn.tail (by assumption) | exact GTn.tail (GTn.tail (by assumption))):Mh P ((if c then Z1e Z1b ts else fun k=>k ts) k):=by
 by_cases h:c;·rw [Yb h]; exact Mh.want (hk _)
 ·rw [Y9 h]; exact hk _ g
theorem Mh.end' {P:Tree→Prop} {t:Tree} {ts:List Tok} (h:P t) (g:GTn ts:=by first | assumption | exact GTn.tail (by assumption) | exact GTn.tail (GTn.tail (by assumption))):Mh P (endT t ts):=Mh.want fun _=>Mh.ok h
theorem Mh.weak {P Q:Tree→Prop} {p:PR} (h:Mh P p) (g:∀ t,P t→Q t):Mh Q p:=fun t ts e=>⟨g t (h t ts e).1,(h t ts e).2⟩
theorem Zbw (lv:Nat) (ts:List Tok):Z2i lv ts=0∨(25≤Z2i lv ts∧Z2i lv ts≤31):=by
 unfold Z2i;split <;> (try split) <;> (try split) <;> omega
theorem Zba (ts:List Tok):Z3g ts=0∨(32≤Z3g ts∧Z3g ts≤34):=by
 unfold Z3g;split <;> (try split) <;> (try split) <;> omega
theorem Zbn (ts:List Tok):Z3t ts=0∨(19≤Z3t ts∧Z3t ts≤22):=by
 unfold Z3t;split <;> (try split) <;> (try split) <;> (try split) <;> omega
theorem Zjo {text:ByteArray} {j k:Nat} {t:Tok} (hj:j < text.size) (h:Z1f text j=.ok (t,k)):t.kind=1→Z3r t.text:=by
 intro h1;unfold Z1f at h;simp only at h;split at h
 ·rename_i hl;obtain ⟨K, hK⟩ : ∃ K, Z03 Z2r text (text.size - j) j = K := ⟨_, rfl⟩
  obtain ⟨s1,s2,s3,s4⟩:=Z12 Z2r text (text.size - j) j (Y5 _) (by omega);rw [hK] at h s1 s2 s3 s4;have hjK:j < K:=by
   rcases Nat.lt_or_ge j K with h' | h';·exact h'
   ·have:=s4 (by omega);rw [show K=j by omega,Z2s hl] at this;cases this
  split at h
  ·simp only [Except.ok.injEq,Prod.mk.injEq] at h;obtain ⟨rfl,_⟩:=h;simp at h1
  ·rename_i hw;split at h;·cases h
   ·simp only [Except.ok.injEq, Prod.mk.injEq] at h;obtain ⟨rfl, rfl⟩ := h;have hs := Z3n text (j := j) s2;refine ⟨by rw [hs]; omega, by rw [hs]; omega, ?_, fun i hi => ?_, by simpa using hw⟩;·rw [Z05 text (by omega) s2, Nat.add_zero]; exact hl
    ·rw [hs] at hi;rw [Z05 text hi s2];exact s3 _ (by omega) (by omega)
 ·exfalso;split at h
  ·split at h;·cases h
   ·split at h;·cases h
    ·simp only [Except.ok.injEq,Prod.mk.injEq] at h;obtain ⟨rfl,_⟩:=h;simp at h1
  ·split at h
   ·split at h;·cases h
    ·split at h;·cases h
     ·simp only [Except.ok.injEq,Prod.mk.injEq] at h;obtain ⟨rfl,_⟩:=h;simp at h1
   ·split at h;·cases h
    ·simp only [Except.ok.injEq,Prod.mk.injEq] at h;obtain ⟨rfl,_⟩:=h;simp at h1
inductive Srt | v | vl | ol | pl | b | k | s | sl
mutual
def dang:Tree→Bool
 | .mk k _ _ ks=>if k=7∧ks.length=2 then true else if k=7∨k=8∨k=9 then Zcc ks else false
def Zcc:List Tree→Bool
 | []=>false
 | x :: l=>if l.isEmpty then dang x else Zcc l
end
def strT (l:List Tree):ByteArray:=if Z1w l then Z1d else ByteArray.empty
inductive Wf:Srt→List Tree→Prop
 | num {n:Int}:0≤n→n≤1000000000→Wf .v [.mk 17 ByteArray.empty n []]
 | str {s:ByteArray}:s.size≤500→Wf .v [.mk 18 s 0 []]
 | con {k:Int}:19≤k→k≤22→Wf .v [.mk k ByteArray.empty 0 []]
 | name {s:ByteArray}:Z3r s→Wf .v [.mk 23 s 0 []]
 | set {x y:Tree}:x.kind=23∨x.kind=36→Wf .v [x]→Wf .v [y]→Wf .v [.mk 24 ByteArray.empty 0 [x,y]]
 | two {k:Int} {x y:Tree}:25≤k→k≤31→Wf .v [x]→Wf .v [y]→Wf .v [.mk k ByteArray.empty 0 [x,y]]
 | one {k:Int} {x:Tree}:32≤k→k≤34→Wf .v [x]→Wf .v [.mk k ByteArray.empty 0 [x]]
 | mem {s:ByteArray} {x:Tree}:Z3r s→Wf .v [x]→Wf .v [.mk 36 s 0 [x]]
 | call {x:Tree} {l:List Tree}:Wf .v [x]→Wf .vl l→Wf .v [.mk 35 ByteArray.empty 0 (x :: l)]
 | lam {s:ByteArray} {l:List Tree} {b:Tree}:s=ByteArray.empty∨Z3r s→Wf .pl l→Wf .b [b]→Wf .v [.mk 37 s 0 [.mk 40 ByteArray.empty 0 l,b]]
 | obj {l:List Tree}:Wf .ol l→Wf .v [.mk 38 ByteArray.empty 0 l]
 | vnil:Wf .vl []
 | vcons {x:Tree} {l:List Tree}:Wf .v [x]→Wf .vl l→Wf .vl (x :: l)
 | onil:Wf .ol []
 | ocons {s:ByteArray} {x:Tree} {l:List Tree}:Z3r s→Wf .v [x]→Wf .ol l→Wf .ol (.mk 39 s 0 [x] :: l)
 | pnil:Wf .pl []
 | pcons {s:ByteArray} {l:List Tree}:Z3r s→Wf .pl l→Wf .pl (.mk 23 s 0 [] :: l)
 | body {l:List Tree}:Wf .sl l→Wf .b [.mk 6 (strT l) 0 l]
 | block {l:List Tree}:Wf .sl l→Wf .k [.mk 6 ByteArray.empty 0 l]
 | decl0 {k:Int} {s:ByteArray}:k=2∨k=3→Z3r s→Wf .s [.mk k s 0 []]
 | decl1 {k:Int} {s:ByteArray} {x:Tree}:k=2∨k=3∨k=4→Z3r s→Wf .v [x]→Wf .s [.mk k s 0 [x]]
 | func {s:ByteArray} {l:List Tree} {b:Tree}:Z3r s→Wf .pl l→Wf .b [b]→Wf .s [.mk 5 s 0 [.mk 40 ByteArray.empty 0 l,b]]
 | blk {b:Tree}:Wf .k [b]→Wf .s [b]
 | if2 {x y:Tree}:Wf .v [x]→Wf .s [y]→Wf .s [.mk 7 ByteArray.empty 0 [x,y]]
 | if3 {x y z:Tree}:Wf .v [x]→Wf .s [y]→Wf .s [z]→dang y=false→Wf .s [.mk 7 ByteArray.empty 0 [x,y,z]]
 | loop {k:Int} {x y:Tree}:k=8∨k=9→Wf .v [x]→Wf .s [y]→Wf .s [.mk k ByteArray.empty 0 [x,y]]
 | ret0:Wf .s [.mk 10 ByteArray.empty 0 []]
 | ret1 {k:Int} {x:Tree}:k=10∨k=11→Wf .v [x]→Wf .s [.mk k ByteArray.empty 0 [x]]
 | tryc {s:ByteArray} {b c:Tree}:Wf .k [b]→Z3r s→Wf .k [c]→Wf .s [.mk 12 ByteArray.empty 0 [b,.mk 13 s 0 [c]]]
 | tryf {b c:Tree}:Wf .k [b]→Wf .k [c]→Wf .s [.mk 12 ByteArray.empty 0 [b,.mk 14 ByteArray.empty 0 [c]]]
 | trycf {s:ByteArray} {b c e:Tree}:Wf .k [b]→Z3r s→Wf .k [c]→Wf .k [e]→Wf .s [.mk 12 ByteArray.empty 0 [b,.mk 13 s 0 [c],.mk 14 ByteArray.empty 0 [e]]]
 | empty:Wf .s [.mk 16 ByteArray.empty 0 []]
 | expr {x:Tree}:Wf .v [x]→Wf .s [.mk 15 ByteArray.empty 0 [x]]
 | snil:Wf .sl []
 | scons {x:Tree} {l:List Tree}:Wf .s [x]→Wf .sl l→Wf .sl (x :: l)
theorem Wf.vapp {l:List Tree} {x:Tree} (h:Wf .vl l) (g:Wf .v [x]):Wf .vl (l ++ [x]):=by
 induction l with
 | nil=>exact .vcons g .vnil
 | cons y l ih=>cases h with | vcons h1 h2=>exact .vcons h1 (ih h2)
theorem Wf.oapp {l:List Tree} {s:ByteArray} {x:Tree} (h:Wf .ol l) (hs:Z3r s) (g:Wf .v [x]):Wf .ol (l ++ [.mk 39 s 0 [x]]):=by
 induction l with
 | nil=>exact .ocons hs g .onil
 | cons y l ih=>cases h with | ocons h1 h2 h3=>exact .ocons h1 h2 (ih h3)
theorem Wf.papp {l:List Tree} {s:ByteArray} (h:Wf .pl l) (hs:Z3r s):Wf .pl (l ++ [.mk 23 s 0 []]):=by
 induction l with
 | nil=>exact .pcons hs .pnil
 | cons y l ih=>cases h with | pcons h1 h2=>exact .pcons h1 (ih h2)
theorem Wf.sapp {l:List Tree} {x:Tree} (h:Wf .sl l) (g:Wf .s [x]):Wf .sl (l ++ [x]):=by
 induction l with
 | nil=>exact .scons g .snil
 | cons y l ih=>cases h with | scons h1 h2=>exact .scons h1 (ih h2)
def GW (ts:List Tok):Prop:=∀ t∈ts,(t.kind=1→Z3r t.text)∧(t.kind=3→0≤t.n∧t.n≤1000000000)∧(t.kind=4→t.text.size≤500)
theorem GW.tail {ts:List Tok} (h:GW ts):GW ts.tail:=fun t ht=>h t (List.mem_of_mem_tail ht)
theorem GW.hd {ts:List Tok} (h:GW ts):((hdT ts).kind=1→Z3r (hdT ts).text)∧((hdT ts).kind=3→0≤(hdT ts).n∧(hdT ts).n≤1000000000)∧((hdT ts).kind=4→(hdT ts).text.size≤500):=by
 cases ts with
 | nil=>refine ⟨fun hk=>?_,fun hk=>?_,fun hk=>?_⟩ <;> simp [hdT] at hk
 | cons t l=>exact h t (by simp)
def Wh (P:Tree→List Tok→Prop) (p:PR):Prop:=∀ t ts,p=some (.ok (t,ts))→P t ts∧GW ts
section
variable {P Q:Tree→List Tok→Prop}
theorem Wh.fail {e:Int} {ts:List Tok}:Wh P (Z2t e ts):=by intro t ts' h; cases h
theorem Wh.none:Wh P none:=by intro t ts' h; cases h
theorem Wh.err {e:Int×Nat}:Wh P (some (.error e)):=by intro t ts' h; cases h
theorem Wh.ok {t:Tree} {ts:List Tok} (h:P t ts) (g:GW ts:=by first | assumption | exact GW.tail (by assumption) | exact GW.tail (GW.tail (by assumption))):Wh P (okT t ts):=by
 intro t' ts' h';simp only [okT,Option.some.injEq,Except.ok.injEq,Prod.mk.injEq] at h';rw [← h'.1,← h'.2]; exact ⟨h,g⟩
theorem Wh.bind {p:PR} {k:Tree→List Tok→PR} (hp:Wh P p) (hk:∀ t ts,P t ts→GW ts→Wh Q (k t ts)):Wh Q (Z0g p k):=by
 cases p with
 | none=>exact Wh.none
 | some r =>
   cases r with
   | error e=>exact Wh.err
   | ok x=>obtain ⟨t,ts⟩:=x; exact hk t ts (hp t ts rfl).1 (hp t ts rfl).2
theorem Wh.want {s:ByteArray} {ts:List Tok} {k:List Tok→PR} (hk:GW ts.tail→Wh P (k ts.tail)) (g:GW ts:=by first | assumption | exact GW.tail (by assumption) | exact GW.tail (GW.tail (by assumption))):Wh P (Z1e s ts k):=by
 unfold Z1e;by_cases h:isT s ts=true;·rw [Yb h]; exact hk g.tail
 ·rw [Y9 h]; exact Wh.fail
theorem Wh.name {ts:List Tok} {k:ByteArray→List Tok→PR} (hk:∀ s,Z3r s→GW ts.tail→Wh P (k s ts.tail)) (g:GW ts:=by first | assumption | exact GW.tail (by assumption) | exact GW.tail (GW.tail (by assumption))):Wh P (Z3f ts k):=by
 unfold Z3f;by_cases h:(hdT ts).kind=1;·rw [Yb h]; exact hk _ (g.hd.1 h) g.tail
 ·rw [Y9 h]; exact Wh.fail
theorem Wh.within {d:Nat} {ts:List Tok} {p:PR} (h:Wh P p):Wh P (Z18 d ts p):=by
 unfold Z18;by_cases h':30 < d + 1;·rw [Yb h']; exact Wh.fail
 ·rw [Y9 h']; exact h
theorem Wh.ite {c:Prop} [Decidable c] {p q:PR} (hp:c→Wh P p) (hq:¬ c→Wh P q):Wh P (if c then p else q):=by
 by_cases h:c;·rw [Yb h]; exact hp h
 ·rw [Y9 h]; exact hq h
theorem Wh.comma {c:Prop} [Decidable c] {ts:List Tok} {k:List Tok→PR} (hk:∀ ts',GW ts'→Wh P (k ts')) (g:GW ts:=by first | assumption | exact GW.tail (by assumption) | exact GW.tail (GW.tail (by assumption))):Wh P ((if c then Z1e Z1b ts else fun k=>k ts) k):=by
 by_cases h:c;·rw [Yb h]; exact Wh.want (hk _)
 ·rw [Y9 h]; exact hk _ g
theorem Wh.end' {t:Tree} {ts:List Tok} (h:P t ts.tail) (g:GW ts:=by first | assumption | exact GW.tail (by assumption) | exact GW.tail (GW.tail (by assumption))):Wh P (endT t ts):=Wh.want fun _=>Wh.ok h
theorem Wh.weak {p:PR} (h:Wh P p) (g:∀ t ts,P t ts→Q t ts):Wh Q p:=fun t ts e=>⟨g t ts (h t ts e).1,(h t ts e).2⟩
end
def StW (t:Tree) (ts:List Tok):Prop:=Wf .s [t]∧(dang t=true→isT Z1y ts=false)
def Job.resW:Job→Tree→List Tok→Prop
 | .stmts kind _=>fun t _=>∃ l,Wf .sl l∧t=.mk kind (strT l) 0 l
 | .block body=>fun t _=>if body then Wf .b [t] else Wf .k [t]
 | .func kind _=>fun t _=>(kind=5→Wf .s [t]∧dang t=false)∧(kind=37→Wf .v [t])
 | .params _=>fun t _=>∃ l,Wf .pl l∧t=.mk 40 ByteArray.empty 0 l
 | .stmt=>StW
 | .decl _ _=>fun t _=>Wf .s [t]∧dang t=false
 | .try_=>fun t _=>Wf .s [t]∧dang t=false
 | _=>fun t _=>Wf .v [t]
def Job.goodW:Job→Prop
 | .stmts _ acc=>Wf .sl acc
 | .func kind s=>(kind=5∧Z3r s)∨(kind=37∧(s=ByteArray.empty∨Z3r s))
 | .params acc=>Wf .pl acc
 | .decl kind must=>(kind=2∨kind=3)∨(kind=4∧must=true)
 | .binLoop _ x=>Wf .v [x]
 | .postLoop x=>Wf .v [x]
 | .args acc=>∃ x l,acc=x :: l∧Wf .v [x]∧Wf .vl l
 | .object acc=>Wf .ol acc
 | _=>True
theorem Z4c {k:Int} {s:ByteArray} {n:Int} {l:List Tree} (h:k≠7∧k≠8∧k≠9):dang (.mk k s n l)=false:=by
 unfold dang;rw [Y9 (by omega),Y9 (by omega)]
theorem Zbd {x y:Tree}:Zcc [x,y]=dang y:=by
 rw [Zcc.eq_def]; simp only;rw [Y9 (by simp),Zcc.eq_def]; simp only;rw [Yb (by simp)]
theorem Zb4 {k:Int} {s:ByteArray} {n:Int} {x y:Tree} (h:k=8∨k=9):dang (.mk k s n [x,y])=dang y:=by
 rw [dang.eq_def (.mk k s n [x,y])]; simp only;rw [Y9 (by omega),Yb (by omega),Zbd]
theorem Zj6 {s:ByteArray} {n:Int} {x y z:Tree}:dang (.mk 7 s n [x,y,z])=dang z:=by
 rw [dang.eq_def (.mk 7 s n [x,y,z])];show (if (7:Int)=7∧[x,y,z].length=2 then true else if (7:Int)=7∨(7:Int)=8∨(7:Int)=9 then Zcc [x,y,z] else false)=dang z;rw [Y9 (by simp),Yb (.inl rfl),Zcc.eq_def]; simp only;rw [Y9 (by simp),Zbd]
theorem Zjr:∀ (f:Nat) (job:Job) (d:Nat) (ts:List Tok),job.goodW→GW ts→Wh job.resW (Z0 f job d ts):=by
 intro f;induction f with
 | zero=>intro job d ts _ _; unfold Z0; exact Wh.none
 | succ f ih0 =>
   intro job d ts hg g0;have ih:∀ (job:Job) (d:Nat) (ts:List Tok),job.goodW→∀ (g:GW ts:=by first | assumption | exact GW.tail (by assumption) | exact GW.tail (GW.tail (by assumption))),Wh job.resW (Z0 f job d ts):=fun job d ts h g=>ih0 job d ts h g;have kk:∀ {t:Tree},Wf .k [t]→Wf .s [t]∧dang t=false:=fun h=>⟨.blk h,by cases h; exact Z4c (by omega)⟩;cases job with
   | stmts kind acc =>
     unfold Z0;refine Wh.ite (fun _=>Wh.ok ⟨acc,hg,rfl⟩) fun _=>?_;exact Wh.bind (Wh.within (ih .stmt _ _ trivial)) fun t ts' h _=>(ih (.stmts kind (acc ++ [t])) _ _ (Wf.sapp hg h.1))
   | block body =>
     unfold Z0;refine Wh.want (fun _=>Wh.bind (ih (.stmts 6 []) _ _ .snil) fun t ts' h' _=>Wh.want (fun _=>Wh.ok ?_));obtain ⟨l,h1,rfl⟩:=h';cases body with
     | true=>exact .body h1
     | false=>exact .block h1
   | func kind text =>
     unfold Z0;refine Wh.want (fun _=>Wh.bind (ih (.params []) _ _ .pnil) fun t ts' h' _=>Wh.want (fun _=>Wh.bind (ih (.block true) _ _ trivial) fun t ts' h3 _=>Wh.ok ?_));obtain ⟨l,h1,rfl⟩:=h';refine ⟨fun hk=>?_,fun hk=>?_⟩
     ·subst hk;rcases hg with ⟨_, hg⟩ | ⟨hg, _⟩;·exact ⟨.func hg h1 h3, Z4c (by omega)⟩
      ·cases hg
     ·subst hk;rcases hg with ⟨hg, _⟩ | ⟨_, hg⟩;·cases hg
      ·exact .lam hg h1 h3
   | params acc =>
     unfold Z0;refine Wh.ite (fun _=>Wh.ok ⟨acc,hg,rfl⟩) fun _=>?_;exact Wh.comma fun ts' _=>Wh.ite (fun _=>Wh.fail) fun _=>Wh.name fun s hs _=>ih (.params (acc ++ [Tree.mk 23 s 0 []])) _ _ (Wf.papp hg hs)
   | around =>
     unfold Z0;exact Wh.want (fun _=>Wh.bind (ih .value _ _ trivial) fun t ts' h' _=>Wh.want (fun _=>Wh.ok h'))
   | stmt =>
     unfold Z0;show Wh StW _;have nd:∀ {t:Tree} {ts:List Tok},Wf .s [t]∧dang t=false→StW t ts:=fun h=>⟨h.1,fun e=>by rw [h.2] at e; cases e⟩;refine Wh.ite (fun h=>(ih (.block false) _ _ trivial).weak fun _ _ h=>nd (kk h)) fun _=>?_;refine Wh.ite (fun h=>Wh.ok (nd ⟨.empty,Z4c (by omega)⟩)) fun _=>?_;refine Wh.ite (fun h=>Wh.bind (ih (.decl 2 false) _ _ (.inl (.inl rfl))) fun t us h2 _=>Wh.end' (nd h2)) fun _=>?_;refine Wh.ite (fun h=>Wh.bind (ih (.decl 3 false) _ _ (.inl (.inr rfl))) fun t us h2 _=>Wh.end' (nd h2)) fun _=>?_
     refine Wh.ite (fun h=>Wh.bind (ih (.decl 4 true) _ _ (.inr ⟨rfl,rfl⟩)) fun t us h2 _=>Wh.end' (nd h2)) fun _=>?_;refine Wh.ite (fun h=>Wh.name fun s hs _=>(ih (.func 5 s) _ _ (.inl ⟨rfl,hs⟩)).weak fun _ _ h=>nd (h.1 rfl)) fun _=>?_;refine Wh.ite (fun h=>Wh.bind (ih .around _ _ trivial) fun x us h2 _=>Wh.bind (Wh.within (ih .stmt _ _ trivial)) fun y vs h3 _=>Wh.ite (fun h4=>Wh.bind (Wh.within (ih .stmt _ _ trivial)) fun z xs h5 _=>Wh.ok ?_) fun h4=>Wh.ok ?_) fun _=>?_
     ·refine ⟨.if3 h2 h3.1 h5.1 ?_, by rw [Zj6]; exact h5.2⟩;cases hd : dang y with
      | false=>rfl
      | true=>rw [h3.2 hd] at h4; cases h4
     ·exact ⟨.if2 h2 h3.1,fun _=>by simpa using h4⟩
     refine Wh.ite (fun h=>Wh.bind (ih .around _ _ trivial) fun t us h2 _=>Wh.bind (Wh.within (ih .stmt _ _ trivial)) fun t vs h3 _=>Wh.ok ⟨.loop (.inl rfl) h2 h3.1,by rw [Zb4 (.inl rfl)]; exact h3.2⟩) fun _=>?_;refine Wh.ite (fun h=>Wh.bind (ih .around _ _ trivial) fun t us h2 _=>Wh.bind (Wh.within (ih .stmt _ _ trivial)) fun t vs h3 _=>Wh.ok ⟨.loop (.inr rfl) h2 h3.1,by rw [Zb4 (.inr rfl)]; exact h3.2⟩) fun _=>?_
     refine Wh.ite (fun h=>Wh.ite (fun h1=>Wh.end' (nd ⟨.ret0,Z4c (by omega)⟩)) (fun _=>Wh.bind (ih .value _ _ trivial) fun t us h2 _=>Wh.end' (nd ⟨.ret1 (.inl rfl) h2,Z4c (by omega)⟩))) fun _=>?_;refine Wh.ite (fun h=>Wh.bind (ih .value _ _ trivial) fun t us h2 _=>Wh.end' (nd ⟨.ret1 (.inr rfl) h2,Z4c (by omega)⟩)) fun _=>?_;refine Wh.ite (fun h=>(ih .try_ _ _ trivial).weak fun _ _ h=>nd h) fun _=>?_;exact Wh.bind (ih .value _ _ trivial) fun t us h2 _=>Wh.end' (nd ⟨.expr h2,Z4c (by omega)⟩)
   | decl kind must =>
     have hk:(kind=2∨kind=3)∨(kind=4∧must=true):=hg;unfold Z0;refine Wh.name fun s hs _=>Wh.ite (fun _=>Wh.fail) fun hm=>Wh.ite (fun h2=>Wh.bind (ih .value _ _ trivial) fun t us h3 _=>Wh.ok ?_) fun hn=>Wh.ok ?_;·exact ⟨.decl1 (by omega) hs h3,Z4c (by omega)⟩
     ·refine ⟨.decl0 ?_ hs, Z4c (by omega)⟩;rcases hk with h | ⟨h, hmu⟩;·exact h
      ·subst hmu;simp [hn] at hm
   | try_ =>
     unfold Z0;refine Wh.bind (ih (.block false) _ _ trivial) fun b us h _=>?_;replace h:Wf .k [b]:=h
     refine Wh.ite (fun h1=>?_) fun _=>?_
     ·refine Wh.want (fun _=>Wh.name fun s hs _=>Wh.want (fun _=>Wh.bind (ih (.block false) _ _ trivial) fun c vs h5 _=>?_));exact Wh.ite (fun _=>Wh.bind (ih (.block false) _ _ trivial) fun t xs h3 _=>Wh.ok ⟨.trycf h hs h5 h3,Z4c (by omega)⟩) fun _=>Wh.ite (fun _=>Wh.fail) fun _=>Wh.ok ⟨.tryc h hs h5,Z4c (by omega)⟩
     ·exact Wh.ite (fun _=>Wh.bind (ih (.block false) _ _ trivial) fun t xs h3 _=>Wh.ok ⟨.tryf h h3,Z4c (by omega)⟩) fun _=>Wh.ite (fun _=>Wh.fail) fun h=>absurd rfl h
   | value=>unfold Z0; exact Wh.within (ih .assign _ _ trivial)
   | assign =>
     unfold Z0;exact Wh.bind (ih (.bin 0) _ _ trivial) fun x us h _=>Wh.ite (fun h1=>Wh.ite (fun hk=>Wh.bind (ih .value _ _ trivial) fun y vs h2 _=>Wh.ok (.set hk h h2)) fun _=>Wh.err) fun _=>Wh.ok h
   | bin level =>
     unfold Z0;exact Wh.ite (fun _=>ih .unary _ _ trivial) fun _=>Wh.bind (ih (.bin (level + 1)) _ _ trivial) fun x us h _=>ih (.binLoop level x) _ _ h
   | binLoop level x =>
     unfold Z0;exact Wh.ite (fun _=>Wh.ok hg) fun h0=>Wh.bind (ih (.bin (level + 1)) _ _ trivial) fun y us h _=>ih (.binLoop level (.mk (Z2i level ts) ByteArray.empty 0 [x,y])) _ _ (.two (by have:=Zbw level ts; omega) (by have:=Zbw level ts; omega) hg h)
   | unary =>
     unfold Z0;exact Wh.ite (fun _=>ih .postfix_ _ _ trivial) fun h0=>Wh.bind (Wh.within (ih .unary _ _ trivial)) fun x us h _=>Wh.ok (.one (by have:=Zba ts; omega) (by have:=Zba ts; omega) h)
   | postfix_ =>
     unfold Z0;exact Wh.bind (ih .primary _ _ trivial) fun x us h _=>ih (.postLoop x) _ _ h
   | postLoop x =>
     unfold Z0;exact Wh.ite (fun _=>Wh.name fun s hs _=>ih (.postLoop (.mk 36 s 0 [x])) _ _ (.mem hs hg)) fun _=>Wh.ite (fun _=>Wh.bind (ih (.args [x]) _ _ ⟨x,[],rfl,hg,.vnil⟩) fun n us h _=>ih (.postLoop n) _ _ h) fun _=>Wh.ok hg
   | args acc =>
     unfold Z0;obtain ⟨x,l,rfl,hx,hl⟩:=hg;refine Wh.ite (fun _=>Wh.ok (.call hx hl)) fun _=>?_;exact Wh.comma fun ts' _=>Wh.ite (fun _=>Wh.fail) fun _=>Wh.bind (ih .value _ _ trivial) fun v us h _=>ih (.args (x :: l ++ [v])) _ _ ⟨x,l ++ [v],rfl,hx,Wf.vapp hl h⟩
   | primary =>
     unfold Z0;obtain ⟨g1,g2,g3⟩:=g0.hd;refine Wh.ite (fun h=>Wh.ok (.name (g1 h))) fun _=>?_;refine Wh.ite (fun h=>Wh.ok (.num (g2 h).1 (g2 h).2)) fun _=>?_;refine Wh.ite (fun h=>Wh.ok (.str (g3 h))) fun _=>?_;refine Wh.ite (fun h=>Wh.ok (.con (by have:=Zbn ts; omega) (by have:=Zbn ts; omega))) fun _=>?_;refine Wh.ite (fun h=>ih .around _ _ trivial) fun _=>?_
     refine Wh.ite (fun h=>Wh.ite (fun hk=>(ih (.func 37 (hdT ts.tail).text) _ _ (.inr ⟨rfl,.inr (g0.tail.hd.1 hk)⟩)).weak fun _ _ h=>h.2 rfl) fun _=>(ih (.func 37 ByteArray.empty) _ _ (.inr ⟨rfl,.inl rfl⟩)).weak fun _ _ h=>h.2 rfl) fun _=>?_;exact Wh.ite (fun h=>ih (.object []) _ _ .onil) fun _=>Wh.fail
   | object acc =>
     unfold Z0;refine Wh.ite (fun _=>Wh.ok (.obj hg)) fun _=>?_;exact Wh.comma fun ts' _=>Wh.ite (fun _=>Wh.fail) fun _=>Wh.name fun s hs _=>Wh.want (fun _=>Wh.bind (ih .value _ _ trivial) fun v us h _=>ih (.object (acc ++ [Tree.mk 39 s 0 [v]])) _ _ (Wf.oapp hg hs h))
theorem Zky {text:ByteArray} {k:Nat}:∀ (f i:Nat) (n:Int),(∀ m,i≤m→m < k→Z0q (Zc text m)=true)→0≤n→0≤numF text k f i n:=by
 intro f;induction f with
 | zero=>intro i n _ h; exact h
 | succ f ih =>
   intro i n hd h;simp only [numF];by_cases hi:i < k
   ·rw [Yb hi];have:=hd i (Y5 _) hi;simp only [Z0q,Bool.and_eq_true,decide_eq_true_eq] at this;exact ih _ _ (fun m h1 h2=>hd m (by omega) h2) (by omega)
   ·rw [Y9 hi]; exact h
theorem Zcy {text:ByteArray}:∀ (f i:Nat) (acc bs:List UInt8) (k:Nat),Z0o text f i acc=(bs,0,k)→bs.length≤500:=by
 intro f;induction f with
 | zero=>intro i acc bs k h; simp [Z0o] at h
 | succ f ih =>
   intro i acc bs k h;simp only [Z0o] at h;by_cases h1:text.size≤i∨Zc text i=10;·rw [Yb h1] at h; simp at h
   rw [Y9 h1] at h;by_cases h2:Zc text i=39
   ·rw [Yb h2] at h;by_cases h3 : 500 < acc.length;·rw [Yb h3] at h; simp at h
    rw [Y9 h3] at h;simp only [Prod.mk.injEq,true_and] at h;obtain ⟨rfl,_⟩:=h;omega
   rw [Y9 h2] at h;by_cases h3:Zc text i=92
   ·rw [Yb h3] at h;by_cases h4 : i + 1 < text.size
    ·rw [Yb h4] at h;cases he : Z69 (Zc text (i + 1)) with
     | none=>rw [he] at h; simp at h
     | some e=>rw [he] at h; exact ih _ _ _ _ h
    ·rw [Y9 h4] at h; simp at h
   ·rw [Y9 h3] at h;exact ih _ _ _ _ h
theorem Zjx {text:ByteArray} {j k:Nat} {t:Tok} (hj:j < text.size) (h:Z1f text j=.ok (t,k)):(t.kind=1→Z3r t.text)∧(t.kind=3→0≤t.n∧t.n≤1000000000)∧(t.kind=4→t.text.size≤500):=by
 refine ⟨Zjo hj h,fun hk=>?_,fun hk=>?_⟩
 ·unfold Z1f at h;simp only at h;split at h
  ·split at h;·simp only [Except.ok.injEq, Prod.mk.injEq] at h; obtain ⟨rfl, _⟩ := h; simp at hk
   ·split at h;·cases h
    ·simp only [Except.ok.injEq,Prod.mk.injEq] at h; obtain ⟨rfl,_⟩:=h; simp at hk
  ·split at h
   ·split at h;·cases h
    ·split at h;·cases h
     ·simp only [Except.ok.injEq,Prod.mk.injEq] at h;obtain ⟨rfl,_⟩:=h;obtain ⟨s1,s2,s3,s4⟩:=Z12 Z0q text (text.size - j) j (Y5 _) (by omega);exact ⟨Zky _ _ _ s3 (by omega),by simp only; omega⟩
   ·split at h
    ·split at h;·cases h
     ·split at h;·cases h
      ·simp only [Except.ok.injEq,Prod.mk.injEq] at h; obtain ⟨rfl,_⟩:=h; simp at hk
    ·split at h;·cases h
     ·simp only [Except.ok.injEq,Prod.mk.injEq] at h; obtain ⟨rfl,_⟩:=h; simp at hk
 ·unfold Z1f at h;simp only at h;split at h
  ·split at h;·simp only [Except.ok.injEq, Prod.mk.injEq] at h; obtain ⟨rfl, _⟩ := h; simp at hk
   ·split at h;·cases h
    ·simp only [Except.ok.injEq,Prod.mk.injEq] at h; obtain ⟨rfl,_⟩:=h; simp at hk
  ·split at h
   ·split at h;·cases h
    ·split at h;·cases h
     ·simp only [Except.ok.injEq,Prod.mk.injEq] at h; obtain ⟨rfl,_⟩:=h; simp at hk
   ·split at h
    ·obtain ⟨⟨bs, e, K⟩, hR⟩ : ∃ R, R = Z0y text (j + 1) := ⟨_, rfl⟩
     rw [← hR] at h;simp only at h;split at h;·cases h
     ·split at h;·cases h
      ·rename_i h0;simp only [ne_eq,Decidable.not_not] at h0;subst h0;simp only [Except.ok.injEq,Prod.mk.injEq] at h;obtain ⟨rfl,_⟩:=h;have:=Zcy _ _ _ _ _ hR.symm;exact this
    ·split at h;·cases h
     ·simp only [Except.ok.injEq,Prod.mk.injEq] at h; obtain ⟨rfl,_⟩:=h; simp at hk
theorem Zif {text:ByteArray}:∀ (r:List Tok) (i:Nat),i≤text.size→Z6x text i r→GW r:=by
 intro r;induction r with
 | nil=>intro i _ h; exact h.elim
 | cons t r ih =>
   intro i hi h;cases r with
   | nil =>
     obtain ⟨h1,h2⟩:=h;intro x hx;simp only [List.mem_singleton] at hx;subst hx;rw [h2];refine ⟨fun h=>?_,fun h=>?_,fun h=>?_⟩ <;> simp at h
   | cons u r =>
     obtain ⟨k,h1,h2,h3⟩:=h;obtain ⟨c1,c2,_⟩:=Z2j text h1 h2;intro x hx;rcases List.mem_cons.1 hx with rfl | hx;·exact Zjx h1 h2
     ·exact ih k c2 h3 x hx
theorem Z9i {text:ByteArray} {t:Tree} (h:Z1p text=.ok t):∃ l,Wf .sl l∧t=.mk 1 (strT l) 0 l∧t.many≤1500:=by
 unfold Z1p at h;split at h;·cases h
 ·split at h;·cases h
  ·rename_i ts _;split at h;·cases h
   ·cases h
   ·rename_i t' ts' hp;split at h;·cases h
    ·have e : t' = t := by simpa using h
     subst e;obtain ⟨⟨l,h1,h2⟩,_⟩:=Zjr _ _ _ _ (show Job.goodW (.stmts 1 []) from .snil) (Zif _ _ (Yp _) (Z68 (by assumption))) _ _ hp;exact ⟨l,h1,h2,by omega⟩
structure Win (T b:ByteArray) (o:Nat):Prop where
 size:o + b.size≤T.size
 get:∀ i,i < b.size→T.data.getD (o + i) 0=b.data.getD i 0
 stop:o + b.size < T.size→Z0x (Zc T (o + b.size))=true
theorem Win.byte {T b:ByteArray} {o:Nat} (h:Win T b o) {i:Nat} (hi:i < b.size):Zc T (o + i)=Zc b i:=by
 unfold Zc;rw [h.get i hi]
theorem Win.past {T b:ByteArray} {o:Nat} (h:Win T b o):Zc T (o + b.size)=0∨Zc T (o + b.size)=32∨Zc T (o + b.size)=10:=by
 rcases Nat.lt_or_ge (o + b.size) T.size with h1 | h1
 ·have:=h.stop h1;simp only [Z0x,Bool.or_eq_true,decide_eq_true_eq] at this;exact .inr this
 ·exact .inl (Z4n h1)
theorem Win.span {T b:ByteArray} {o:Nat} (h:Win T b o) (p:Int→Bool) (hp:∀ c,Z0x c=true→p c=false) {i:Nat} (hi:i≤b.size) :
 Z03 p T (T.size - (o + i)) (o + i)=o + Z03 p b (b.size - i) i:=by
 obtain ⟨s1,s2,s3,s4⟩:=Z12 p b (b.size - i) i (Y5 _) hi;have hs:=h.size;refine Z3j p T _ _ _ (Y5 _) (by omega) (by omega) (fun m h1 h2=>?_) fun h1=>?_
 ·have e:=h.byte (i:=m - o) (by omega);rw [show o + (m - o)=m by omega] at e;rw [e];exact s3 _ (by omega) (by omega)
 ·rcases Nat.lt_or_ge (Z03 p b (b.size - i) i) b.size with h2 | h2
  ·rw [h.byte h2];exact s4 h2
  ·have e : Z03 p b (b.size - i) i = b.size := by omega
   rw [e] at h1 ⊢;exact hp _ (h.stop h1)
theorem Win.blank {T b:ByteArray} {o:Nat} (h:Win T b o) {i:Nat} (hi:i≤b.size) (hk:Z03 Z0x b (b.size - i) i < b.size) :
 Z03 Z0x T (T.size - (o + i)) (o + i)=o + Z03 Z0x b (b.size - i) i:=by
 obtain ⟨s1,s2,s3,s4⟩:=Z12 Z0x b (b.size - i) i (Y5 _) hi;have hs:=h.size;refine Z3j Z0x T _ _ _ (Y5 _) (by omega) (by omega) (fun m h1 h2=>?_) fun h1=>?_
 ·have e:=h.byte (i:=m - o) (by omega);rw [show o + (m - o)=m by omega] at e;rw [e];exact s3 _ (by omega) (by omega)
 ·rw [h.byte hk];exact s4 hk
theorem Win.num {T b:ByteArray} {o k:Nat} (h:Win T b o) (hk:k≤b.size):∀ (f i:Nat) (n:Int),numF T (o + k) f (o + i) n=numF b k f i n:=by
 intro f;induction f with
 | zero=>intro i n; rfl
 | succ f ih =>
   intro i n;simp only [numF];by_cases h1:i < k
   ·rw [Yb (by omega),Yb h1,h.byte (by omega),show o + i + 1=o + (i + 1) by omega];exact ih (i + 1) _
   ·rw [Y9 (by omega),Y9 h1]
theorem Win.cut {T b:ByteArray} {o j k:Nat} (h:Win T b o) (hk:k≤b.size):T.extract (o + j) (o + k)=b.extract j k:=by
 have hs:=h.size;apply ByteArray.ext;rw [ByteArray.data_extract,ByteArray.data_extract];have s1:T.data.size=T.size:=rfl;have s2:b.data.size=b.size:=rfl;apply Array.ext
 ·simp only [Array.size_extract];omega
 ·intro i h1 h2;simp only [Array.size_extract] at h1 h2;simp only [Array.getElem_extract];have e:=h.get (j + i) (by omega);simp only [Array.getD,dif_pos (show o + (j + i) < T.data.size by omega),dif_pos (show j + i < b.data.size by omega)] at e;simpa [Nat.add_assoc] using e
theorem Win.quoted {T b:ByteArray} {o:Nat} (h:Win T b o):∀ (f i:Nat) (acc bs:List UInt8) (k:Nat),Z0o b f i acc=(bs,0,k)→i < k∧k≤b.size∧∀ f',k - i≤f'→Z0o T f' (o + i) acc=(bs,0,o + k):=by
 intro f;induction f with
 | zero=>intro i acc bs k h1; simp [Z0o] at h1
 | succ f ih =>
   intro i acc bs k h0;have hs:=h.size;simp only [Z0o] at h0;by_cases h1:b.size≤i∨Zc b i=10;·rw [Yb h1] at h0; simp at h0
   rw [Y9 h1] at h0;simp only [not_or,Nat.not_le] at h1;have hb:=h.byte h1.1;by_cases h2:Zc b i=39
   ·rw [Yb h2] at h0;by_cases h3 : 500 < acc.length;·rw [Yb h3] at h0; simp at h0
    rw [Y9 h3] at h0;simp only [Prod.mk.injEq,true_and] at h0;obtain ⟨rfl,rfl⟩:=h0;refine ⟨by omega,by omega,fun f' hf=>?_⟩;obtain ⟨g,rfl⟩:∃ g,f'=g + 1:=⟨f' - 1,by omega⟩
    simp only [Z0o,hb];rw [Y9 (by omega),Yb h2,Y9 h3,Nat.add_assoc]
   rw [Y9 h2] at h0;by_cases h3:Zc b i=92
   ·rw [Yb h3] at h0;by_cases h4 : i + 1 < b.size
    ·rw [Yb h4] at h0;cases he : Z69 (Zc b (i + 1)) with
     | none=>rw [he] at h0; simp at h0
     | some e =>
       rw [he] at h0;simp only at h0;obtain ⟨g1,g2,g3⟩:=ih (i + 2) _ bs k h0;refine ⟨by omega,g2,fun f' hf=>?_⟩;obtain ⟨g,rfl⟩:∃ g,f'=g + 1:=⟨f' - 1,by omega⟩
       have hb1:=h.byte h4;rw [← Nat.add_assoc] at hb1;simp only [Z0o,hb,hb1];rw [Y9 (by omega),Y9 h2,Yb h3,Yb (by omega),he];simp only;rw [Nat.add_assoc];exact g3 g (by omega)
    ·rw [Y9 h4] at h0; simp at h0
   ·rw [Y9 h3] at h0;obtain ⟨g1, g2, g3⟩ := ih (i + 1) _ bs k h0;refine ⟨by omega, g2, fun f' hf => ?_⟩;obtain ⟨g, rfl⟩ : ∃ g, f' = g + 1 := ⟨f' - 1, by omega⟩
    simp only [Z0o,hb,h.get i h1.1];rw [Y9 (by omega),Y9 h2,Y9 h3,Nat.add_assoc];exact g3 g (by omega)
theorem Win.signs {T b:ByteArray} {o:Nat} (h:Win T b o) {j:Nat} (hj:j < b.size):Z0a T (o + j)=Z0a b j:=by
 have hb:=h.byte hj;have hp:=h.past;unfold Z0a;rw [hb];by_cases h1:j + 1 < b.size
 ·have hb1 := h.byte h1;rw [← Nat.add_assoc] at hb1;rw [hb1];by_cases h2 : j + 2 < b.size
  ·have hb2:=h.byte h2;rw [← Nat.add_assoc] at hb2;rw [hb2]
  ·have e : j + 2 = b.size := by omega
   have z:=Z4n (text:=b) (i:=j + 2) (by omega);rw [← e,← Nat.add_assoc] at hp;rw [z];have n61:Zc T (o + j + 2)≠61:=by omega
   simp [n61]
 ·have e : j + 1 = b.size := by omega
  have z:=Z4n (text:=b) (i:=j + 1) (by omega);rw [← e,← Nat.add_assoc] at hp;rw [z];have n1:Zc T (o + j + 1)≠61:=by omega
  have n2:Zc T (o + j + 1)≠38:=by omega
  have n3:Zc T (o + j + 1)≠124:=by omega
  simp [n1,n2,n3]
def Tok.shift (o:Nat) (t:Tok):Tok:={ t with at':=o + t.at' }
theorem Zfa {c:Int} (h:Z0x c=true):Z2r c=false:=by
 cases hw:Z2r c with
 | false=>rfl
 | true=>rw [Z2g hw] at h; cases h
theorem Zcs {c:Int} (h:Z0x c=true):Z0q c=false:=by
 cases hw:Z0q c with
 | false=>rfl
 | true=>rw [Z2g (Z83 hw)] at h; cases h
theorem Win.tok {T b:ByteArray} {o:Nat} (h:Win T b o) {j k:Nat} {t:Tok} (hj:j < b.size) (ht:Z1f b j=.ok (t,k)):Z1f T (o + j)=.ok (t.shift o,o + k):=by
 have hb:=h.byte hj;obtain ⟨c1,c2,_⟩:=Z2j b hj ht;unfold Z1f at ht ⊢;rw [hb];by_cases hl:Z13 (Zc b j)=true
 ·rw [Yb hl] at ht ⊢;simp only at ht ⊢;rw [h.span Z2r (fun c => Zfa) (by omega)];obtain ⟨K, hK⟩ : ∃ K, Z03 Z2r b (b.size - j) j = K := ⟨_, rfl⟩
  obtain ⟨_,s2,_,_⟩:=Z12 Z2r b (b.size - j) j (Y5 _) (by omega);rw [hK] at ht s2 ⊢;rw [h.cut s2,show o + K - (o + j)=K - j by omega];split at ht
  ·simp only [Except.ok.injEq,Prod.mk.injEq] at ht;obtain ⟨rfl,rfl⟩:=ht;rw [Yb (by assumption)];rfl
  ·split at ht;·cases ht
   ·simp only [Except.ok.injEq,Prod.mk.injEq] at ht;obtain ⟨rfl,rfl⟩:=ht;rw [Y9 (by assumption),Y9 (by assumption)];rfl
 rw [Y9 hl] at ht ⊢;by_cases hd:Z0q (Zc b j)=true
 ·rw [Yb hd] at ht ⊢;simp only at ht ⊢;rw [h.span Z0q (fun c => Zcs) (by omega)];obtain ⟨K, hK⟩ : ∃ K, Z03 Z0q b (b.size - j) j = K := ⟨_, rfl⟩
  obtain ⟨_,s2,_,_⟩:=Z12 Z0q b (b.size - j) j (Y5 _) (by omega);rw [hK] at ht s2 ⊢;rw [show o + K - (o + j)=K - j by omega,h.num s2];split at ht;·cases ht
  ·split at ht;·cases ht
   ·simp only [Except.ok.injEq,Prod.mk.injEq] at ht;obtain ⟨rfl,rfl⟩:=ht;rw [Y9 (by assumption),Y9 (by assumption)];rfl
 rw [Y9 hd] at ht ⊢;by_cases hq:Zc b j=39
 ·rw [Yb hq] at ht ⊢;obtain ⟨⟨bs, e, K⟩, hR⟩ : ∃ R, R = Z0y b (j + 1) := ⟨_, rfl⟩
  rw [← hR] at ht;simp only at ht;by_cases h4:e=4;·rw [Yb h4] at ht; cases ht
  rw [Y9 h4] at ht;by_cases h0:e≠0;·rw [Yb h0] at ht; cases ht
  rw [Y9 h0] at ht;simp only [ne_eq,Decidable.not_not] at h0;subst h0;simp only [Except.ok.injEq,Prod.mk.injEq] at ht;obtain ⟨rfl,rfl⟩:=ht;obtain ⟨g1,g2,g3⟩:=h.quoted _ _ _ _ _ hR.symm;have hqa:Z0y T (o + j + 1)=(bs,0,o + K):=by
   have:=g3 (T.size + 1 - (o + j + 1)) (by have:=h.size; omega);rw [← Nat.add_assoc] at this;exact this
  rw [hqa];rfl
 rw [Y9 hq] at ht ⊢;rw [h.signs hj];by_cases hs:Z0a b j=1∧Z5f (Zc b j)=false;·rw [Yb hs] at ht; cases ht
 rw [Y9 hs] at ht ⊢;simp only [Except.ok.injEq,Prod.mk.injEq] at ht;obtain ⟨rfl,rfl⟩:=ht;rw [Nat.add_assoc,h.cut c2];rfl
theorem Win.stand {T b:ByteArray} {o:Nat} (h:Win T b o) (he:T.size=o + b.size):∀ (r:List Tok) (i:Nat),i≤b.size→Z6x b i r→Z6x T (o + i) (r.map (Tok.shift o)):=by
 intro r;induction r with
 | nil=>intro i _ h1; exact h1.elim
 | cons t r ih =>
   intro i hi h1;obtain ⟨s1,s2,s3,s4⟩:=Z12 Z0x b (b.size - i) i (Y5 _) hi;cases r with
   | nil =>
     obtain ⟨h2,h3⟩:=h1;have e:Z03 Z0x b (b.size - i) i=b.size:=by omega
     have e2:Z03 Z0x T (T.size - (o + i)) (o + i)=T.size:=by
      refine Z3j Z0x T _ _ _ (Y5 _) (by omega) (Y5 _) (fun m h1 h2=>?_) fun h1=>by omega
      have e3:=h.byte (i:=m - o) (by omega);rw [show o + (m - o)=m by omega] at e3;rw [e3];exact s3 _ (by omega) (by omega)
     refine ⟨by rw [e2]; exact Y5 _,?_⟩;rw [e2,h3,e,he];rfl
   | cons u r =>
     obtain ⟨k,h2,h3,h4⟩:=h1;obtain ⟨c1,c2,_⟩:=Z2j b h2 h3;refine ⟨o + k,?_,?_,ih k c2 h4⟩;·rw [h.blank hi h2]; omega
     ·rw [h.blank hi h2];exact h.tok h2 h3
theorem Z6x.back {T:ByteArray} {i i':Nat} {r:List Tok} (h:Z6x T i' r) (hi:i≤i') (hi':i'≤T.size) (hb:∀ m,i≤m→m < i'→Z0x (Zc T m)=true):Z6x T i r:=by
 have e:Z03 Z0x T (T.size - i) i=Z03 Z0x T (T.size - i') i':=by
  obtain ⟨s1,s2,s3,s4⟩:=Z12 Z0x T (T.size - i') i' (Y5 _) hi';refine Z3j Z0x T _ _ _ (Y5 _) (by omega) s2 (fun m h1 h2=>?_) s4;rcases Nat.lt_or_ge m i' with h3 | h3;·exact hb m h1 h3
  ·exact s3 m h3 h2
 match r,h with
 | [t],h=>exact ⟨by rw [e]; exact h.1,by rw [e]; exact h.2⟩
 | t :: u :: l,⟨k,h1,h2,h3⟩=>exact ⟨k,by rw [e]; exact h1,by rw [e]; exact h2,h3⟩
theorem Win.join {T a:ByteArray} (h:Win T a 0) {r:List Tok} (hr:Z6x T (a.size + 1) r) (hs:a.size + 1≤T.size):∀ (l:List Tok) (e:Tok) (i:Nat),i≤a.size→Z6x a i (l ++ [e])→Z6x T i (l ++ r):=by
 intro l;induction l with
 | nil =>
   intro e i hi h1;obtain ⟨s1,s2,s3,s4⟩:=Z12 Z0x a (a.size - i) i (Y5 _) hi;have h2:a.size≤Z03 Z0x a (a.size - i) i:=h1.1;refine hr.back (by omega) hs (fun m h3 h4=>?_);rcases Nat.lt_or_ge m a.size with h5 | h5
   ·have e3:=h.byte h5;rw [Nat.zero_add] at e3;rw [e3];exact s3 m h3 (by omega)
   ·have e4 : m = a.size := by omega
    have:=h.stop (by omega);rw [Nat.zero_add] at this;rw [e4];exact this
 | cons t l ih =>
   intro e i hi h1;have key:∀ u q,l ++ [e]=u :: q→∃ k,Z03 Z0x a (a.size - i) i < a.size∧Z1f a (Z03 Z0x a (a.size - i) i)=.ok (t,k)∧Z6x a k (l ++ [e]):=by
    intro u q hq;rw [List.cons_append,hq] at h1;obtain ⟨k,h2,h3,h4⟩:=h1;exact ⟨k,h2,h3,by rw [hq]; exact h4⟩
   obtain ⟨u,q,hq⟩:∃ u q,l ++ [e]=u :: q:=by
    cases l with
    | nil=>exact ⟨_,_,rfl⟩
    | cons u q=>exact ⟨_,_,rfl⟩
   obtain ⟨k,h2,h3,h4⟩:=key u q hq;obtain ⟨c1,c2,_⟩:=Z2j a h2 h3;have hrec:=ih e k c2 h4;obtain ⟨u',q',hq'⟩:∃ u q,l ++ r=u :: q:=by
    cases l with
    | nil =>
      cases r with
      | nil=>exact hr.elim
      | cons u q=>exact ⟨_,_,rfl⟩
    | cons u q=>exact ⟨_,_,rfl⟩
   rw [List.cons_append,hq'];rw [hq'] at hrec;have hbl:=h.blank hi h2;simp only [Nat.zero_add] at hbl;have htk:=h.tok h2 h3;simp only [Nat.zero_add] at htk;have e5:t.shift 0=t:=by unfold Tok.shift; simp
   rw [e5] at htk;exact ⟨k,by rw [hbl]; have:=h.size; omega,by rw [hbl]; exact htk,hrec⟩
def Sx (T:ByteArray) (i:Nat) (l:List UInt8):Prop:=i≤T.size∧T.data.toList.drop i=l
section
variable {T:ByteArray} {i:Nat} {l m r:List UInt8}
theorem Sx.size (h:Sx T i l):i + l.length=T.size:=by
 have h1:=h.1;have h2:l.length=T.data.toList.length - i:=by rw [← h.2,List.length_drop]
 have h3:T.data.toList.length=T.size:=by simp
 omega
theorem Sx.get (h:Sx T i l) (j:Nat):T.data.getD (i + j) 0=l.getD j 0:=by
 rw [← h.2,Array.getD_eq_getD_getElem?,List.getD_eq_getElem?_getD,List.getElem?_drop,Array.getElem?_toList]
theorem Sx.app (h:Sx T i (l ++ m)):Sx T (i + l.length) m:=by
 have h1:=h.size;rw [Yq] at h1;refine ⟨by omega,?_⟩;rw [← List.drop_drop,h.2,List.drop_append];simp
theorem Sx.byte (h:Sx T i l) (j:Nat):Zc T (i + j)=((l.getD j 0).toNat:Int):=by
 unfold Zc; rw [h.get j]
def hB (l:List UInt8):Int:=((l.getD 0 0).toNat:Int)
theorem Sx.hd (h:Sx T i l):Zc T i=hB l:=h.byte 0
theorem Sx.next (h:Sx T i (l ++ m)):Zc T (i + l.length)=hB m:=h.app.hd
theorem Sx.span (p:Int→Bool) (h:Sx T i (l ++ r)) (hl:∀ j,j < l.length→p ((l.getD j 0).toNat:Int)=true) (hr:p (hB r)=false):Z03 p T (T.size - i) i=i + l.length:=by
 have h1:=h.size;rw [Yq] at h1;refine Z3j p T _ _ _ (Y5 _) (by omega) (by omega) (fun m h2 h3=>?_) fun h2=>?_
 ·have:=h.byte (m - i);rw [show i + (m - i)=m by omega] at this;rw [this,show (l ++ r).getD (m - i) 0=l.getD (m - i) 0 by rw [List.getD_eq_getElem?_getD,List.getD_eq_getElem?_getD,List.getElem?_append_left (by omega)]];exact hl _ (by omega)
 ·rw [h.next]; exact hr
theorem Sx.cut {s:ByteArray} (h:Sx T i (s.data.toList ++ r)):T.extract i (i + s.size)=s:=by
 apply ByteArray.ext;rw [ByteArray.data_extract];have h1:=h.size;rw [Yq] at h1;have e1:s.data.toList.length=s.size:=by simp
 have e2:s.data.size=s.size:=rfl;have e3:T.data.size=T.size:=rfl;apply Array.ext;·simp only [Array.size_extract]; omega
 ·intro j h2 h3;have:=h.get j;rw [Array.getD_eq_getD_getElem?,List.getD_eq_getElem?_getD,List.getElem?_append_left (by omega),Array.getElem?_toList,Array.getElem?_eq_getElem (by omega),Array.getElem?_eq_getElem h3] at this;simpa using this
end
def Zmt (s:ByteArray):Prop:=1≤s.size∧Z13 (Zc s 0)=true∧(∀ i,i < s.size→Z2r (Zc s i)=true)∧Z2u s=true
section
variable {T:ByteArray} {i:Nat} {r:List UInt8}
end
def Tok.st (t:Tok):Int×ByteArray×Int:=(t.kind,t.text,t.n)
def Pc.tok:Pc→Option (Int×ByteArray×Int)
 | .sp _=>none
 | .t k s n=>some (k,s,n)
def Pv:Pc→Prop
 | .sp c=>c=32∨c=10
 | .t k s n=>(k=1∧n=0∧Z3r s)∨(k=2∧n=0∧Zmt s)∨(k=3∧s=ByteArray.empty∧0≤n∧n≤1000000000)∨(k=4∧n=0∧s.size≤500)∨(k=5∧n=0∧((∃ c:UInt8,s=⟨#[c]⟩∧Z5f (c.toNat:Int)=true)∨s=Z3h∨s=s_or∨s=Z5n))
def Nx:Pc→Int→Prop
 | .sp _,_=>True
 | .t k s _,c=>(k≤3→Z2r c=false)∧(k=5→s=s_eq→c≠61)
def Spd:List Pc→Prop
 | []=>True
 | p :: l=>Pv p∧Nx p (hB (Zd l))∧Spd l
section
variable {k:Int} {t:ByteArray} {n:Int} {x y b:Tree} {l r:List Tree}
theorem Zk5 (need:Int):vP (.mk k t n r) need=Z9j (decide (Zo k < need)) (vbP k t n r):=by rw [vP.eq_def]
theorem Zdi:vbP 17 t n r=[.t 3 ByteArray.empty n]:=by rw [vbP.eq_def]; simp
theorem Zdx:vbP 18 t n r=[.t 4 t 0]:=by rw [vbP.eq_def]; simp
theorem Z90 (h:19≤k) (h2:k≤22):vbP k t n r=[wd (Z9w k)]:=by
 rw [vbP.eq_def,Y9 (by omega),Y9 (by omega),Yb (by omega)]
theorem Z7p:vbP 23 t n r=[nm t]:=by rw [vbP.eq_def]; simp
theorem Zdf:vbP 24 t n (x :: y :: r)=vP x 8 ++ sp :: sg 61 :: sp :: vP y 0:=by rw [vbP.eq_def]; simp
theorem Za8 (h:32≤k) (h2:k≤34):vbP k t n (x :: r)=sgnP k ++ vP x 7:=by
 rw [vbP.eq_def,Y9 (by omega),Y9 (by omega),Y9 (by omega),Y9 (by omega),Y9 (by omega),Yb (by omega)]
theorem Zdt:vbP 36 t n (x :: r)=vP x 8 ++ [sg 46,nm t]:=by rw [vbP.eq_def]; simp
theorem Z8o:vbP 35 t n (x :: r)=vP x 8 ++ sg 40 :: (lP true r ++ [sg 41]):=by rw [vbP.eq_def]; simp
theorem Zc4 {k' n':Int} {t':ByteArray}:vbP 37 t n (.mk k' t' n' l :: b :: r)=fnP t (lP true l) (sP b):=by rw [vbP.eq_def]; simp
theorem Zdh:vbP 38 t n r=sg 123 :: (lP true r ++ [sg 125]):=by rw [vbP.eq_def]; simp
theorem Zcx:vbP 39 t n (x :: r)=nm t :: sg 58 :: sp :: vP x 0:=by rw [vbP.eq_def]; simp
theorem Ze0 (h:25≤k) (h2:k≤31):vbP k t n (x :: y :: r)=vP x (Zo k) ++ (sgnP k ++ vP y (Zo k + 1)):=by
 rw [vbP.eq_def,Y9 (by omega),Y9 (by omega),Y9 (by omega),Y9 (by omega),Y9 (by omega),Y9 (by omega),Y9 (by omega),Y9 (by omega),Y9 (by omega),Y9 (by omega),Y9 (by omega)]
theorem Z7h (f:Bool):lP f []=[]:=by rw [lP.eq_def]
theorem Z5c (f:Bool):lP f (x :: r)=sepP f [sg 44,sp] ++ (vP x 0 ++ lP false r):=by rw [lP.eq_def]
theorem Z8x (f:Bool):bP f []=[]:=by rw [bP.eq_def]
theorem Z6f (f:Bool):bP f (x :: r)=sepP f [sp] ++ (sP x ++ bP false r):=by rw [bP.eq_def]
theorem Zan (h:k=2∨k=3∨k=4):sP (.mk k t n [])=Z2w k ++ nm t :: [sg 59]:=by rw [sP.eq_def]; simp only; rw [Yb h]
theorem Z9c (h:k=2∨k=3∨k=4):sP (.mk k t n (x :: r))=Z2w k ++ nm t :: sp :: sg 61 :: sp :: (vP x 0 ++ [sg 59]):=by rw [sP.eq_def]; simp only; rw [Yb h]
theorem Zhp {k' n':Int} {t':ByteArray}:sP (.mk 5 t n (.mk k' t' n' l :: b :: r))=fnP t (lP true l) (sP b):=by rw [sP.eq_def]; simp
theorem Z8p:sP (.mk 6 t n r)=sg 123 :: (bP true r ++ [sg 125]):=by rw [sP.eq_def]; simp
theorem Zbf (h:k=7∨k=8∨k=9):sP (.mk k t n [x,y])=Z2w k ++ sg 40 :: (vP x 0 ++ sg 41 :: sp :: sP y):=by
 rw [sP.eq_def]; simp only; rw [Y9 (by omega),Y9 (by omega),Y9 (by omega),Yb h,List.append_nil]
theorem Zlp {z:Tree}:sP (.mk 7 t n [x,y,z])=Z2w 7 ++ sg 40 :: (vP x 0 ++ sg 41 :: sp :: (sP y ++ sp :: wd Z1y :: sp :: sP z)):=by rw [sP.eq_def]; simp
theorem Zga (h:k=10∨k=11):sP (.mk k t n [])=Z2w k ++ [sg 59]:=by
 rw [sP.eq_def]; simp only; rw [Y9 (by omega),Y9 (by omega),Y9 (by omega),Y9 (by omega),Yb h]
theorem Zbr (h:k=10∨k=11):sP (.mk k t n (x :: r))=Z2w k ++ sp :: (vP x 0 ++ [sg 59]):=by
 rw [sP.eq_def]; simp only; rw [Y9 (by omega),Y9 (by omega),Y9 (by omega),Y9 (by omega),Yb h]
theorem Z8m:sP (.mk 12 t n (b :: r))=wd Z1j :: sp :: (sP b ++ cP r):=by rw [sP.eq_def]; simp
theorem Zd1:sP (.mk 16 t n r)=[sg 59]:=by rw [sP.eq_def]; simp
theorem Zgm:sP (.mk 15 t n (x :: r))=Zhh (vP x 0) ++ [sg 59]:=by rw [sP.eq_def]; simp
theorem Z9p:cP []=[]:=by rw [cP.eq_def]
theorem Z96:cP (.mk 13 t n [x] :: r)=sp :: wd Z0t :: sp :: sg 40 :: nm t :: sg 41 :: sp :: (sP x ++ cP r):=by rw [cP.eq_def]; simp
theorem Z62:cP (.mk 14 t n [x] :: r)=sp :: wd Zt :: sp :: (sP x ++ cP r):=by rw [cP.eq_def]; simp
end
def NWr (l:List Pc):Prop:=Z2r (hB (Zd l))=false∧hB (Zd l)≠61
section
variable {l:List Pc}
theorem NWr.sg {c:UInt8} (h:Z2r (c.toNat:Int)=false:=by decide) (h2:(c.toNat:Int)≠61:=by decide):NWr (sg c :: l):=⟨h,h2⟩
theorem NWr.sp {c:UInt8} (h:Z2r (c.toNat:Int)=false:=by decide) (h2:(c.toNat:Int)≠61:=by decide):NWr (.sp c :: l):=⟨h,h2⟩
theorem Zhx {c:UInt8} (h:c≠61):(⟨#[c]⟩:ByteArray)≠s_eq:=by
 intro e;have e2:(#[c]:Array UInt8)=#[61]:=congrArg ByteArray.data e;simp at e2;exact h e2
theorem Spd.sg {c:UInt8} (h:Spd l) (hc:Z5f (c.toNat:Int)=true:=by decide) (h2:c≠61:=by decide):Spd (sg c :: l):=
 ⟨.inr (.inr (.inr (.inr ⟨rfl,rfl,.inl ⟨c,rfl,hc⟩⟩))),⟨fun h=>by omega,fun _ e=>absurd e (Zhx h2)⟩,h⟩
theorem Spd.sp (h:Spd l):Spd (sp :: l):=⟨.inl rfl,trivial,h⟩
theorem Spd.three {s:ByteArray} (hs:s=Z3h∨s=s_or∨s=Z5n) (h:Spd l):Spd (.t 5 s 0 :: l):=
 ⟨.inr (.inr (.inr (.inr ⟨rfl,rfl,.inr hs⟩))),⟨fun h=>by omega,fun _ e=>by subst e; rcases hs with h | h | h <;> exact absurd h (by decide)⟩,h⟩
theorem Spd.nm {s:ByteArray} (hs:Z3r s) (h:Spd l) (hn:NWr l):Spd (nm s :: l):=⟨.inl ⟨rfl,rfl,hs⟩,⟨fun _=>hn.1,fun h=>by omega⟩,h⟩
theorem Spd.wd {s:ByteArray} (hs:Zmt s) (h:Spd l) (hn:NWr l):Spd (wd s :: l):=⟨.inr (.inl ⟨rfl,rfl,hs⟩),⟨fun _=>hn.1,fun h=>by omega⟩,h⟩
theorem Spd.num {n:Int} (h0:0≤n) (h1:n≤1000000000) (h:Spd l) (hn:NWr l):Spd (.t 3 ByteArray.empty n :: l):=⟨.inr (.inr (.inl ⟨rfl,rfl,h0,h1⟩)),⟨fun _=>hn.1,fun h=>by omega⟩,h⟩
theorem Spd.str {s:ByteArray} (h0:s.size≤500) (h:Spd l):Spd (.t 4 s 0 :: l):=⟨.inr (.inr (.inr (.inl ⟨rfl,rfl,h0⟩))),⟨fun h=>by omega,fun h=>by omega⟩,h⟩
end
end Go.Proofs.YtmeiggjboakmpaaGreatDoor
namespace Go.Proofs
set_option maxRecDepth 100000
set_option maxHeartbeats 20000000
def Tryz.lays137_ren:Go.Shelf.Ren:=⟨fun | 137=>49 | 217=>71 | 266=>99 | n=>n,fun | 9=>9 | 5=>5 | 3=>3 | n=>n,fun | n=>n⟩
theorem Tryz.lays137:Go.Proofs.Lays.n137 Tryz.prog Tryz.lays137_ren:={
 mixed:=by kernel_rfl
 f137:=Tryz.func49.trans (congrArg some (by kernel_rfl))
 f217:=Tryz.func71.trans (congrArg some (by kernel_rfl))
 f266:=Tryz.func99.trans (congrArg some (by kernel_rfl))
 t3:=Tryz.underlying3
 a3:=Tryz.isAgg3
 z3:=Tryz.sizeOf3
 v3:=Tryz.zeroValue3
 t5:=Tryz.underlying5
 a5:=Tryz.isAgg5
 z5:=Tryz.sizeOf5
 v5:=Tryz.zeroValue5
 t9:=Tryz.underlying9
 a9:=Tryz.isAgg9
 z9:=Tryz.sizeOf9
 v9:=Tryz.zeroValue9 }
open Go.RowKit in
theorem Tryz.strings_IndexByte (s:ByteArray) (c:Int) (w:World) :
 Calls Tryz.prog 49 #[.string s,.int .u8 c] w fun e w'=>e=.returned (.int .i64 (Lib.indexByte s.data.toList c.toNat.toUInt8))∧w'=w:=Any.strings_IndexByte Tryz.lays137 s c w
end Go.Proofs
namespace Go.Proofs.YtmeiggjboakmpaaGreatDoor
open Go Go.RowKit
set_option maxRecDepth 100000
set_option maxHeartbeats 20000000
theorem ScanAt.bfr {w0 w w':World} {sb b B a:Nat} {text:ByteArray} {p v v':Value} {bs:List Value} (h:ScanAt w0 w sb text a) (hb:BAt B w b p v bs) (hs:sb < B) (h0:w0.heap.size≤B) (f:BFr w w' b v v'):ScanAt w0 w' sb text a:=by
 have hr:∀ k,k < B→v.ownBlock≠some k:=fun k hk e=>by have:=(hb.own.lt k e).1; omega
 have hle:=hb.le
 exact ⟨(f.block sb h.lt (by omega) (hr sb hs)).trans h.blk,f.os.trans h.os,f.tape.trans h.tape,f.output.trans h.output,Ya h.size f.size,
  fun k hk hn=>(f.block k (Ye hk h.size) (by omega) (hr k (by omega))).trans (h.block k hk hn)⟩
theorem BAt.set {B:Nat} {w:World} {b sb:Nat} {p v:Value} {bs:List Value} (h:BAt B w b p v bs) (hs:sb < B) (x:Value):BAt B (w.setCell ⟨sb,1,none⟩ x) b p v bs:=by
 have hle:=h.le;exact ⟨(Yg _ _ _ _ (by simp; omega)).trans h.blk,h.ptr,Zp h.own fun g hg=>Yg _ _ _ _ (by have:=(h.own.lt g hg).1; simp; omega),h.ne,h.le⟩
theorem BAt.drew {B:Nat} {w:World} {b:Nat} {p v:Value} {bs:List Value} (h:BAt B w b p v bs):BAt B w.drew b p v bs:=⟨h.blk,h.ptr,h.own,h.ne,h.le⟩
theorem BAt.new (w:World):BAt w.heap.size (w.alloc (.cells #[.pointer none,.slice none 0 0] 69)) w.heap.size (.pointer none) (.slice none 0 0) []:=
 ⟨heap_alloc_new w _,.inl rfl,World.ownsRow_nil _ _ _ _,by simp [Value.ownBlock],Y5 _⟩
theorem Z75 (B:Nat) (w:World) (b:Nat) (p v:Value) (bs:List Value) (c:Int) (h:BAt B w b p v bs) (hn:bs.length < 1099511627776) :
 Calls Tryz.prog 24 #[.pointer (some ⟨b,0,none⟩),.int .u8 c] w fun e w'=>e=.returned .nilIface∧∃ v',BAt B w' b (.pointer (some ⟨b,0,none⟩)) v' (bs ++ [.int .u8 c])∧BFr w w' b v v':=by
 rcases h.ptr with rfl | rfl;·exact Z8w B w b v bs c h hn
 ·exact Z9m B w b v bs c h hn
theorem ScanAt.set' {w0 w:World} {sb a b:Nat} {text:ByteArray} {x:Int} (h:ScanAt w0 w sb text a) (hx:x=b):ScanAt w0 (w.setCell ⟨sb,1,none⟩ (.int .i64 x)) sb text b:=by
 subst hx; exact h.set b
theorem ScanAt.c1' {w0 w:World} {sb a:Nat} {text:ByteArray} {x:Int} (h:ScanAt w0 w sb text a) (hx:x=a):w.cell? ⟨sb,1,none⟩=some (.int .i64 x):=by
 subst hx; exact h.c1
theorem ScanAt.belowB {w0 w w':World} {B sb a:Nat} {text:ByteArray} (h:ScanAt w0 w sb text a) (hs:sb < B) (h0:w0.heap.size≤B) (hB:Below B w w'):ScanAt w0 w' sb text a:=
 ⟨(hB.block sb hs).trans h.blk,hB.os.trans h.os,hB.tape.trans h.tape,hB.output.trans h.output,Ya h.size hB.size,fun k hk hn=>(hB.block k (Ye hk h0)).trans (h.block k hk hn)⟩
theorem Zhd (c:Int) (u:UInt8) (hu:(u.toNat:Int)=c):(Z69 c=none∧Lib.indexByte [110,39,92] c.toNat.toUInt8=-1)∨(c=110∧Z69 c=some 10∧Lib.indexByte [110,39,92] c.toNat.toUInt8=0)∨(c=39∧Z69 c=some 39∧Lib.indexByte [110,39,92] c.toNat.toUInt8=1)∨(c=92∧Z69 c=some 92∧Lib.indexByte [110,39,92] c.toNat.toUInt8=2):=by
 subst hu;have hx:((u.toNat:Int)).toNat.toUInt8=u:=by simp
 rw [hx];by_cases h1:u=110;·subst h1; exact .inr (.inl ⟨rfl,rfl,rfl⟩)
 by_cases h2:u=39;·subst h2; exact .inr (.inr (.inl ⟨rfl,rfl,rfl⟩))
 by_cases h3:u=92;·subst h3; exact .inr (.inr (.inr ⟨rfl,rfl,rfl⟩))
 refine .inl ⟨?_,?_⟩
 ·have k1:¬ (u.toNat:Int)=110:=fun h=>h1 (UInt8.toNat_inj.1 (by simp; omega));have k2:¬ (u.toNat:Int)=39:=fun h=>h2 (UInt8.toNat_inj.1 (by simp; omega));have k3:¬ (u.toNat:Int)=92:=fun h=>h3 (UInt8.toNat_inj.1 (by simp; omega));unfold Z69;rw [Y9 k1,Y9 k2,Y9 k3]
 ·have k1 : ((110 : UInt8) == u) = false := by simpa using fun h => h1 h.symm
  have k2:((39:UInt8) == u)=false:=by simpa using fun h=>h2 h.symm
  have k3:((92:UInt8) == u)=false:=by simpa using fun h=>h3 h.symm
  simp [Lib.indexByte,k1,k2,k3]
theorem Zei (w:World) (sb a:Nat) (text:ByteArray) (h:w.heap[sb]?=some (.cells #[.string text,.int .i64 a] 85 (0,0))) (ha:a < text.size) (hm:text.size≤1000000) :
 Calls Tryz.prog 48 #[.pointer (some ⟨sb,0,none⟩)] w fun e w'=>e=.returned (.tuple #[.string ⟨(Z0y text (a + 1)).1.toArray⟩,.int .i64 (Z0y text (a + 1)).2.1,.int .i64 (Z0y text (a + 1)).2.2])∧ScanAt w w' sb text (Z0y text (a + 1)).2.2:=by
 obtain ⟨R,hR⟩:=zX (Z0y text (a + 1))
 rw [← hR];have HR:=lh hR;clear hR;have S0:=lh (ScanAt.refl h);have hsb:sb < w.heap.size:=(Y6.1 h).1;have B0:=lh (BAt.new w);have S1:=lh (S0.out.below (w':=w.alloc (.cells #[.pointer none,.slice none 0 0] 69)) ((Y8 _ _).alloc (Y5 _) _));have c0:=S1.out.c0;have c1:=S1.out.c1;have z1:=S1.out.fz 1;clear h;go_enter Tryz.func48,Tryz.ntmps48
 go_wp2;have S2:=lh ((S0.out.set (a + 1)).below (w':=(w.setCell ⟨sb,1,none⟩ (.int .i64 ((a:Int) + 1))).alloc (.cells #[.pointer none,.slice none 0 0] 69)) ((Y8 _ _).alloc (Y5 _) _));have hsz:(w.setCell ⟨sb,1,none⟩ (.int .i64 ((a:Int) + 1))).heap.size=w.heap.size:=Yn ..;have b2:=BAt.new (w.setCell ⟨sb,1,none⟩ (.int .i64 ((a:Int) + 1)));rw [hsz] at b2;have B2:=lh b2;clear b2 hsz;clear S1 B0 c0 c1 z1
 go_loopw [] (fun wr=>∃ (i f:Nat) (acc:List UInt8) (p v:Value),ScanAt w wr sb text i∧BAt w.heap.size wr w.heap.size p v (Lib.byteCells acc)∧Z0o text f i acc=R∧text.size + 1≤i + f∧i≤text.size∧acc.length≤i) (fun wr=>text.size + 1 - (intOf ((wr.cell? ⟨sb,1,none⟩).getD .nilIface)).toNat)
 case atStart=>exact ⟨a + 1,text.size + 1 - (a + 1),[],_,_,S2.out,B2.out,HR.out.symm,by omega,by omega,by simp⟩
 case round=>
  obtain ⟨i,f,acc,p,v,hS,hB,hq,hf,hi,hl⟩:=hrel;have q0:=hS.c0;have q1:=hS.c1;have z1:=hS.fz 1;have SI:=lh hS;have BI:=lh hB;have HQ:=lh hq;obtain ⟨f,rfl⟩:∃ g,f=g + 1:=⟨f - 1,by omega⟩
  clear hS hB hq S2 B2;by_cases hlt:i < text.size
  ·have hd : decide (text.size ≤ i) = false := by simp; omega
   have hby:=Z29 (text:=text) hlt;obtain ⟨c,hc⟩:=zX (Zc text i)
   rw [← hc] at hby;by_cases e10:c=10
   ·subst e10;have hR : R = ([], 3, i) := by rw [← HQ.out]; simp [Z0o, ← hc]
    have hb2:=hby.symm;have HR2:=lh hR;clear hby hR hc;go_wp2_with fail
    refine Zf [0,2,4,6,8,10,12,14,16,18,20,22,24,26,28,30,32,34,36] [19,20,21] (fun W=>W.cell? ⟨sb,0,none⟩=some (.string text)∧W.cell? ⟨sb,1,none⟩=some (.int .i64 i)) ⟨q0,q1⟩ fun _=>?_;simp only [Zh,pD,zD,zE,zF,zG,zH,zI,zJ,zK]
    iterate 19
     first | refine Zb _ ?_ | refine Za ?_
     simp only [Act.put,zA,zB,zC]
    refine Z6 ?_;go_wp2;refine Zf [0,2,4,6,8,10] [6] (fun W=>W.cell? ⟨sb,1,none⟩=some (.int .i64 i)) q1 fun _=>?_;simp only [Zh,pD,zD,zE,zF,zG,zH,zI,zJ,zK]
    iterate 6
     first | refine Zb _ ?_ | refine Za ?_
     simp only [Act.put,zA,zB,zC]
    refine Z6 ?_;go_wp2;go_ret3
    rw [HR2.out];exact ⟨rfl,SI.out.drew.drew⟩
   have n10:(c == 10)=false:=by simp [e10]
   have hlen:(Lib.byteCells acc).length=acc.length:=by simp [Lib.byteCells]
   have HLN:=lh hlen;clear hlen;by_cases e39:c=39
   ·subst e39;have hR : R = if 500 < acc.length then ([], 4, i + 1) else (acc, 0, i + 1) := by rw [← HQ.out]; simp [Z0o, ← hc]; omega
    have hb2:=hby.symm;have HR2:=lh hR;clear hby hR hc e10 n10;have z1:=SI.out.drew.drew.fz 1;go_wp2_with fail
    refine Zf [0,2,4,6,8,10,12,14,16,18,20,22,24,26,28,30,32,34,36] [19,20,21] (fun W=>W.cell? ⟨sb,0,none⟩=some (.string text)∧W.cell? ⟨sb,1,none⟩=some (.int .i64 i)) ⟨q0,q1⟩ fun _=>?_;simp only [Zh,pD,zD,zE,zF,zG,zH,zI,zJ,zK]
    iterate 19
     first | refine Zb _ ?_ | refine Za ?_
     simp only [Act.put,zA,zB,zC]
    refine Z6 ?_;go_wp2;refine Zf [0,2,4,6,8,10,12,14] [8,9] (fun W=>W.cell? ⟨sb,0,none⟩=some (.string text)∧W.cell? ⟨sb,1,none⟩=some (.int .i64 i)) ⟨q0,q1⟩ fun _=>?_;simp only [Zh,pD,zD,zE,zF,zG,zH,zI,zJ,zK]
    iterate 8
     first | refine Zb _ ?_ | refine Za ?_
     simp only [Act.put,zA,zB,zC]
    refine Z6 ?_;go_wp2_with fail
    have SN:=(SI.out.set' (b:=i + 1) (x:=(i:Int) + 1) (by omega)).drew.drew;have BN:=(BI.out.set hsb (.int .i64 ((i:Int) + 1))).drew.drew;have HL:=Zkk BN;rw [HLN.out] at HL;have HL:=lh HL;have q1':=SN.c1' (x:=(i:Int) + 1) (by omega);have hlS:=SN.lt;have BN:=lh BN;have SN:=lh SN;refine HL.out.mono ?_;rintro e w1 ⟨rfl,hw⟩;rw [← hw] at BN SN q1' hlS;clear hw HL z1 q0 q1;by_cases h5:500 < acc.length
    ·go_wp2;refine Zf [0, 2, 4, 6, 8, 10] [6] (fun W => W.cell? ⟨sb, 1, none⟩ = some (.int .i64 ((i : Int) + 1))) q1' fun _ => ?_;simp only [Zh, pD, zD, zE, zF, zG, zH, zI, zJ, zK]
     iterate 6
      first | refine Zb _ ?_ | refine Za ?_
      simp only [Act.put,zA,zB,zC]
     refine Z6 ?_;go_wp2;go_ret3
     rw [HR2.out,Yb h5];exact ⟨rfl,SN.out.drew⟩
    ·go_wp2;refine Zf [2, 4, 6, 8, 1, 10, 12] [7] (fun W => W.cell? ⟨sb, 1, none⟩ = some (.int .i64 ((i : Int) + 1))) q1' fun _ => ?_;simp only [Zh, pD, zD, zE, zF, zG, zH, zI, zJ, zK]
     iterate 4
      first | refine Zb _ ?_ | refine Za ?_
      simp only [Act.put,zA,zB,zC]
     refine Z5 (fun K hK=>?_);go_simp
     refine (Zeb acc BN.out.drew (by have:=(Y6.1 BN.out.blk).1; simp; omega)).mono ?_;rintro e w2 ⟨rfl,hB⟩;have S2:=SN.out.drew.belowB hsb (Y5 _) hB;refine hK _ _ (S2.c1' (by omega)) ?_;have S2:=lh S2;clear hK K hB
     iterate 2
      first | refine Zb _ ?_ | refine Za ?_
      simp only [Act.put,zA,zB,zC]
     refine Z6 ?_;go_wp2;go_ret3
     rw [HR2.out,Y9 h5];exact ⟨rfl,S2.out⟩
   have n39:(c == 39)=false:=by simp [e39]
   by_cases e92:c=92
   ·subst e92;have hb2 := hby.symm;clear hby e10 n10 e39 n39;have HC := lh hc;clear hc;go_wp2_with fail
    refine Zf [0,2,4,6,8,10,12,14,16,18,20,22,24,26,28,30,32,34,36] [19,20,21] (fun W=>W.cell? ⟨sb,0,none⟩=some (.string text)∧W.cell? ⟨sb,1,none⟩=some (.int .i64 i)) ⟨q0,q1⟩ fun _=>?_;simp only [Zh,pD,zD,zE,zF,zG,zH,zI,zJ,zK]
    iterate 19
     first | refine Zb _ ?_ | refine Za ?_
     simp only [Act.put,zA,zB,zC]
    refine Z6 ?_;go_wp2;refine Zf [0,2,4,6,8,10,12,14] [8,9] (fun W=>W.cell? ⟨sb,0,none⟩=some (.string text)∧W.cell? ⟨sb,1,none⟩=some (.int .i64 i)) ⟨q0,q1⟩ fun _=>?_;simp only [Zh,pD,zD,zE,zF,zG,zH,zI,zJ,zK]
    iterate 8
     first | refine Zb _ ?_ | refine Za ?_
     simp only [Act.put,zA,zB,zC]
    refine Z6 ?_;go_wp2_with fail
    have SN:=(SI.out.set' (b:=i + 1) (x:=(i:Int) + 1) (by omega)).drew.drew;have BN:=(BI.out.set hsb (.int .i64 ((i:Int) + 1))).drew.drew;obtain ⟨w1,hw⟩:=zX ((wr.setCell ⟨sb,1,none⟩ (.int .i64 ((i:Int) + 1))).drew.drew)
    rw [← hw] at BN SN ⊢;have p0:=SN.c0;have p1:=SN.c1' (x:=(i:Int) + 1) (by omega);have pz:=SN.fz 1;have BN:=lh BN;have SN:=lh SN;clear hw q0 q1 z1 hb2;by_cases h4:i + 1 < text.size
    ·have hby := Z29 (text := text) h4;have hd4 : decide ((i : Int) + 1 < text.size) = true := by simp; omega
     obtain ⟨k,hk⟩:∃ k,k=Lib.indexByte [110,39,92] ((text[i + 1].toNat:Int)).toNat.toUInt8:=⟨_,rfl⟩
     have hesc:=Zhd (Zc text (i + 1)) text[i + 1] hby.symm;rw [hby,← hk] at hesc;have HX:Hid (∀ w,Calls Tryz.prog 49 #[.string ⟨#[110,39,92]⟩,.int .u8 (text[i + 1].toNat:Int)] w fun e w'=>e=.returned (.int .i64 k)∧w'=w):=
      lh fun w=>(Tryz.strings_IndexByte ⟨#[110,39,92]⟩ (text[i + 1].toNat:Int) w).mono fun e w' h=>⟨by rw [hk]; exact h.1,h.2⟩
     have HBY:=lh hby;have HE:=lh hesc;clear hby hesc hk;go_wp2_with fail
     refine Zf [0,2,4,6,8,10,12,14,16] [9] (fun W=>W.cell? ⟨sb,0,none⟩=some (.string text)∧W.cell? ⟨sb,1,none⟩=some (.int .i64 ((i:Int) + 1))) ⟨p0,p1⟩ fun _=>?_;simp only [Zh,pD,zD,zE,zF,zG,zH,zI,zJ,zK]
     iterate 9
      first | refine Zb _ ?_ | refine Za ?_
      simp only [Act.put,zA,zB,zC]
     refine Z6 ?_;go_wp2;refine Zf [0,2,4,6,8,10,12,14] [8,9,10] (fun W=>W.cell? ⟨sb,0,none⟩=some (.string text)∧W.cell? ⟨sb,1,none⟩=some (.int .i64 ((i:Int) + 1))) ⟨p0,p1⟩ fun _=>?_;simp only [Zh,pD,zD,zE,zF,zG,zH,zI,zJ,zK]
     iterate 8
      first | refine Zb _ ?_ | refine Za ?_
      simp only [Act.put,zA,zB,zC]
     refine Z6 ?_;go_wp2_with fail
     refine (HX.out _).mono ?_;rintro e w2 ⟨rfl,hw⟩;have BN2:=BN.out.drew.drew;have SN2:=SN.out.drew.drew;rw [← hw] at BN2 SN2;have p1':=SN2.c1' (x:=(i:Int) + 1) (by omega);have pz':=SN2.fz 1;have BN2:=lh BN2;have SN2:=lh SN2;clear hw BN SN p0 p1 pz HX;have fin:∀ (x:UInt8),Hid (Z69 (text[i + 1].toNat:Int)=some x)→Z0o text f (i + 2) (acc ++ [x])=R:=by
      intro x hx;rw [← HQ.out];simp only [Z0o];rw [Y9 (by rw [← HC.out]; omega),Y9 (by rw [← HC.out]; omega),Yb HC.out.symm,Yb h4,HBY.out,hx.out]
     have FIN:=lh fin;have HLb:Hid ((Lib.byteCells acc).length < 1099511627776):=lh (by rw [HLN.out]; omega);clear fin;rcases HE.out with ⟨he,rfl⟩ | ⟨_,he,rfl⟩ | ⟨_,he,rfl⟩ | ⟨_,he,rfl⟩
     ·have hR:R=([],3,i + 1):=by
       rw [← HQ.out];simp only [Z0o];rw [Y9 (by rw [← HC.out]; omega),Y9 (by rw [← HC.out]; omega),Yb HC.out.symm,Yb h4,HBY.out,he]
      have HR2:=lh hR;clear hR he HE;go_wp2;refine Zf [0,2,4,6,8,10] [6] (fun W=>W.cell? ⟨sb,1,none⟩=some (.int .i64 ((i:Int) + 1))) p1' fun _=>?_;simp only [Zh,pD,zD,zE,zF,zG,zH,zI,zJ,zK]
      iterate 6
       first | refine Zb _ ?_ | refine Za ?_
       simp only [Act.put,zA,zB,zC]
      refine Z6 ?_;go_wp2;go_ret3
      rw [HR2.out];exact ⟨rfl,SN2.out.drew⟩
     all_goals
      have FI:=lh (FIN.out _ (lh he));clear he HE FIN;go_wp2_with fail
      refine (Z75 _ _ _ _ _ _ _ BN2.out HLb.out).mono ?_;rintro e w3 ⟨rfl,v',hB3,hF3⟩;have S3:=SN2.out.bfr BN2.out hsb (Y5 _) hF3;have r1:=S3.c1' (x:=(i:Int) + 1) (by omega);have rz:=S3.fz 1;have B3:=lh hB3;have S3:=lh S3;clear hB3 hF3 p1' pz';go_wp2;go_roundw
      case rel=>exact ⟨i + 2,f,_,_,_,S3.out.set' (by omega),(by rw [Lib.byteCells,Yu]; exact B3.out.set hsb _),FI.out,by omega,by omega,by simp; omega⟩
      case measure=>
       have e1:=(S3.out.set' (b:=i + 2) (x:=(i:Int) + 1 + 1) (by omega)).c1;have e2:=SI.out.c1;rw [e1,e2];simp [intOf];omega
    ·have hd4 : decide ((i : Int) + 1 < text.size) = false := by simp; omega
     have hR:R=([],3,i + 1):=by
      rw [← HQ.out];simp only [Z0o];rw [Y9 (by rw [← HC.out]; omega),Y9 (by rw [← HC.out]; omega),Yb HC.out.symm,Y9 h4]
     have HR2:=lh hR;clear hR;go_wp2_with fail
     refine Zf [0,2,4,6,8,10,12,14,16] [9] (fun W=>W.cell? ⟨sb,0,none⟩=some (.string text)∧W.cell? ⟨sb,1,none⟩=some (.int .i64 ((i:Int) + 1))) ⟨p0,p1⟩ fun _=>?_;simp only [Zh,pD,zD,zE,zF,zG,zH,zI,zJ,zK]
     iterate 9
      first | refine Zb _ ?_ | refine Za ?_
      simp only [Act.put,zA,zB,zC]
     refine Z6 ?_;go_wp2;refine Zf [0,2,4,6,8,10] [6] (fun W=>W.cell? ⟨sb,1,none⟩=some (.int .i64 ((i:Int) + 1))) p1 fun _=>?_;simp only [Zh,pD,zD,zE,zF,zG,zH,zI,zJ,zK]
     iterate 6
      first | refine Zb _ ?_ | refine Za ?_
      simp only [Act.put,zA,zB,zC]
     refine Z6 ?_;go_wp2;go_ret3
     rw [HR2.out];exact ⟨rfl,SN.out.drew.drew⟩
   have n92:(c == 92)=false:=by simp [e92]
   have FI:Hid (Z0o text f (i + 1) (acc ++ [text.data.getD i 0])=R):=by
    refine lh ?_;rw [← HQ.out];simp only [Z0o];rw [Y9 (by rw [← hc]; omega),Y9 (by rw [← hc]; omega),Y9 (by rw [← hc]; omega)]
   have HLb:Hid ((Lib.byteCells acc).length < 1099511627776):=lh (by rw [HLN.out]; omega);have HCB:Hid (Lib.byteCells acc ++ [.int .u8 c]=Lib.byteCells (acc ++ [text.data.getD i 0])):=lh (by rw [Lib.byteCells,Lib.byteCells,Yu,hc]; rfl);have hb2:=hby.symm;clear hby hc e10 e39 e92;go_wp2_with fail
   refine Zf [0,2,4,6,8,10,12,14,16,18,20,22,24,26,28,30,32,34,36] [19,20,21] (fun W=>W.cell? ⟨sb,0,none⟩=some (.string text)∧W.cell? ⟨sb,1,none⟩=some (.int .i64 i)) ⟨q0,q1⟩ fun _=>?_;simp only [Zh,pD,zD,zE,zF,zG,zH,zI,zJ,zK]
   iterate 19
    first | refine Zb _ ?_ | refine Za ?_
    simp only [Act.put,zA,zB,zC]
   refine Z6 ?_;go_wp2;refine Zf [0,2,4,6,8,10,12,14] [8,9] (fun W=>W.cell? ⟨sb,0,none⟩=some (.string text)∧W.cell? ⟨sb,1,none⟩=some (.int .i64 i)) ⟨q0,q1⟩ fun _=>?_;simp only [Zh,pD,zD,zE,zF,zG,zH,zI,zJ,zK]
   iterate 8
    first | refine Zb _ ?_ | refine Za ?_
    simp only [Act.put,zA,zB,zC]
   refine Z6 ?_;go_wp2_with fail
   refine (Z75 _ _ _ _ _ _ c BI.out.drew.drew HLb.out).mono ?_;rintro e w3 ⟨rfl,v',hB3,hF3⟩;have S3:=SI.out.drew.drew.bfr BI.out.drew.drew hsb (Y5 _) hF3;rw [HCB.out] at hB3;have r1:=S3.c1;have rz:=S3.fz 1;have B3:=lh hB3;have S3:=lh S3;clear hB3 hF3 q0 q1 z1;go_wp2;go_roundw
   case rel=>exact ⟨i + 1,f,_,_,_,S3.out.set' (by omega),B3.out.set hsb _,FI.out,by omega,by omega,by simp; omega⟩
   case measure=>
    have e1:=(S3.out.set' (b:=i + 1) (x:=(i:Int) + 1) (by omega)).c1;have e2:=SI.out.c1;rw [e1,e2];simp [intOf];omega
  ·have hge : (text.size : Int) ≤ i := by omega
   have hge2:text.size≤i:=by omega
   have hR:R=([],3,i):=by rw [← HQ.out]; simp [Z0o,show text.size≤i by omega]
   have HR2:=lh hR;clear hR;go_wp2_with fail
   refine Zf [0,2,4,6,8,10,12,14,16,18,20,22,24,26,28,30,32,34,36] [19,20,21] (fun W=>W.cell? ⟨sb,0,none⟩=some (.string text)∧W.cell? ⟨sb,1,none⟩=some (.int .i64 i)) ⟨q0,q1⟩ fun _=>?_;simp only [Zh,pD,zD,zE,zF,zG,zH,zI,zJ,zK]
   iterate 19
    first | refine Zb _ ?_ | refine Za ?_
    simp only [Act.put,zA,zB,zC]
   refine Z6 ?_;go_wp2;refine Zf [0,2,4,6,8,10] [6] (fun W=>W.cell? ⟨sb,1,none⟩=some (.int .i64 i)) q1 fun _=>?_;simp only [Zh,pD,zD,zE,zF,zG,zH,zI,zJ,zK]
   iterate 6
    first | refine Zb _ ?_ | refine Za ?_
    simp only [Act.put,zA,zB,zC]
   refine Z6 ?_;go_wp2;go_ret3
   rw [HR2.out];exact ⟨rfl,SI.out.drew.drew⟩
theorem Z21 {text:ByteArray} {f i j k:Nat} {l:List Tok} {t:Tok} {R:Except (Int×Nat) (List Tok)} (h:lexF text (f + 1) i l=R) (hj:j=Z03 Z0x text (text.size - i) i) (hlt:j < text.size)
 (ht:Z1f text j=.ok (t,k)):lexF text f k (l ++ [t])=R:=by
 rw [← h];simp only [lexF];rw [← hj,Y9 (by omega),ht]
theorem Z1q {text:ByteArray} {f i j:Nat} {l:List Tok} {e:Int×Nat} {R:Except (Int×Nat) (List Tok)} (h:lexF text (f + 1) i l=R) (hj:j=Z03 Z0x text (text.size - i) i) (hlt:j < text.size)
 (ht:Z1f text j=.error e):R=.error e:=by
 rw [← h];simp only [lexF];rw [← hj,Y9 (by omega),ht]
theorem Zdz {text:ByteArray} {f i j:Nat} {l:List Tok} {R:Except (Int×Nat) (List Tok)} (h:lexF text (f + 1) i l=R) (hj:j=Z03 Z0x text (text.size - i) i) (hlt:text.size≤j):R=.ok (l ++ [⟨6,ByteArray.empty,0,j⟩]):=by
 rw [← h];simp only [lexF];rw [← hj,Yb hlt]
theorem Zbz (text:ByteArray):∀ (f i:Nat) (acc:List UInt8),(Z0o text f i acc).2.1=0∨(Z0o text f i acc).2.1=3∨(Z0o text f i acc).2.1=4:=by
 intro f;induction f with
 | zero=>intro i acc; simp [Z0o]
 | succ f ih =>
   intro i acc;simp only [Z0o];by_cases h1:text.size≤i∨Zc text i=10;·rw [Yb h1]; simp
   rw [Y9 h1];by_cases h2:Zc text i=39
   ·rw [Yb h2];by_cases h3 : 500 < acc.length;·rw [Yb h3]; simp
    ·rw [Y9 h3]; simp
   rw [Y9 h2];by_cases h3:Zc text i=92
   ·rw [Yb h3];by_cases h4 : i + 1 < text.size
    ·rw [Yb h4];cases Z69 (Zc text (i + 1)) with
     | none=>simp
     | some e=>exact ih _ _
    ·rw [Y9 h4]; simp
   ·rw [Y9 h3]; exact ih _ _
section
variable {text:ByteArray} {j k:Nat}
theorem Z7z (hl:Z13 (Zc text j)=true) (hk:k=Z03 Z2r text (text.size - j) j) (hw:Z2u (text.extract j k)=true):Z1f text j=.ok (⟨2,text.extract j k,0,j⟩,k):=by
 subst hk; unfold Z1f; rw [Yb hl]; simp only; rw [Yb hw]
theorem Z7r (hl:Z13 (Zc text j)=true) (hk:k=Z03 Z2r text (text.size - j) j) (hw:Z2u (text.extract j k)=false) (h:¬ 20 < k - j):Z1f text j=.ok (⟨1,text.extract j k,0,j⟩,k):=by
 subst hk; unfold Z1f; rw [Yb hl]; simp only; rw [Y9 (by simp [hw]),Y9 h]
theorem Z7y (hl:Z13 (Zc text j)=true) (hk:k=Z03 Z2r text (text.size - j) j) (hw:Z2u (text.extract j k)=false) (h:20 < k - j):Z1f text j=.error (4,j):=by
 subst hk; unfold Z1f; rw [Yb hl]; simp only; rw [Y9 (by simp [hw]),Yb h]
theorem Z61 (hl:Z13 (Zc text j)=false) (hd:Z0q (Zc text j)=true) (hk:k=Z03 Z0q text (text.size - j) j) (h1:¬ (10 < k - j∨(1 < k - j∧Zc text j=48))) (h2:¬ 1000000000 < numF text k (k - j) j 0) :
 Z1f text j=.ok (⟨3,ByteArray.empty,numF text k (k - j) j 0,j⟩,k):=by
 subst hk; unfold Z1f; rw [Y9 (by simp [hl]),Yb hd]; simp only; rw [Y9 h1,Y9 h2]
theorem Z4l (hl:Z13 (Zc text j)=false) (hd:Z0q (Zc text j)=true) (hk:k=Z03 Z0q text (text.size - j) j) (h1:10 < k - j∨(1 < k - j∧Zc text j=48)):Z1f text j=.error (3,j):=by
 subst hk; unfold Z1f; rw [Y9 (by simp [hl]),Yb hd]; simp only; rw [Yb h1]
theorem Z4t (hl:Z13 (Zc text j)=false) (hd:Z0q (Zc text j)=true) (hk:k=Z03 Z0q text (text.size - j) j) (h1:¬ (10 < k - j∨(1 < k - j∧Zc text j=48))) (h2:1000000000 < numF text k (k - j) j 0):Z1f text j=.error (2,j):=by
 subst hk; unfold Z1f; rw [Y9 (by simp [hl]),Yb hd]; simp only; rw [Y9 h1,Yb h2]
theorem Zay {bs:List UInt8} (hq:Zc text j=39) (hr:Z0y text (j + 1)=(bs,0,k)):Z1f text j=.ok (⟨4,⟨bs.toArray⟩,0,j⟩,k):=by
 unfold Z1f; rw [Y9 (by rw [hq]; decide),Y9 (by rw [hq]; decide),Yb hq,hr]; simp
theorem Za9 {bs:List UInt8} (hq:Zc text j=39) (hr:Z0y text (j + 1)=(bs,4,k)):Z1f text j=.error (4,j):=by
 unfold Z1f; rw [Y9 (by rw [hq]; decide),Y9 (by rw [hq]; decide),Yb hq,hr]; simp
theorem Z5j {bs:List UInt8} (hq:Zc text j=39) (hr:Z0y text (j + 1)=(bs,3,k)):Z1f text j=.error (3,k):=by
 unfold Z1f; rw [Y9 (by rw [hq]; decide),Y9 (by rw [hq]; decide),Yb hq,hr]; simp
theorem Z82 (hl:Z13 (Zc text j)=false) (hd:Z0q (Zc text j)=false) (hq:Zc text j≠39) (hs:¬ (Z0a text j=1∧Z5f (Zc text j)=false)):Z1f text j=.ok (⟨5,text.extract j (j + Z0a text j),0,j⟩,j + Z0a text j):=by
 unfold Z1f; rw [Y9 (by simp [hl]),Y9 (by simp [hd]),Y9 hq,Y9 hs]
theorem Z8c (hl:Z13 (Zc text j)=false) (hd:Z0q (Zc text j)=false) (hq:Zc text j≠39) (hs:Z0a text j=1∧Z5f (Zc text j)=false):Z1f text j=.error (3,j):=by
 unfold Z1f; rw [Y9 (by simp [hl]),Y9 (by simp [hd]),Y9 hq,Yb hs]
theorem Zhb {n m:Nat} {N:Int} (h:m < n):numF text (j + n) (n - m) (j + m) N=numF text (j + n) (n - (m + 1)) (j + m + 1) (10 * N + (Zc text (j + m) - 48)):=by
 obtain ⟨g,hg⟩:∃ g,n - m=g + 1:=⟨n - m - 1,by omega⟩
 rw [hg,show n - (m + 1)=g by omega];simp only [numF];rw [Yb (by omega)]
theorem Zfs {n:Nat} {N:Int}:numF text (j + n) (n - n) (j + n) N=N:=by rw [Nat.sub_self]; rfl
end
theorem Z5v (text:ByteArray) (j:Nat) (u:UInt8) (p:List UInt8) (hu:u≠0):(u :: p).isPrefixOf (text.data.toList.drop j)=(decide (Zc text j=u.toNat) && p.isPrefixOf (text.data.toList.drop (j + 1))):=by
 by_cases h:j < text.size
 ·have h' : j < text.data.toList.length := by simpa using h
  rw [List.drop_eq_getElem_cons h',List.isPrefixOf_cons_cons];congr 1
  have hb:Zc text j=(text.data.toList[j].toNat:Int):=by
   have h2:j < text.data.size:=h;unfold Zc Array.getD;rw [dif_pos h2];rfl
  rw [hb,Bool.eq_iff_iff];simp only [beq_iff_eq,decide_eq_true_eq];constructor;·intro e; rw [e]
  ·intro e; exact (UInt8.toNat_inj.1 (by omega)).symm
 ·have h' : text.data.toList.length ≤ j := by simpa using h
  rw [List.drop_eq_nil_of_le h',Z4n (by omega)];have:u.toNat≠0:=fun e=>hu (UInt8.toNat_inj.1 (by simpa using e));have h3:¬ (0:Int)=u.toNat:=by omega
  simp [h3]
def lit3:Nat→ByteArray
 | 0=>⟨#[61,61,61]⟩
 | 1=>⟨#[38,38]⟩
 | _=>⟨#[124,124]⟩
def preB (text:ByteArray) (j m:Nat):Bool:=(lit3 m).data.toList.isPrefixOf (text.data.toList.drop j)
def Z4b (text:ByteArray) (j:Nat):Nat→ByteArray
 | 0=>text.extract j (j + 1)
 | m + 1=>if preB text j m then lit3 m else Z4b text j m
theorem pre0 (text:ByteArray) (j:Nat):preB text j 0=true↔Zc text j=61∧Zc text (j + 1)=61∧Zc text (j + 2)=61:=by
 unfold preB;rw [show (lit3 0).data.toList=[61,61,61] from rfl,Z5v _ _ _ _ (by decide),Z5v _ _ _ _ (by decide),Z5v _ _ _ _ (by decide)];simp
theorem pre1 (text:ByteArray) (j:Nat):preB text j 1=true↔Zc text j=38∧Zc text (j + 1)=38:=by
 unfold preB;rw [show (lit3 1).data.toList=[38,38] from rfl,Z5v _ _ _ _ (by decide),Z5v _ _ _ _ (by decide)];simp
theorem pre2 (text:ByteArray) (j:Nat):preB text j 2=true↔Zc text j=124∧Zc text (j + 1)=124:=by
 unfold preB;rw [show (lit3 2).data.toList=[124,124] from rfl,Z5v _ _ _ _ (by decide),Z5v _ _ _ _ (by decide)];simp
theorem Z3a {text:ByteArray} {i:Nat} {u:UInt8} (h:Zc text i=u.toNat):text.data.getD i 0=u:=UInt8.toNat_inj.1 (by unfold Zc at h; omega)
theorem Z53 (text:ByteArray) (j n:Nat) (h:j + n≤text.size):text.extract j (j + n)=⟨((List.range n).map fun i=>text.data.getD (j + i) 0).toArray⟩:=by
 apply ByteArray.ext;apply Array.ext
 ·have : (text.extract j (j + n)).data.size = n := by change (text.extract j (j + n)).size = n; rw [ByteArray.size_extract]; omega
  rw [this]; simp
 ·intro i h1 h2;have e : (text.extract j (j + n)).data.size = n := by change (text.extract j (j + n)).size = n; rw [ByteArray.size_extract]; omega
  have h3:=getD_extract text (j:=j) (k:=j + n) (i:=i) (by omega) h;have h5:(text.extract j (j + n)).data.getD i 0=(text.extract j (j + n)).data[i]:=by simp only [Array.getD,dif_pos h1]; rfl
  rw [← h5,h3];simp
theorem Zgn (text:ByteArray) (j:Nat) (h:j < text.size):Z4b text j 3=text.extract j (j + Z0a text j)∧(Z4b text j 3).size=Z0a text j∧j + Z0a text j≤text.size:=by
 have key:∀ n,j + n≤text.size→(text.extract j (j + n)).size=n:=fun n hn=>by rw [ByteArray.size_extract]; omega
 have e0:=pre0 text j;have e1:=pre1 text j;have e2:=pre2 text j;simp only [Z4b];by_cases h2:preB text j 2=true
 ·have hb := e2.1 h2;have hl := Z4z (text := text) (i := j + 1) (by omega);have es : Z0a text j = 2 := by simp [Z0a, hb]
  rw [Yb h2,es,Z53 text j 2 (by omega)];have b0:=Z3a (u:=124) hb.1;have b1:=Z3a (u:=124) hb.2;refine ⟨?_,rfl,by omega⟩;simp only [List.range_succ,List.range_zero,List.nil_append,List.map_append,List.map_cons,List.map_nil,Nat.add_zero,b0,b1];rfl
 ·rw [Y9 h2];by_cases h1 : preB text j 1 = true
  ·have hb := e1.1 h1;have hl := Z4z (text := text) (i := j + 1) (by omega);have es : Z0a text j = 2 := by simp [Z0a, hb]
   rw [Yb h1,es,Z53 text j 2 (by omega)];have b0:=Z3a (u:=38) hb.1;have b1:=Z3a (u:=38) hb.2;refine ⟨?_,rfl,by omega⟩;simp only [List.range_succ,List.range_zero,List.nil_append,List.map_append,List.map_cons,List.map_nil,Nat.add_zero,b0,b1];rfl
  ·rw [Y9 h1];by_cases h0 : preB text j 0 = true
   ·have hb := e0.1 h0;have hl := Z4z (text := text) (i := j + 2) (by omega);have es : Z0a text j = 3 := by simp [Z0a, hb]
    rw [Yb h0,es,Z53 text j 3 (by omega)];have b0:=Z3a (u:=61) hb.1;have b1:=Z3a (u:=61) hb.2.1;have b2:=Z3a (u:=61) hb.2.2;refine ⟨?_,rfl,by omega⟩;simp only [List.range_succ,List.range_zero,List.nil_append,List.map_append,List.map_cons,List.map_nil,Nat.add_zero,b0,b1,b2];rfl
   ·rw [Y9 h0];have es:Z0a text j=1:=by
     unfold Z0a;rw [Y9 (fun x=>h0 (e0.2 x)),Y9 (fun x=>h1 (e1.2 x)),Y9 (fun x=>h2 (e2.2 x))]
    rw [es];exact ⟨rfl,key 1 (by omega),by omega⟩
def Z9k:List UInt8:=[40,41,123,125,91,93,59,58,44,46,61,43,45,42,60,33]
theorem Zcj (u:UInt8):decide (Lib.indexByte Z9k u < 0)=!Z5f u.toNat:=by
 have key:∀ n:Fin 256,decide (Lib.indexByte Z9k (UInt8.ofNat n.val) < 0)=!Z5f ((UInt8.ofNat n.val).toNat:Int):=by decide +kernel
 have h:=key ⟨u.toNat,by have:=u.toNat_lt; omega⟩;simpa using h
end Go.Proofs.YtmeiggjboakmpaaGreatDoor
namespace Go.Proofs
set_option maxRecDepth 100000
set_option maxHeartbeats 20000000
def Tryz.lays99_ren:Go.Shelf.Ren:=⟨fun | 99=>31 | 206=>65 | n=>n,fun | 9=>9 | 4=>4 | 3=>3 | n=>n,fun | n=>n⟩
theorem Tryz.lays99:Go.Proofs.Lays.n99 Tryz.prog Tryz.lays99_ren:={
 mixed:=by kernel_rfl
 f99:=Tryz.func31.trans (congrArg some (by kernel_rfl))
 f206:=Tryz.func65.trans (congrArg some (by kernel_rfl))
 t3:=Tryz.underlying3
 a3:=Tryz.isAgg3
 z3:=Tryz.sizeOf3
 v3:=Tryz.zeroValue3
 t4:=Tryz.underlying4
 a4:=Tryz.isAgg4
 z4:=Tryz.sizeOf4
 v4:=Tryz.zeroValue4
 t9:=Tryz.underlying9
 a9:=Tryz.isAgg9
 z9:=Tryz.sizeOf9
 v9:=Tryz.zeroValue9 }
open Go.RowKit Go.Lib in
theorem Tryz.strings_HasPrefix (s p:ByteArray) (w:World) :
 Calls Tryz.prog 31 #[.string s,.string p] w fun e w'=>e=.returned (.bool (Lib.hasPrefix s.data.toList p.data.toList))∧w'=w:=Any.strings_HasPrefix Tryz.lays99 s p w
end Go.Proofs
