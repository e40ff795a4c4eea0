/- The reference's Tokens, plain: numbers, strings, signs. -/
import Derived.Test.YtmeiggjboakmpaaGreatDoorJ06
import Derived.Lib.Atoi
import Derived.Lib.SmallJoins
import Derived.Shelf.Strconv.Atoi
namespace Go.Proofs.YtmeiggjboakmpaaGreatDoor
open Go Go.RowKit
set_option maxRecDepth 100000
set_option maxHeartbeats 20000000
set_option linter.unusedVariables false
theorem Z76 (text:ByteArray) {j k:Nat} (hj:j≤k) (hk:k≤text.size):(text.extract j k).data.toList=(text.data.toList.drop j).take (k - j):=by
 rw [ByteArray.data_extract,Array.toList_extract]
theorem Z7c {text:ByteArray} {j:Nat} (h:j < text.size):text.data.toList.drop j=text.data.getD j 0 :: text.data.toList.drop (j + 1):=by
 have h':j < text.data.toList.length:=by simpa using h
 have h2:j < text.data.size:=h;rw [List.drop_eq_getElem_cons h'];congr 1
 simp only [Array.getD,dif_pos h2];rfl
theorem Zkc {text:ByteArray} {k:Nat} (hk:k≤text.size):∀ (f j acc:Nat),k - j=f→j≤k→(∀ m,j≤m→m < k→Z0q (Zc text m)=true)→∃ n:Nat,Lib.decFrom acc ((text.data.toList.drop j).take (k - j))=some n∧numF text k f j acc=n:=by
 intro f;induction f with
 | zero =>
   intro j acc hf hj _;rw [hf];exact ⟨acc,by simp [Lib.decFrom],rfl⟩
 | succ f ih =>
   intro j acc hf hj hd;have hjk:j < k:=by omega
   have hdj:=hd j (Y5 _) hjk;obtain ⟨n,h1,h2⟩:=ih (j + 1) (acc * 10 + ((text.data.getD j 0).toNat - 48)) (by omega) (by omega) (fun m a b=>hd m (by omega) b);have hb:48≤(text.data.getD j 0).toNat∧(text.data.getD j 0).toNat≤57:=by
    have:Zc text j=((text.data.getD j 0).toNat:Int):=rfl;rw [this] at hdj;simp only [Z0q,Bool.and_eq_true,decide_eq_true_eq] at hdj;omega
   refine ⟨n,?_,?_⟩
   ·rw [hf,Z7c (by omega),List.take_succ_cons];simp only [Lib.decFrom,Lib.digitVal,hb,and_self,if_true];rw [show f=k - (j + 1) by omega];exact h1
   ·simp only [numF];rw [Yb hjk, ← h2];congr 1
    have:Zc text j=((text.data.getD j 0).toNat:Int):=rfl;rw [this];omega
theorem Z8h {text:ByteArray} {i m:Nat} (him:i < m) (hm:m≤text.size) (hd:∀ x,i≤x→x < m→Z0q (Zc text x)=true):Lib.atoi (text.extract i m).data.toList=some (numF text m (m - i) i 0):=by
 obtain ⟨n,h1,h2⟩:=Zkc hm (m - i) i 0 rfl (by omega) hd;rw [Z76 text (by omega) hm];have hdj:=hd i (Y5 _) him;have hb:48≤(text.data.getD i 0).toNat∧(text.data.getD i 0).toNat≤57:=by
  have:Zc text i=((text.data.getD i 0).toNat:Int):=rfl;rw [this] at hdj;simp only [Z0q,Bool.and_eq_true,decide_eq_true_eq] at hdj;omega
 obtain ⟨g,hg⟩:∃ g,m - i=g + 1:=⟨m - i - 1,by omega⟩
 rw [hg,Z7c (by omega),List.take_succ_cons] at h1 ⊢;have e1:(text.data.getD i 0 == 45)=false:=by
  rw [beq_eq_false_iff_ne]; intro e; rw [e] at hb; exact absurd hb.1 (by decide)
 have e2:(text.data.getD i 0 == 43)=false:=by
  rw [beq_eq_false_iff_ne]; intro e; rw [e] at hb; exact absurd hb.1 (by decide)
 simp only [Lib.atoi,e1,e2,Bool.false_eq_true,if_false,Lib.decNat,List.isEmpty_cons];rw [h1];simp only [Option.map_some];rw [← hg,← h2];rfl
theorem Zak (acc:List UInt8) {text:ByteArray} {m:Nat} (h:m < text.size):(⟨acc.toArray⟩:ByteArray) ++ text.extract m (m + 1)=⟨(acc ++ [text.data.getD m 0]).toArray⟩:=by
 apply ByteArray.ext;rw [ByteArray.data_append];apply Array.ext';rw [Array.toList_append,Z76 text (by omega) (by omega),show m + 1 - m=1 by omega,Z7c h];simp
theorem Zl8 (acc:List UInt8) (u:UInt8):(⟨acc.toArray⟩:ByteArray) ++ ⟨#[u]⟩=⟨(acc ++ [u]).toArray⟩:=by
 apply ByteArray.ext;rw [ByteArray.data_append];apply Array.ext';simp
def Z2l:List ByteArray:=lit3 0 :: lit3 1 :: lit3 2 :: Z9i.map fun u=>⟨#[u]⟩
def preS (text:ByteArray) (j:Nat) (s:ByteArray):Bool:=s.data.toList.isPrefixOf (text.data.toList.drop j)
def Z2h (text:ByteArray) (j:Nat):List ByteArray→ByteArray
 | []=>⟨#[]⟩
 | s :: r=>if preS text j s then s else Z2h text j r
theorem Z7q {text:ByteArray} {j:Nat} {s:ByteArray} {r:List ByteArray} (h:preS text j s=true):Z2h text j (s :: r)=s:=by
 simp only [Z2h];rw [Yb h]
theorem Z80 {text:ByteArray} {j:Nat} {s:ByteArray} {r:List ByteArray} (h:¬ preS text j s=true):Z2h text j (s :: r)=Z2h text j r:=by
 simp only [Z2h];rw [Y9 h]
theorem Zd5 (text:ByteArray) (j:Nat) (l:List ByteArray) (s:ByteArray) (hl:∀ x∈l,x≠⟨#[]⟩):Z2h text j (l ++ [s])=if Z2h text j l=⟨#[]⟩ then (if preS text j s then s else ⟨#[]⟩) else Z2h text j l:=by
 induction l with
 | nil=>simp [Z2h]
 | cons x l ih =>
   by_cases h:preS text j x=true;·rw [List.cons_append,Z7q h,Z7q h,Y9 (hl x (by simp))]
   ·rw [List.cons_append,Z80 h,Z80 h];exact ih fun y hy=>hl y (by simp [hy])
theorem Zdd:∀ x∈Z2l,x≠⟨#[]⟩:=by
 intro x hx e;have h:Z2l.all (fun s=>decide (0 < s.size))=true:=by kernel_rfl
 have:=List.all_eq_true.1 h x hx;rw [e] at this;exact absurd this (by decide)
theorem Zdj {text:ByteArray} {j:Nat} (h:j < text.size) (u:UInt8):preS text j ⟨#[u]⟩=decide (Zc text j=u.toNat):=by
 unfold preS;rw [Z7c h];have hb:Zc text j=((text.data.getD j 0).toNat:Int):=rfl;rw [hb];simp only [List.isPrefixOf,Bool.and_true];rw [Bool.eq_iff_iff];simp only [beq_iff_eq,decide_eq_true_eq];constructor;·intro e; rw [← e]
 ·intro e; exact (UInt8.toNat_inj.1 (by omega)).symm
theorem Zg6 {text:ByteArray} {j:Nat} (h:j < text.size):∀ us:List UInt8,Z2h text j (us.map fun u=>⟨#[u]⟩)=if us.any (fun u=>decide (Zc text j=u.toNat)) then text.extract j (j + 1) else ⟨#[]⟩:=by
 intro us;induction us with
 | nil=>simp [Z2h]
 | cons u us ih =>
   by_cases hu:Zc text j=u.toNat
   ·have hany : (u :: us).any (fun u => decide (Zc text j = u.toNat)) = true := by simp [hu]
    rw [Yb hany,List.map_cons,Z7q (by rw [Zdj h]; simpa using hu)];have h0:=Z3b hu;rw [Z56 text j 1 (by omega)];simp [List.range_succ,← h0]
   ·have hany : (u :: us).any (fun u => decide (Zc text j = u.toNat)) = us.any (fun u => decide (Zc text j = u.toNat)) := by simp [hu]
    rw [hany,List.map_cons,Z80 (by rw [Zdj h]; simpa using hu),ih]
theorem Zfa (u:UInt8):Z9i.any (fun x=>decide ((u.toNat:Int)=x.toNat))=Z5f u.toNat:=by
 have key:∀ n:Fin 256,Z9i.any (fun x=>decide (((UInt8.ofNat n.val).toNat:Int)=x.toNat))=Z5f ((UInt8.ofNat n.val).toNat:Int):=by decide +kernel
 have h:=key ⟨u.toNat,by have:=u.toNat_lt; omega⟩;simpa using h
theorem Zin {text:ByteArray} {j:Nat} (h:j < text.size) :
 (Z2h text j Z2l=⟨#[]⟩∧Z0a text j=1∧Z5f (Zc text j)=false) ∨
 (Z2h text j Z2l≠⟨#[]⟩∧¬ (Z0a text j=1∧Z5f (Zc text j)=false)∧Z2h text j Z2l=text.extract j (j + Z0a text j)∧(Z2h text j Z2l).size=Z0a text j∧j + Z0a text j≤text.size∧0 < Z0a text j):=by
 have e0:=pre0 text j;have e1:=pre1 text j;have e2:=pre2 text j;obtain ⟨t1,t2,t3⟩:=Zgd text j h;have hp:∀ m,preS text j (lit3 m)=preB text j m:=fun m=>rfl;have hf:Z2h text j Z2l=if preB text j 0 then lit3 0 else if preB text j 1 then lit3 1 else if preB text j 2 then lit3 2 else Z2h text j (Z9i.map fun u=>⟨#[u]⟩):=rfl;have hs:Z4a text j 3=if preB text j 2 then lit3 2 else if preB text j 1 then lit3 1 else if preB text j 0 then lit3 0 else text.extract j (j + 1):=rfl
 have big:∀ m,m < 3→Z2h text j Z2l=lit3 m→Z4a text j 3=lit3 m→Z0a text j≠1→(Z2h text j Z2l≠⟨#[]⟩∧¬ (Z0a text j=1∧Z5f (Zc text j)=false)∧Z2h text j Z2l=text.extract j (j + Z0a text j)∧(Z2h text j Z2l).size=Z0a text j∧j + Z0a text j≤text.size∧0 < Z0a text j):=by
  intro m hm h1 h2 h3;have hpos:0 < (lit3 m).size:=by
   match m,hm with
   | 0,_=>decide
   | 1,_=>decide
   | 2,_=>decide
  rw [h2] at t1 t2;refine ⟨?_,fun h=>h3 h.1,by rw [h1,← t1],by rw [h1,t2],t3,by omega⟩;rw [h1];intro e;rw [e] at hpos;exact absurd hpos (by decide)
 by_cases h0:preB text j 0=true
 ·have b := e0.1 h0;have n1 : ¬ preB text j 1 = true := fun x => by have := e1.1 x; omega
  have n2:¬ preB text j 2=true:=fun x=>by have:=e2.1 x; omega
  rw [Yb h0] at hf;rw [Y9 n2,Y9 n1,Yb h0] at hs;exact .inr (big 0 (by omega) hf hs (by simp [Z0a,b]))
 by_cases h1:preB text j 1=true
 ·have b := e1.1 h1;have n2 : ¬ preB text j 2 = true := fun x => by have := e2.1 x; omega
  rw [Y9 h0,Yb h1] at hf;rw [Y9 n2,Yb h1] at hs;exact .inr (big 1 (by omega) hf hs (by simp [Z0a,b]))
 by_cases h2:preB text j 2=true
 ·have b:=e2.1 h2;rw [Y9 h0,Y9 h1,Yb h2] at hf;rw [Yb h2] at hs;exact .inr (big 2 (by omega) hf hs (by simp [Z0a,b]))
 rw [Y9 h0,Y9 h1,Y9 h2,Zg6 h] at hf;have s1:Z0a text j=1:=by
  unfold Z0a;rw [Y9 (fun x=>h0 (e0.2 x)),Y9 (fun x=>h1 (e1.2 x)),Y9 (fun x=>h2 (e2.2 x))]
 have hany:Z9i.any (fun u=>decide (Zc text j=u.toNat))=Z5f (Zc text j):=Zfa (text.data.getD j 0);rw [hany] at hf;cases hb:Z5f (Zc text j) with
 | false =>
   rw [hb,Y9 (by simp)] at hf;exact .inl ⟨hf,s1,rfl⟩
 | true =>
   rw [hb,Yb rfl] at hf;have hz:(text.extract j (j + 1)).size=1:=by rw [ByteArray.size_extract]; omega
   refine .inr ⟨?_,by simp,by rw [hf,s1],by rw [hf,s1,hz],by omega,by omega⟩;intro e;rw [hf] at e;rw [e] at hz;exact absurd hz (by decide)
theorem Zgf {text:ByteArray} {f i:Nat} {l:List Tok} (hi:i < text.size) (hb:Z0x (Zc text i)=true):lexF text (f + 1) i l=lexF text (f + 1) (i + 1) l:=by
 simp only [lexF];rw [Z88 hi hb]
theorem Zhl {p:Int→Bool} {text:ByteArray} {i:Nat} (hb:p (Zc text i)=false):Z03 p text (text.size - i) i=i:=by
 cases h:text.size - i with
 | zero=>rfl
 | succ f=>simp only [Z03]; rw [Y9 (by simp [hb])]
theorem Zi0 {p:Int→Bool} {text:ByteArray} {i:Nat} (hi:text.size≤i):Z03 p text (text.size - i) i=i:=by
 rw [show text.size - i=0 by omega];rfl
def Zjc (w:World) (r:Except (Int×Nat) (List Tok)) (e:Ending) (w':World):Prop:=
 match r with
 | .ok l=>∃ v,e=.returned (.tuple #[v,.agg #[.int .i64 0,.int .i64 (-1)]])∧w'.ownsRow w.heap.size 48 4 v l.length (l.flatMap Tok.cells)
 | .error (c,p)=>e=.returned (.tuple #[.slice none 0 0,.agg #[.int .i64 c,.int .i64 p]])
def Z7e (w:World):Prop:=w.cell? ⟨0,0,none⟩=some (.int .i64 0)∧w.cell? ⟨0,1,none⟩=some (.int .i64 (-1))∧0 < w.heap.size
theorem Z7e.below {w w':World} (h:Z7e w) (hB:Below w.heap.size w w'):Z7e w':=
 ⟨(hB.cell (p:=⟨0,0,none⟩) h.2.2).trans h.1,(hB.cell (p:=⟨0,1,none⟩) h.2.2).trans h.2.1,Ye h.2.2 hB.size⟩
theorem Tryz.infoRTok:(Tryz.prog.info? 48).map (fun i=>(i.zero,i.size,i.bytes))=some (some (.agg #[.int .i64 0,.string ⟨#[]⟩,.int .i64 0,.int .i64 0]),4,40):=by kernel_rfl
structure RMid (w w':World) (v:Value) (l:List Tok):Prop where
 blk:w'.heap[w.heap.size]?=some (.cells #[.int .i64 0,.int .i64 0] 25 (0,0))
 bel:Below w.heap.size w w'
 own:w'.ownsRow (w.heap.size + 1) 48 4 v l.length (l.flatMap Tok.cells)
theorem Za5 {w:World} {base:Nat} {v:Value} {l:List Tok} {t:Tok} (h:w.ownsRow base 48 4 v (l.length + 1) (l.flatMap Tok.cells ++ t.cells)):w.ownsRow base 48 4 v (l ++ [t]).length ((l ++ [t]).flatMap Tok.cells):=by
 simpa using h
theorem RMid.app {w w1 w2:World} {v v2:Value} {l:List Tok} {t:Tok} {o:Obj} (m:RMid w w1 v l) (hg:(w1.alloc o).grownBy w2 v.ownBlock) (hown:w2.ownsRow (w.heap.size + 1) 48 4 v2 (l.length + 1) (l.flatMap Tok.cells ++ t.cells)):RMid w w2 v2 (l ++ [t]):=by
 have hlt:=(Y6.1 m.blk).1;have hne:v.ownBlock≠some w.heap.size:=fun e=>by have:=(Yh m.own _ e).1; omega
 have hb:Below w1.heap.size w1 (w1.alloc o):=(Y8 _ _).alloc (Y5 _) _;refine ⟨(hg.block w.heap.size (Ye hlt hb.size) (fun e=>hne e.symm)).trans ((hb.block _ hlt).trans m.blk),?_,Za5 hown⟩;exact (m.bel.alloc m.bel.size o).grown hg (Ya m.bel.size hb.size) fun k hk=>by have:=(Yh m.own k hk).1; omega
theorem RMid.app2 {w w1 W w2:World} {v v2:Value} {l:List Tok} {t:Tok} (m:RMid w w1 v l) (hB:Below w1.heap.size w1 W) (hg:W.grownBy w2 v.ownBlock) (hown:w2.ownsRow (w.heap.size + 1) 48 4 v2 (l.length + 1) (l.flatMap Tok.cells ++ t.cells)):RMid w w2 v2 (l ++ [t]):=by
 have hlt:=(Y6.1 m.blk).1;have hne:v.ownBlock≠some w.heap.size:=fun e=>by have:=(Yh m.own _ e).1; omega
 refine ⟨(hg.block w.heap.size (Ye hlt hB.size) (fun e=>hne e.symm)).trans ((hB.block _ hlt).trans m.blk),?_,Za5 hown⟩;exact (m.bel.trans (hB.mono m.bel.size)).grown hg (Ya m.bel.size hB.size) fun k hk=>by have:=(Yh m.own k hk).1; omega
theorem RMid.fin {w w1:World} {v:Value} {l:List Tok} (m:RMid w w1 v l) (a b:Value):((w1.setCell ⟨w.heap.size,0,none⟩ a).setCell ⟨w.heap.size,1,none⟩ b).ownsRow w.heap.size 48 4 v l.length (l.flatMap Tok.cells)∧Below w.heap.size w ((w1.setCell ⟨w.heap.size,0,none⟩ a).setCell ⟨w.heap.size,1,none⟩ b):=by
 refine ⟨Z6a (Nat.le_succ _) (Zq m.own fun k hk=>?_),(m.bel.setCell (p:=⟨w.heap.size,0,none⟩) (Y5 _) a).setCell (p:=⟨w.heap.size,1,none⟩) (Y5 _) b⟩;have:=(Yh m.own k hk).1;exact (Yg _ _ _ _ (by simp only; omega)).trans (Yg _ _ _ _ (by simp only; omega))
theorem RMid.on {w w1 w2:World} {v:Value} {l:List Tok} (m:RMid w w1 v l) (h:Below w1.heap.size w1 w2):RMid w w2 v l:=
 ⟨(h.block _ (Y6.1 m.blk).1).trans m.blk,m.bel.trans (h.mono m.bel.size),Zq m.own fun k hk=>h.block k (Yh m.own k hk).2⟩
theorem rres {w':World} {tmps:Array Value} {v:Value} {cb:Nat} {x y:Value} (h2:tmps.getD 2 undef=v) (h3:tmps.getD 3 undef=.pointer (some ⟨cb,0,none⟩)) (hx:w'.cell? ⟨cb,0,none⟩=some x) (hy:w'.cell? ⟨cb,1,none⟩=some y) :
 (results Tryz.f11 tmps).run Tryz.prog w'=.ok (.tuple #[v,.agg #[x,y]]) w':=by
 have h2':tmps[2]?.getD undef=v:=by simpa using h2
 have h3':tmps[3]?.getD undef=.pointer (some ⟨cb,0,none⟩):=by simpa using h3
 simp [results,go_sem,h2',h3',hx,hy]
theorem RMid.put {w w1:World} {v:Value} {l:List Tok} (m:RMid w w1 v l) (a b:Value):((w1.setCell ⟨w.heap.size,0,none⟩ a).setCell ⟨w.heap.size,1,none⟩ b).cell? ⟨w.heap.size,0,none⟩=some a∧((w1.setCell ⟨w.heap.size,0,none⟩ a).setCell ⟨w.heap.size,1,none⟩ b).cell? ⟨w.heap.size,1,none⟩=some b:=by
 have h1:=Z07 (o:=1) b (Z07 (o:=0) a m.blk);exact ⟨by simp [World.cell?,h1],by simp [World.cell?,h1]⟩
theorem Z93 (w:World) (c:Int):Calls Tryz.prog 27 #[.int .u8 c] w fun e w'=>e=.returned (.bool (Z13 c))∧w=w':=by
 by_cases h1:97≤c
 ·by_cases h2 : c ≤ 122
  ·have e : Z13 c = true := by simp [Z13, h1, h2]
   rw [e];go_enter Tryz.func27,Tryz.ntmps27
   go_wp2;go_ret;exact ⟨rfl,rfl⟩
  ·have e : Z13 c = false := by simp [Z13, h1, h2]; omega
   have h3:(c == 95)=false:=by simp; omega
   rw [e];go_enter Tryz.func27,Tryz.ntmps27
   go_wp2;go_ret;exact ⟨rfl,rfl⟩
 ·by_cases h3 : c = 95
  ·subst h3;go_enter Tryz.func27, Tryz.ntmps27
   go_wp2;go_ret;exact ⟨rfl,rfl⟩
  ·have e : Z13 c = false := by simp [Z13, h1, h3]
   have h3':(c == 95)=false:=by simp [h3]
   rw [e];go_enter Tryz.func27,Tryz.ntmps27
   go_wp2;go_ret;exact ⟨rfl,rfl⟩
theorem Z7u (w:World) (c:Int):Calls Tryz.prog 28 #[.int .u8 c] w fun e w'=>e=.returned (.bool (Z0q c))∧w=w':=by
 by_cases h1:48≤c
 ·by_cases h2 : c ≤ 57
  ·have e : Z0q c = true := by simp [Z0q, h1, h2]
   rw [e];go_enter Tryz.func28,Tryz.ntmps28
   go_wp2;go_ret;exact ⟨rfl,rfl⟩
  ·have e : Z0q c = false := by simp [Z0q, h2]
   rw [e];go_enter Tryz.func28,Tryz.ntmps28
   go_wp2;go_ret;exact ⟨rfl,rfl⟩
 ·have e : Z0q c = false := by simp [Z0q, h1]
  rw [e];go_enter Tryz.func28,Tryz.ntmps28
  go_wp2;go_ret;exact ⟨rfl,rfl⟩
theorem Zbq {zs:List ByteArray} {x:ByteArray} {i:Nat} (h:zs[i]?=some x):Lib.containsS zs x=true:=(Lib.containsS_iff _ _).2 (Yl h)
theorem Z9k {zs:List ByteArray} {x:ByteArray} (h:∀ i,i < zs.length→¬ zs[i]?=some x):Lib.containsS zs x=false:=by
 rw [← Bool.not_eq_true,Lib.containsS_iff];intro hm;obtain ⟨i,hi,e⟩:=List.mem_iff_getElem.1 hm;exact h i hi (by rw [Yd hi,e])
theorem Zio (w:World) (zs:List ByteArray) (s:ByteArray) (b off cap:Nat) (hz:zs.length≤1000000) (hc:∀ i x,zs[i]?=some x→w.cell? ⟨b,off + i,none⟩=some (.string x)) :
 Calls Tryz.prog 62 #[.slice (some ⟨b,off,none⟩) zs.length cap,.string s] w fun e w'=>e=.returned (.bool (Lib.containsS zs s))∧w=w':=by
 obtain ⟨n,hn⟩:=zX zs.length
 rw [← hn] at hz ⊢;have HN:=lh hn;have HC:=lh hc;clear hn hc;go_enter Tryz.func62,Tryz.ntmps62
 go_wp2;go_loop [9] (fun x=>∃ i:Nat,x=.int .i64 i∧i≤n∧∀ j,j < i→¬ zs[j]?=some s) (fun x=>n - (intOf x).toNat)
 case atStart=>exact ⟨0,rfl,by omega,fun j hj=>by omega⟩
 case round=>
  obtain ⟨i,rfl,hi,hno⟩:=hrel;have HNo:=lh hno;clear hno;by_cases hin:i < n
  ·obtain ⟨x, hx⟩ : ∃ x, zs[i]? = some x := ⟨_, Yd (by have := HN.out; omega)⟩
   have hcx:=HC.out i x hx;have HX:=lh hx;clear hx;by_cases hxs:x=s
   ·subst hxs;go_wp2;go_ret;rw [Zbq HX.out];exact ⟨rfl,rfl⟩
   ·have hxl:¬ x.toList=s.toList:=fun h=>hxs (by
     obtain ⟨⟨a⟩⟩:=x; obtain ⟨⟨b⟩⟩:=s;simpa [ByteArray.toList_eq] using h)
    have hxl':(x.toList == s.toList)=false:=by simpa using hxl
    have HXS:=lh hxs;clear hxs;go_wp2;go_round
    case rel=>exact ⟨i + 1,by go_num,by omega,fun j hj=>by
     by_cases e:j=i;·subst e; rw [HX.out]; intro h; exact HXS.out (Yk h)
     ·exact HNo.out j (by omega)⟩
    case measure=>simp [intOf]; omega
  ·go_wp2;go_ret;rw [Z9k (fun j hj=>HNo.out j (by have:=HN.out; omega))];exact ⟨rfl,rfl⟩
def Z7k (w:World):Prop:=∃ b off cap,w.cell? ⟨2,0,none⟩=some (.slice (some ⟨b,off,none⟩) Z55.length cap)∧∀ i x,Z55[i]?=some x→w.cell? ⟨b,off + i,none⟩=some (.string x)
theorem Z7k.below {w w':World} (h:Z7k w) (hB:Below w.heap.size w w'):Z7k w':=by
 obtain ⟨b,off,cap,h1,h2⟩:=h;have lt:∀ {p:Addr} {x:Value},p.spot=none→w.cell? p=some x→p.block < w.heap.size:=by
  intro p x _ hc;rcases Nat.lt_or_ge p.block w.heap.size with h' | h';·exact h'
  ·simp [World.cell?,Array.getElem?_eq_none h'] at hc
 exact ⟨b,off,cap,(hB.cell (lt rfl h1)).trans h1,fun i x hx=>(hB.cell (lt rfl (h2 i x hx))).trans (h2 i x hx)⟩
theorem Z8x (w:World) (s:ByteArray) (hW:Z7k w) :
 Calls Tryz.prog 29 #[.string s] w fun e w'=>e=.returned (.bool (Z2z s))∧w=w':=by
 obtain ⟨b,off,cap,h1,h2⟩:=hW;have HC:=lh (Zio w Z55 s b off cap (by rw [Z6j]; omega) h2);unfold Z2z;clear h2;generalize Lib.containsS Z55 s=B at HC ⊢;go_enter Tryz.func29,Tryz.ntmps29
 go_wp2_with fail
 refine HC.out.mono ?_;rintro e w1 ⟨rfl,rfl⟩;go_wp2;go_ret;exact ⟨rfl,rfl⟩
end Go.Proofs.YtmeiggjboakmpaaGreatDoor
namespace Go.Proofs
set_option maxRecDepth 100000
set_option maxHeartbeats 20000000
set_option linter.unusedVariables false
def Tryz.lays172_ren:Go.Shelf.Ren:=⟨fun | 172=>30 | 244=>63 | 245=>64 | 247=>92 | 279=>93 | 280=>94 | 281=>95 | 282=>96 | 287=>110 | 316=>111 | 171=>84 | 205=>112 | 321=>123 | 322=>124 | 243=>106 | 246=>119 | 283=>128 | 284=>129 | 285=>130 | 286=>131 | 129=>137 | 317=>136 | 318=>138 | 319=>139 | 320=>140 | 337=>148 | 338=>149 | n=>n,fun | 9=>9 | 3=>3 | 75=>29 | 76=>74 | 4=>4 | 5=>5 | 167=>125 | 37=>67 | 0=>0 | 85=>126 | 2=>2 | 168=>128 | 53=>147 | 175=>148 | 46=>150 | 210=>152 | 127=>103 | 145=>188 | 143=>186 | 21=>21 | 171=>191 | 173=>194 | 212=>199 | 51=>170 | 20=>20 | 213=>200 | 232=>233 | 233=>234 | 80=>72 | n=>n,fun | 15=>6 | 16=>7 | 17=>10 | 18=>11 | 19=>12 | n=>n⟩
theorem Tryz.lays172:Go.Proofs.Lays.n172 Tryz.prog Tryz.lays172_ren:={
 mixed:=by kernel_rfl
 f129:=Tryz.func137.trans (congrArg some (by kernel_rfl))
 f171:=Tryz.func84.trans (congrArg some (by kernel_rfl))
 f172:=Tryz.func30.trans (congrArg some (by kernel_rfl))
 f205:=Tryz.func112.trans (congrArg some (by kernel_rfl))
 f243:=Tryz.func106.trans (congrArg some (by kernel_rfl))
 f244:=Tryz.func63.trans (congrArg some (by kernel_rfl))
 f245:=Tryz.func64.trans (congrArg some (by kernel_rfl))
 f246:=Tryz.func119.trans (congrArg some (by kernel_rfl))
 f247:=Tryz.func92.trans (congrArg some (by kernel_rfl))
 f279:=Tryz.func93.trans (congrArg some (by kernel_rfl))
 f280:=Tryz.func94.trans (congrArg some (by kernel_rfl))
 f281:=Tryz.func95.trans (congrArg some (by kernel_rfl))
 f282:=Tryz.func96.trans (congrArg some (by kernel_rfl))
 f283:=Tryz.func128.trans (congrArg some (by kernel_rfl))
 f284:=Tryz.func129.trans (congrArg some (by kernel_rfl))
 f285:=Tryz.func130.trans (congrArg some (by kernel_rfl))
 f286:=Tryz.func131.trans (congrArg some (by kernel_rfl))
 f287:=Tryz.func110.trans (congrArg some (by kernel_rfl))
 f316:=Tryz.func111.trans (congrArg some (by kernel_rfl))
 f317:=Tryz.func136.trans (congrArg some (by kernel_rfl))
 f318:=Tryz.func138.trans (congrArg some (by kernel_rfl))
 f319:=Tryz.func139.trans (congrArg some (by kernel_rfl))
 f320:=Tryz.func140.trans (congrArg some (by kernel_rfl))
 f321:=Tryz.func123.trans (congrArg some (by kernel_rfl))
 f322:=Tryz.func124.trans (congrArg some (by kernel_rfl))
 f337:=Tryz.func148.trans (congrArg some (by kernel_rfl))
 f338:=Tryz.func149.trans (congrArg some (by kernel_rfl))
 t0:=Tryz.underlying0
 a0:=Tryz.isAgg0
 z0:=Tryz.sizeOf0
 v0:=Tryz.zeroValue0
 t2:=Tryz.underlying2
 a2:=Tryz.isAgg2
 z2:=Tryz.sizeOf2
 v2:=Tryz.zeroValue2
 t3:=Tryz.underlying3
 a3:=Tryz.isAgg3
 z3:=Tryz.sizeOf3
 v3:=Tryz.zeroValue3
 t4:=Tryz.underlying4
 a4:=Tryz.isAgg4
 z4:=Tryz.sizeOf4
 v4:=Tryz.zeroValue4
 t5:=Tryz.underlying5
 a5:=Tryz.isAgg5
 z5:=Tryz.sizeOf5
 v5:=Tryz.zeroValue5
 t9:=Tryz.underlying9
 a9:=Tryz.isAgg9
 z9:=Tryz.sizeOf9
 v9:=Tryz.zeroValue9
 t20:=Tryz.underlying20
 a20:=Tryz.isAgg20
 z20:=Tryz.sizeOf20
 v20:=Tryz.zeroValue20
 t21:=Tryz.underlying21
 a21:=Tryz.isAgg21
 z21:=Tryz.sizeOf21
 v21:=Tryz.zeroValue21
 t37:=Tryz.underlying67
 a37:=Tryz.isAgg67
 z37:=Tryz.sizeOf67
 v37:=Tryz.zeroValue67
 t46:=Tryz.underlying150
 a46:=Tryz.isAgg150
 z46:=Tryz.sizeOf150
 v46:=Tryz.zeroValue150
 t51:=Tryz.underlying170
 a51:=Tryz.isAgg170
 z51:=Tryz.sizeOf170
 v51:=Tryz.zeroValue170
 t53:=Tryz.underlying147
 a53:=Tryz.isAgg147
 z53:=Tryz.sizeOf147
 v53:=Tryz.zeroValue147
 t75:=Tryz.underlying29
 a75:=Tryz.isAgg29
 z75:=Tryz.sizeOf29
 v75:=Tryz.zeroValue29
 t76:=Tryz.underlying74
 a76:=Tryz.isAgg74
 z76:=Tryz.sizeOf74
 v76:=Tryz.zeroValue74
 t85:=Tryz.underlying126
 a85:=Tryz.isAgg126
 z85:=Tryz.sizeOf126
 v85:=Tryz.zeroValue126
 t127:=Tryz.underlying103
 a127:=Tryz.isAgg103
 z127:=Tryz.sizeOf103
 v127:=Tryz.zeroValue103
 t143:=Tryz.underlying186
 a143:=Tryz.isAgg186
 z143:=Tryz.sizeOf186
 v143:=Tryz.zeroValue186
 t145:=Tryz.underlying188
 a145:=Tryz.isAgg188
 z145:=Tryz.sizeOf188
 v145:=Tryz.zeroValue188
 t167:=Tryz.underlying125
 a167:=Tryz.isAgg125
 z167:=Tryz.sizeOf125
 v167:=Tryz.zeroValue125
 t168:=Tryz.underlying128
 a168:=Tryz.isAgg128
 z168:=Tryz.sizeOf128
 v168:=Tryz.zeroValue128
 t171:=Tryz.underlying191
 a171:=Tryz.isAgg191
 z171:=Tryz.sizeOf191
 v171:=Tryz.zeroValue191
 t173:=Tryz.underlying194
 a173:=Tryz.isAgg194
 z173:=Tryz.sizeOf194
 v173:=Tryz.zeroValue194
 t175:=Tryz.underlying148
 a175:=Tryz.isAgg148
 z175:=Tryz.sizeOf148
 v175:=Tryz.zeroValue148
 t210:=Tryz.underlying152
 a210:=Tryz.isAgg152
 z210:=Tryz.sizeOf152
 v210:=Tryz.zeroValue152
 t212:=Tryz.underlying199
 a212:=Tryz.isAgg199
 z212:=Tryz.sizeOf199
 v212:=Tryz.zeroValue199
 t213:=Tryz.underlying200
 a213:=Tryz.isAgg200
 z213:=Tryz.sizeOf200
 t232:=Tryz.underlying233
 a232:=Tryz.isAgg233
 z232:=Tryz.sizeOf233
 v232:=Tryz.zeroValue233
 t233:=Tryz.underlying234
 a233:=Tryz.isAgg234
 z233:=Tryz.sizeOf234
 v233:=Tryz.zeroValue234
 g15:=by kernel_rfl
 g16:=by kernel_rfl
 g17:=by kernel_rfl
 g18:=by kernel_rfl
 g19:=by kernel_rfl }
open Go.RowKit in
theorem Tryz.strconv_Atoi (s:ByteArray) (n:Int) (hl:s.size≤18) (h:Lib.atoi s.data.toList=some n) (w:World) :
 Calls Tryz.prog 30 #[.string s] w fun e w'=>e=.returned (.tuple #[.int .i64 n,.nilIface])∧∃ t,w'=Lib.bytesWorld w 5 t:=Any.strconv_Atoi Tryz.lays172 s n hl h w
end Go.Proofs
