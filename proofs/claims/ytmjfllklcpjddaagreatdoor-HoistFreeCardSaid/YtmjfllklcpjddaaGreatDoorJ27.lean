/- The reference's Tokens, plain: numbers, strings, signs. -/
import Derived.Test.YtmjfllklcpjddaaGreatDoorJ05
import Derived.Lib.Atoi
import Derived.Lib.SmallJoins
import Derived.Shelf.Strconv.Atoi
namespace Go.Proofs.YtmjfllklcpjddaaGreatDoor
open Go Go.RowKit
set_option maxRecDepth 100000
set_option maxHeartbeats 20000000
set_option linter.unusedVariables false
theorem Z6x (text:ByteArray) {j k:Nat} (hj:j≤k) (hk:k≤text.size):(text.extract j k).data.toList=(text.data.toList.drop j).take (k - j):=by
 rw [ByteArray.data_extract,Array.toList_extract]
theorem Z6w {text:ByteArray} {j:Nat} (h:j < text.size):text.data.toList.drop j=text.data.getD j 0 :: text.data.toList.drop (j + 1):=by
 have h':j < text.data.toList.length:=by simpa using h
 have h2:j < text.data.size:=h;rw [List.drop_eq_getElem_cons h'];congr 1
 simp only [Array.getD,dif_pos h2];rfl
theorem Zjd {text:ByteArray} {k:Nat} (hk:k≤text.size):∀ (f j acc:Nat),k - j=f→j≤k→(∀ m,j≤m→m < k→Z0j (Z8 text m)=true)→∃ n:Nat,Lib.decFrom acc ((text.data.toList.drop j).take (k - j))=some n∧numF text k f j acc=n:=by
 intro f;induction f with
 | zero =>
   intro j acc hf hj _;rw [hf];exact ⟨acc,by simp [Lib.decFrom],rfl⟩
 | succ f ih =>
   intro j acc hf hj hd;have hjk:j < k:=by omega
   have hdj:=hd j (Y5 _) hjk;obtain ⟨n,h1,h2⟩:=ih (j + 1) (acc * 10 + ((text.data.getD j 0).toNat - 48)) (by omega) (by omega) (fun m a b=>hd m (by omega) b);have hb:48≤(text.data.getD j 0).toNat∧(text.data.getD j 0).toNat≤57:=by
    have:Z8 text j=((text.data.getD j 0).toNat:Int):=rfl;rw [this] at hdj;simp only [Z0j,Bool.and_eq_true,decide_eq_true_eq] at hdj;omega
   refine ⟨n,?_,?_⟩
   ·rw [hf,Z6w (by omega),List.take_succ_cons];simp only [Lib.decFrom,Lib.digitVal,hb,and_self,if_true];rw [show f=k - (j + 1) by omega];exact h1
   ·simp only [numF];rw [Yb hjk, ← h2];congr 1
    have:Z8 text j=((text.data.getD j 0).toNat:Int):=rfl;rw [this];omega
theorem Z8a {text:ByteArray} {i m:Nat} (him:i < m) (hm:m≤text.size) (hd:∀ x,i≤x→x < m→Z0j (Z8 text x)=true):Lib.atoi (text.extract i m).data.toList=some (numF text m (m - i) i 0):=by
 obtain ⟨n,h1,h2⟩:=Zjd hm (m - i) i 0 rfl (by omega) hd;rw [Z6x text (by omega) hm];have hdj:=hd i (Y5 _) him;have hb:48≤(text.data.getD i 0).toNat∧(text.data.getD i 0).toNat≤57:=by
  have:Z8 text i=((text.data.getD i 0).toNat:Int):=rfl;rw [this] at hdj;simp only [Z0j,Bool.and_eq_true,decide_eq_true_eq] at hdj;omega
 obtain ⟨g,hg⟩:∃ g,m - i=g + 1:=⟨m - i - 1,by omega⟩
 rw [hg,Z6w (by omega),List.take_succ_cons] at h1 ⊢;have e1:(text.data.getD i 0 == 45)=false:=by
  rw [beq_eq_false_iff_ne]; intro e; rw [e] at hb; exact absurd hb.1 (by decide)
 have e2:(text.data.getD i 0 == 43)=false:=by
  rw [beq_eq_false_iff_ne]; intro e; rw [e] at hb; exact absurd hb.1 (by decide)
 simp only [Lib.atoi,e1,e2,Bool.false_eq_true,if_false,Lib.decNat,List.isEmpty_cons];rw [h1];simp only [Option.map_some];rw [← hg,← h2];rfl
theorem Zb2 (acc:List UInt8) {text:ByteArray} {m:Nat} (h:m < text.size):(⟨acc.toArray⟩:ByteArray) ++ text.extract m (m + 1)=⟨(acc ++ [text.data.getD m 0]).toArray⟩:=by
 apply ByteArray.ext;rw [ByteArray.data_append];apply Array.ext';rw [Array.toList_append,Z6x text (by omega) (by omega),show m + 1 - m=1 by omega,Z6w h];simp
theorem Zkb (acc:List UInt8) (u:UInt8):(⟨acc.toArray⟩:ByteArray) ++ ⟨#[u]⟩=⟨(acc ++ [u]).toArray⟩:=by
 apply ByteArray.ext;rw [ByteArray.data_append];apply Array.ext';simp
def Z25:List ByteArray:=lit3 0 :: lit3 1 :: lit3 2 :: Z9i.map fun u=>⟨#[u]⟩
def preS (text:ByteArray) (j:Nat) (s:ByteArray):Bool:=s.data.toList.isPrefixOf (text.data.toList.drop j)
def Z1z (text:ByteArray) (j:Nat):List ByteArray→ByteArray
 | []=>⟨#[]⟩
 | s :: r=>if preS text j s then s else Z1z text j r
theorem Z7t {text:ByteArray} {j:Nat} {s:ByteArray} {r:List ByteArray} (h:preS text j s=true):Z1z text j (s :: r)=s:=by
 simp only [Z1z];rw [Yb h]
theorem Z7q {text:ByteArray} {j:Nat} {s:ByteArray} {r:List ByteArray} (h:¬ preS text j s=true):Z1z text j (s :: r)=Z1z text j r:=by
 simp only [Z1z];rw [Y9 h]
theorem Zd4 (text:ByteArray) (j:Nat) (l:List ByteArray) (s:ByteArray) (hl:∀ x∈l,x≠⟨#[]⟩):Z1z text j (l ++ [s])=if Z1z text j l=⟨#[]⟩ then (if preS text j s then s else ⟨#[]⟩) else Z1z text j l:=by
 induction l with
 | nil=>simp [Z1z]
 | cons x l ih =>
   by_cases h:preS text j x=true;·rw [List.cons_append,Z7t h,Z7t h,Y9 (hl x (by simp))]
   ·rw [List.cons_append,Z7q h,Z7q h];exact ih fun y hy=>hl y (by simp [hy])
theorem Zcn:∀ x∈Z25,x≠⟨#[]⟩:=by
 intro x hx e;have h:Z25.all (fun s=>decide (0 < s.size))=true:=by kernel_rfl
 have:=List.all_eq_true.1 h x hx;rw [e] at this;exact absurd this (by decide)
theorem Zdz {text:ByteArray} {j:Nat} (h:j < text.size) (u:UInt8):preS text j ⟨#[u]⟩=decide (Z8 text j=u.toNat):=by
 unfold preS;rw [Z6w h];have hb:Z8 text j=((text.data.getD j 0).toNat:Int):=rfl;rw [hb];simp only [List.isPrefixOf,Bool.and_true];rw [Bool.eq_iff_iff];simp only [beq_iff_eq,decide_eq_true_eq];constructor;·intro e; rw [← e]
 ·intro e; exact (UInt8.toNat_inj.1 (by omega)).symm
theorem Zg2 {text:ByteArray} {j:Nat} (h:j < text.size):∀ us:List UInt8,Z1z text j (us.map fun u=>⟨#[u]⟩)=if us.any (fun u=>decide (Z8 text j=u.toNat)) then text.extract j (j + 1) else ⟨#[]⟩:=by
 intro us;induction us with
 | nil=>simp [Z1z]
 | cons u us ih =>
   by_cases hu:Z8 text j=u.toNat
   ·have hany : (u :: us).any (fun u => decide (Z8 text j = u.toNat)) = true := by simp [hu]
    rw [Yb hany,List.map_cons,Z7t (by rw [Zdz h]; simpa using hu)];have h0:=Z2y hu;rw [Z4k text j 1 (by omega)];simp [List.range_succ,← h0]
   ·have hany : (u :: us).any (fun u => decide (Z8 text j = u.toNat)) = us.any (fun u => decide (Z8 text j = u.toNat)) := by simp [hu]
    rw [hany,List.map_cons,Z7q (by rw [Zdz h]; simpa using hu),ih]
theorem Zff (u:UInt8):Z9i.any (fun x=>decide ((u.toNat:Int)=x.toNat))=Z5g u.toNat:=by
 have key:∀ n:Fin 256,Z9i.any (fun x=>decide (((UInt8.ofNat n.val).toNat:Int)=x.toNat))=Z5g ((UInt8.ofNat n.val).toNat:Int):=by decide +kernel
 have h:=key ⟨u.toNat,by have:=u.toNat_lt; omega⟩;simpa using h
theorem Zi9 {text:ByteArray} {j:Nat} (h:j < text.size) :
 (Z1z text j Z25=⟨#[]⟩∧Zt text j=1∧Z5g (Z8 text j)=false) ∨
 (Z1z text j Z25≠⟨#[]⟩∧¬ (Zt text j=1∧Z5g (Z8 text j)=false)∧Z1z text j Z25=text.extract j (j + Zt text j)∧(Z1z text j Z25).size=Zt text j∧j + Zt text j≤text.size∧0 < Zt text j):=by
 have e0:=pre0 text j;have e1:=pre1 text j;have e2:=pre2 text j;obtain ⟨t1,t2,t3⟩:=Zgh text j h;have hp:∀ m,preS text j (lit3 m)=preB text j m:=fun m=>rfl;have hf:Z1z text j Z25=if preB text j 0 then lit3 0 else if preB text j 1 then lit3 1 else if preB text j 2 then lit3 2 else Z1z text j (Z9i.map fun u=>⟨#[u]⟩):=rfl;have hs:Z3q text j 3=if preB text j 2 then lit3 2 else if preB text j 1 then lit3 1 else if preB text j 0 then lit3 0 else text.extract j (j + 1):=rfl
 have big:∀ m,m < 3→Z1z text j Z25=lit3 m→Z3q text j 3=lit3 m→Zt text j≠1→(Z1z text j Z25≠⟨#[]⟩∧¬ (Zt text j=1∧Z5g (Z8 text j)=false)∧Z1z text j Z25=text.extract j (j + Zt text j)∧(Z1z text j Z25).size=Zt text j∧j + Zt text j≤text.size∧0 < Zt text j):=by
  intro m hm h1 h2 h3;have hpos:0 < (lit3 m).size:=by
   match m,hm with
   | 0,_=>decide
   | 1,_=>decide
   | 2,_=>decide
  rw [h2] at t1 t2;refine ⟨?_,fun h=>h3 h.1,by rw [h1,← t1],by rw [h1,t2],t3,by omega⟩;rw [h1];intro e;rw [e] at hpos;exact absurd hpos (by decide)
 by_cases h0:preB text j 0=true
 ·have b := e0.1 h0;have n1 : ¬ preB text j 1 = true := fun x => by have := e1.1 x; omega
  have n2:¬ preB text j 2=true:=fun x=>by have:=e2.1 x; omega
  rw [Yb h0] at hf;rw [Y9 n2,Y9 n1,Yb h0] at hs;exact .inr (big 0 (by omega) hf hs (by simp [Zt,b]))
 by_cases h1:preB text j 1=true
 ·have b := e1.1 h1;have n2 : ¬ preB text j 2 = true := fun x => by have := e2.1 x; omega
  rw [Y9 h0,Yb h1] at hf;rw [Y9 n2,Yb h1] at hs;exact .inr (big 1 (by omega) hf hs (by simp [Zt,b]))
 by_cases h2:preB text j 2=true
 ·have b:=e2.1 h2;rw [Y9 h0,Y9 h1,Yb h2] at hf;rw [Yb h2] at hs;exact .inr (big 2 (by omega) hf hs (by simp [Zt,b]))
 rw [Y9 h0,Y9 h1,Y9 h2,Zg2 h] at hf;have s1:Zt text j=1:=by
  unfold Zt;rw [Y9 (fun x=>h0 (e0.2 x)),Y9 (fun x=>h1 (e1.2 x)),Y9 (fun x=>h2 (e2.2 x))]
 have hany:Z9i.any (fun u=>decide (Z8 text j=u.toNat))=Z5g (Z8 text j):=Zff (text.data.getD j 0);rw [hany] at hf;cases hb:Z5g (Z8 text j) with
 | false =>
   rw [hb,Y9 (by simp)] at hf;exact .inl ⟨hf,s1,rfl⟩
 | true =>
   rw [hb,Yb rfl] at hf;have hz:(text.extract j (j + 1)).size=1:=by rw [ByteArray.size_extract]; omega
   refine .inr ⟨?_,by simp,by rw [hf,s1],by rw [hf,s1,hz],by omega,by omega⟩;intro e;rw [hf] at e;rw [e] at hz;exact absurd hz (by decide)
end Go.Proofs.YtmjfllklcpjddaaGreatDoor
namespace Go.Proofs.YtmjfllklcpjddaaGreatDoor
open Go Go.RowKit
set_option maxRecDepth 100000
set_option maxHeartbeats 20000000
set_option linter.unusedVariables false
theorem Zhc {text:ByteArray} {f i:Nat} {l:List Tok} (hi:i < text.size) (hb:Z1f (Z8 text i)=true):lexF text (f + 1) i l=lexF text (f + 1) (i + 1) l:=by
 simp only [lexF];rw [Z7y hi hb]
theorem Zgu {p:Int→Bool} {text:ByteArray} {i:Nat} (hb:p (Z8 text i)=false):Zz p text (text.size - i) i=i:=by
 cases h:text.size - i with
 | zero=>rfl
 | succ f=>simp only [Zz]; rw [Y9 (by simp [hb])]
theorem Zi1 {p:Int→Bool} {text:ByteArray} {i:Nat} (hi:text.size≤i):Zz p text (text.size - i) i=i:=by
 rw [show text.size - i=0 by omega];rfl
def Zix (w:World) (r:Except (Int×Nat) (List Tok)) (e:Ending) (w':World):Prop:=
 match r with
 | .ok l=>∃ v,e=.returned (.tuple #[v,.agg #[.int .i64 0,.int .i64 (-1)]])∧w'.ownsRow w.heap.size 58 4 v l.length (l.flatMap Tok.cells)
 | .error (c,p)=>e=.returned (.tuple #[.slice none 0 0,.agg #[.int .i64 c,.int .i64 p]])
def Z69 (w:World):Prop:=w.cell? ⟨0,0,none⟩=some (.int .i64 0)∧w.cell? ⟨0,1,none⟩=some (.int .i64 (-1))∧0 < w.heap.size
theorem Z69.below {w w':World} (h:Z69 w) (hB:Below w.heap.size w w'):Z69 w':=
 ⟨(hB.cell (p:=⟨0,0,none⟩) h.2.2).trans h.1,(hB.cell (p:=⟨0,1,none⟩) h.2.2).trans h.2.1,Ye h.2.2 hB.size⟩
theorem Tryz.infoRTok:(Tryz.prog.info? 58).map (fun i=>(i.zero,i.size,i.bytes))=some (some (.agg #[.int .i64 0,.string ⟨#[]⟩,.int .i64 0,.int .i64 0]),4,40):=by kernel_rfl
structure RMid (w w':World) (v:Value) (l:List Tok):Prop where
 blk:w'.heap[w.heap.size]?=some (.cells #[.int .i64 0,.int .i64 0] 31 (0,0))
 bel:Below w.heap.size w w'
 own:w'.ownsRow (w.heap.size + 1) 58 4 v l.length (l.flatMap Tok.cells)
theorem Zaf {w:World} {base:Nat} {v:Value} {l:List Tok} {t:Tok} (h:w.ownsRow base 58 4 v (l.length + 1) (l.flatMap Tok.cells ++ t.cells)):w.ownsRow base 58 4 v (l ++ [t]).length ((l ++ [t]).flatMap Tok.cells):=by
 simpa using h
theorem RMid.app {w w1 w2:World} {v v2:Value} {l:List Tok} {t:Tok} {o:Obj} (m:RMid w w1 v l) (hg:(w1.alloc o).grownBy w2 v.ownBlock) (hown:w2.ownsRow (w.heap.size + 1) 58 4 v2 (l.length + 1) (l.flatMap Tok.cells ++ t.cells)):RMid w w2 v2 (l ++ [t]):=by
 have hlt:=(Y6.1 m.blk).1;have hne:v.ownBlock≠some w.heap.size:=fun e=>by have:=(Yh m.own _ e).1; omega
 have hb:Below w1.heap.size w1 (w1.alloc o):=(Y8 _ _).alloc (Y5 _) _;refine ⟨(hg.block w.heap.size (Ye hlt hb.size) (fun e=>hne e.symm)).trans ((hb.block _ hlt).trans m.blk),?_,Zaf hown⟩;exact (m.bel.alloc m.bel.size o).grown hg (Ya m.bel.size hb.size) fun k hk=>by have:=(Yh m.own k hk).1; omega
theorem RMid.app2 {w w1 W w2:World} {v v2:Value} {l:List Tok} {t:Tok} (m:RMid w w1 v l) (hB:Below w1.heap.size w1 W) (hg:W.grownBy w2 v.ownBlock) (hown:w2.ownsRow (w.heap.size + 1) 58 4 v2 (l.length + 1) (l.flatMap Tok.cells ++ t.cells)):RMid w w2 v2 (l ++ [t]):=by
 have hlt:=(Y6.1 m.blk).1;have hne:v.ownBlock≠some w.heap.size:=fun e=>by have:=(Yh m.own _ e).1; omega
 refine ⟨(hg.block w.heap.size (Ye hlt hB.size) (fun e=>hne e.symm)).trans ((hB.block _ hlt).trans m.blk),?_,Zaf hown⟩;exact (m.bel.trans (hB.mono m.bel.size)).grown hg (Ya m.bel.size hB.size) fun k hk=>by have:=(Yh m.own k hk).1; omega
theorem RMid.fin {w w1:World} {v:Value} {l:List Tok} (m:RMid w w1 v l) (a b:Value):((w1.setCell ⟨w.heap.size,0,none⟩ a).setCell ⟨w.heap.size,1,none⟩ b).ownsRow w.heap.size 58 4 v l.length (l.flatMap Tok.cells)∧Below w.heap.size w ((w1.setCell ⟨w.heap.size,0,none⟩ a).setCell ⟨w.heap.size,1,none⟩ b):=by
 refine ⟨Z1u (Nat.le_succ _) (Zh m.own fun k hk=>?_),(m.bel.setCell (p:=⟨w.heap.size,0,none⟩) (Y5 _) a).setCell (p:=⟨w.heap.size,1,none⟩) (Y5 _) b⟩;have:=(Yh m.own k hk).1;exact (Yg _ _ _ _ (by simp only; omega)).trans (Yg _ _ _ _ (by simp only; omega))
theorem RMid.on {w w1 w2:World} {v:Value} {l:List Tok} (m:RMid w w1 v l) (h:Below w1.heap.size w1 w2):RMid w w2 v l:=
 ⟨(h.block _ (Y6.1 m.blk).1).trans m.blk,m.bel.trans (h.mono m.bel.size),Zh m.own fun k hk=>h.block k (Yh m.own k hk).2⟩
theorem rres {w':World} {tmps:Array Value} {v:Value} {cb:Nat} {x y:Value} (h2:tmps.getD 2 undef=v) (h3:tmps.getD 3 undef=.pointer (some ⟨cb,0,none⟩)) (hx:w'.cell? ⟨cb,0,none⟩=some x) (hy:w'.cell? ⟨cb,1,none⟩=some y) :
 (results Tryz.f19 tmps).run Tryz.prog w'=.ok (.tuple #[v,.agg #[x,y]]) w':=by
 have h2':tmps[2]?.getD undef=v:=by simpa using h2
 have h3':tmps[3]?.getD undef=.pointer (some ⟨cb,0,none⟩):=by simpa using h3
 simp [results,go_sem,h2',h3',hx,hy]
theorem RMid.put {w w1:World} {v:Value} {l:List Tok} (m:RMid w w1 v l) (a b:Value):((w1.setCell ⟨w.heap.size,0,none⟩ a).setCell ⟨w.heap.size,1,none⟩ b).cell? ⟨w.heap.size,0,none⟩=some a∧((w1.setCell ⟨w.heap.size,0,none⟩ a).setCell ⟨w.heap.size,1,none⟩ b).cell? ⟨w.heap.size,1,none⟩=some b:=by
 have h1:=Zm (o:=1) b (Zm (o:=0) a m.blk);exact ⟨by simp [World.cell?,h1],by simp [World.cell?,h1]⟩
end Go.Proofs.YtmjfllklcpjddaaGreatDoor
namespace Go.Proofs.YtmjfllklcpjddaaGreatDoor
open Go Go.RowKit
set_option maxRecDepth 100000
set_option maxHeartbeats 20000000
set_option linter.unusedVariables false
theorem Z9d (w:World) (c:Int):Calls Tryz.prog 40 #[.int .u8 c] w fun e w'=>e=.returned (.bool (Z0k c))∧w=w':=by
 by_cases h1:97≤c
 ·by_cases h2 : c ≤ 122
  ·have e : Z0k c = true := by simp [Z0k, h1, h2]
   rw [e];go_enter Tryz.func40,Tryz.ntmps40
   go_wp2;go_ret;exact ⟨rfl,rfl⟩
  ·have e : Z0k c = false := by simp [Z0k, h1, h2]; omega
   have h3:(c == 95)=false:=by simp; omega
   rw [e];go_enter Tryz.func40,Tryz.ntmps40
   go_wp2;go_ret;exact ⟨rfl,rfl⟩
 ·by_cases h3 : c = 95
  ·subst h3;go_enter Tryz.func40, Tryz.ntmps40
   go_wp2;go_ret;exact ⟨rfl,rfl⟩
  ·have e : Z0k c = false := by simp [Z0k, h1, h3]
   have h3':(c == 95)=false:=by simp [h3]
   rw [e];go_enter Tryz.func40,Tryz.ntmps40
   go_wp2;go_ret;exact ⟨rfl,rfl⟩
theorem Z7p (w:World) (c:Int):Calls Tryz.prog 41 #[.int .u8 c] w fun e w'=>e=.returned (.bool (Z0j c))∧w=w':=by
 by_cases h1:48≤c
 ·by_cases h2 : c ≤ 57
  ·have e : Z0j c = true := by simp [Z0j, h1, h2]
   rw [e];go_enter Tryz.func41,Tryz.ntmps41
   go_wp2;go_ret;exact ⟨rfl,rfl⟩
  ·have e : Z0j c = false := by simp [Z0j, h2]
   rw [e];go_enter Tryz.func41,Tryz.ntmps41
   go_wp2;go_ret;exact ⟨rfl,rfl⟩
 ·have e : Z0j c = false := by simp [Z0j, h1]
  rw [e];go_enter Tryz.func41,Tryz.ntmps41
  go_wp2;go_ret;exact ⟨rfl,rfl⟩
theorem Zbu {zs:List ByteArray} {x:ByteArray} {i:Nat} (h:zs[i]?=some x):Lib.containsS zs x=true:=(Lib.containsS_iff _ _).2 (Yl h)
theorem Z9s {zs:List ByteArray} {x:ByteArray} (h:∀ i,i < zs.length→¬ zs[i]?=some x):Lib.containsS zs x=false:=by
 rw [← Bool.not_eq_true,Lib.containsS_iff];intro hm;obtain ⟨i,hi,e⟩:=List.mem_iff_getElem.1 hm;exact h i hi (by rw [Yd hi,e])
theorem Zii (w:World) (zs:List ByteArray) (s:ByteArray) (b off cap:Nat) (hz:zs.length≤1000000) (hc:∀ i x,zs[i]?=some x→w.cell? ⟨b,off + i,none⟩=some (.string x)) :
 Calls Tryz.prog 14 #[.slice (some ⟨b,off,none⟩) zs.length cap,.string s] w fun e w'=>e=.returned (.bool (Lib.containsS zs s))∧w=w':=by
 obtain ⟨n,hn⟩:=zX zs.length
 rw [← hn] at hz ⊢;have HN:=lh hn;have HC:=lh hc;clear hn hc;go_enter Tryz.func14,Tryz.ntmps14
 go_wp2;go_loop [9] (fun x=>∃ i:Nat,x=.int .i64 i∧i≤n∧∀ j,j < i→¬ zs[j]?=some s) (fun x=>n - (intOf x).toNat)
 case atStart=>exact ⟨0,rfl,by omega,fun j hj=>by omega⟩
 case round=>
  obtain ⟨i,rfl,hi,hno⟩:=hrel;have HNo:=lh hno;clear hno;by_cases hin:i < n
  ·obtain ⟨x, hx⟩ : ∃ x, zs[i]? = some x := ⟨_, Yd (by have := HN.out; omega)⟩
   have hcx:=HC.out i x hx;have HX:=lh hx;clear hx;by_cases hxs:x=s
   ·subst hxs;go_wp2;go_ret;rw [Zbu HX.out];exact ⟨rfl,rfl⟩
   ·have hxl:¬ x.toList=s.toList:=fun h=>hxs (by
     obtain ⟨⟨a⟩⟩:=x; obtain ⟨⟨b⟩⟩:=s;simpa [ByteArray.toList_eq] using h)
    have hxl':(x.toList == s.toList)=false:=by simpa using hxl
    have HXS:=lh hxs;clear hxs;go_wp2;go_round
    case rel=>exact ⟨i + 1,by go_num,by omega,fun j hj=>by
     by_cases e:j=i;·subst e; rw [HX.out]; intro h; exact HXS.out (Yk h)
     ·exact HNo.out j (by omega)⟩
    case measure=>simp [intOf]; omega
  ·go_wp2;go_ret;rw [Z9s (fun j hj=>HNo.out j (by have:=HN.out; omega))];exact ⟨rfl,rfl⟩
def Z6a (w:World):Prop:=∃ b off cap,w.cell? ⟨1,0,none⟩=some (.slice (some ⟨b,off,none⟩) Z4j.length cap)∧∀ i x,Z4j[i]?=some x→w.cell? ⟨b,off + i,none⟩=some (.string x)
theorem Z6a.below {w w':World} (h:Z6a w) (hB:Below w.heap.size w w'):Z6a w':=by
 obtain ⟨b,off,cap,h1,h2⟩:=h;have lt:∀ {p:Addr} {x:Value},p.spot=none→w.cell? p=some x→p.block < w.heap.size:=by
  intro p x _ hc;rcases Nat.lt_or_ge p.block w.heap.size with h' | h';·exact h'
  ·simp [World.cell?,Array.getElem?_eq_none h'] at hc
 exact ⟨b,off,cap,(hB.cell (lt rfl h1)).trans h1,fun i x hx=>(hB.cell (lt rfl (h2 i x hx))).trans (h2 i x hx)⟩
theorem Z8t (w:World) (s:ByteArray) (hW:Z6a w) :
 Calls Tryz.prog 42 #[.string s] w fun e w'=>e=.returned (.bool (Z34 s))∧w=w':=by
 obtain ⟨b,off,cap,h1,h2⟩:=hW;have HC:=lh (Zii w Z4j s b off cap (by rw [Z63]; omega) h2);unfold Z34;clear h2;generalize Lib.containsS Z4j s=B at HC ⊢;go_enter Tryz.func42,Tryz.ntmps42
 go_wp2_with fail
 refine HC.out.mono ?_;rintro e w1 ⟨rfl,rfl⟩;go_wp2;go_ret;exact ⟨rfl,rfl⟩
end Go.Proofs.YtmjfllklcpjddaaGreatDoor
namespace Go.Proofs
def Tryz.lays172_ren:Go.Shelf.Ren:=⟨fun | 172=>43 | 244=>83 | 245=>84 | 247=>111 | 279=>112 | 280=>113 | 281=>114 | 282=>115 | 287=>122 | 316=>123 | 171=>125 | 205=>124 | 321=>130 | 322=>131 | 243=>132 | 246=>136 | 283=>138 | 284=>139 | 285=>140 | 286=>141 | 129=>81 | 317=>143 | 318=>144 | 319=>145 | 320=>146 | 337=>148 | 338=>149 | n=>n,fun | 9=>9 | 3=>3 | 75=>35 | 76=>80 | 4=>4 | 5=>5 | 167=>136 | 37=>121 | 0=>0 | 85=>137 | 2=>2 | 168=>139 | 53=>114 | 175=>146 | 46=>78 | 210=>150 | 127=>142 | 145=>158 | 143=>156 | 21=>21 | 171=>162 | 173=>164 | 212=>168 | 51=>112 | 20=>20 | 213=>169 | 232=>171 | 233=>172 | 80=>85 | n=>n,fun | 15=>3 | 16=>4 | 17=>7 | 18=>8 | 19=>9 | n=>n⟩
theorem Tryz.lays172:Go.Proofs.Lays.n172 Tryz.prog Tryz.lays172_ren:={
 mixed:=by kernel_rfl
 f129:=Tryz.func81.trans (congrArg some (by kernel_rfl))
 f171:=Tryz.func125.trans (congrArg some (by kernel_rfl))
 f172:=Tryz.func43.trans (congrArg some (by kernel_rfl))
 f205:=Tryz.func124.trans (congrArg some (by kernel_rfl))
 f243:=Tryz.func132.trans (congrArg some (by kernel_rfl))
 f244:=Tryz.func83.trans (congrArg some (by kernel_rfl))
 f245:=Tryz.func84.trans (congrArg some (by kernel_rfl))
 f246:=Tryz.func136.trans (congrArg some (by kernel_rfl))
 f247:=Tryz.func111.trans (congrArg some (by kernel_rfl))
 f279:=Tryz.func112.trans (congrArg some (by kernel_rfl))
 f280:=Tryz.func113.trans (congrArg some (by kernel_rfl))
 f281:=Tryz.func114.trans (congrArg some (by kernel_rfl))
 f282:=Tryz.func115.trans (congrArg some (by kernel_rfl))
 f283:=Tryz.func138.trans (congrArg some (by kernel_rfl))
 f284:=Tryz.func139.trans (congrArg some (by kernel_rfl))
 f285:=Tryz.func140.trans (congrArg some (by kernel_rfl))
 f286:=Tryz.func141.trans (congrArg some (by kernel_rfl))
 f287:=Tryz.func122.trans (congrArg some (by kernel_rfl))
 f316:=Tryz.func123.trans (congrArg some (by kernel_rfl))
 f317:=Tryz.func143.trans (congrArg some (by kernel_rfl))
 f318:=Tryz.func144.trans (congrArg some (by kernel_rfl))
 f319:=Tryz.func145.trans (congrArg some (by kernel_rfl))
 f320:=Tryz.func146.trans (congrArg some (by kernel_rfl))
 f321:=Tryz.func130.trans (congrArg some (by kernel_rfl))
 f322:=Tryz.func131.trans (congrArg some (by kernel_rfl))
 f337:=Tryz.func148.trans (congrArg some (by kernel_rfl))
 f338:=Tryz.func149.trans (congrArg some (by kernel_rfl))
 t0:=Tryz.underlying0
 a0:=Tryz.isAgg0
 z0:=Tryz.sizeOf0
 v0:=Tryz.zeroValue0
 t2:=Tryz.underlying2
 a2:=Tryz.isAgg2
 z2:=Tryz.sizeOf2
 v2:=Tryz.zeroValue2
 t3:=Tryz.underlying3
 a3:=Tryz.isAgg3
 z3:=Tryz.sizeOf3
 v3:=Tryz.zeroValue3
 t4:=Tryz.underlying4
 a4:=Tryz.isAgg4
 z4:=Tryz.sizeOf4
 v4:=Tryz.zeroValue4
 t5:=Tryz.underlying5
 a5:=Tryz.isAgg5
 z5:=Tryz.sizeOf5
 v5:=Tryz.zeroValue5
 t9:=Tryz.underlying9
 a9:=Tryz.isAgg9
 z9:=Tryz.sizeOf9
 v9:=Tryz.zeroValue9
 t20:=Tryz.underlying20
 a20:=Tryz.isAgg20
 z20:=Tryz.sizeOf20
 v20:=Tryz.zeroValue20
 t21:=Tryz.underlying21
 a21:=Tryz.isAgg21
 z21:=Tryz.sizeOf21
 v21:=Tryz.zeroValue21
 t37:=Tryz.underlying121
 a37:=Tryz.isAgg121
 z37:=Tryz.sizeOf121
 v37:=Tryz.zeroValue121
 t46:=Tryz.underlying78
 a46:=Tryz.isAgg78
 z46:=Tryz.sizeOf78
 v46:=Tryz.zeroValue78
 t51:=Tryz.underlying112
 a51:=Tryz.isAgg112
 z51:=Tryz.sizeOf112
 v51:=Tryz.zeroValue112
 t53:=Tryz.underlying114
 a53:=Tryz.isAgg114
 z53:=Tryz.sizeOf114
 v53:=Tryz.zeroValue114
 t75:=Tryz.underlying35
 a75:=Tryz.isAgg35
 z75:=Tryz.sizeOf35
 v75:=Tryz.zeroValue35
 t76:=Tryz.underlying80
 a76:=Tryz.isAgg80
 z76:=Tryz.sizeOf80
 v76:=Tryz.zeroValue80
 t85:=Tryz.underlying137
 a85:=Tryz.isAgg137
 z85:=Tryz.sizeOf137
 v85:=Tryz.zeroValue137
 t127:=Tryz.underlying142
 a127:=Tryz.isAgg142
 z127:=Tryz.sizeOf142
 v127:=Tryz.zeroValue142
 t143:=Tryz.underlying156
 a143:=Tryz.isAgg156
 z143:=Tryz.sizeOf156
 v143:=Tryz.zeroValue156
 t145:=Tryz.underlying158
 a145:=Tryz.isAgg158
 z145:=Tryz.sizeOf158
 v145:=Tryz.zeroValue158
 t167:=Tryz.underlying136
 a167:=Tryz.isAgg136
 z167:=Tryz.sizeOf136
 v167:=Tryz.zeroValue136
 t168:=Tryz.underlying139
 a168:=Tryz.isAgg139
 z168:=Tryz.sizeOf139
 v168:=Tryz.zeroValue139
 t171:=Tryz.underlying162
 a171:=Tryz.isAgg162
 z171:=Tryz.sizeOf162
 v171:=Tryz.zeroValue162
 t173:=Tryz.underlying164
 a173:=Tryz.isAgg164
 z173:=Tryz.sizeOf164
 v173:=Tryz.zeroValue164
 t175:=Tryz.underlying146
 a175:=Tryz.isAgg146
 z175:=Tryz.sizeOf146
 v175:=Tryz.zeroValue146
 t210:=Tryz.underlying150
 a210:=Tryz.isAgg150
 z210:=Tryz.sizeOf150
 v210:=Tryz.zeroValue150
 t212:=Tryz.underlying168
 a212:=Tryz.isAgg168
 z212:=Tryz.sizeOf168
 v212:=Tryz.zeroValue168
 t213:=Tryz.underlying169
 a213:=Tryz.isAgg169
 z213:=Tryz.sizeOf169
 t232:=Tryz.underlying171
 a232:=Tryz.isAgg171
 z232:=Tryz.sizeOf171
 v232:=Tryz.zeroValue171
 t233:=Tryz.underlying172
 a233:=Tryz.isAgg172
 z233:=Tryz.sizeOf172
 v233:=Tryz.zeroValue172
 g15:=by kernel_rfl
 g16:=by kernel_rfl
 g17:=by kernel_rfl
 g18:=by kernel_rfl
 g19:=by kernel_rfl }
open Go.RowKit in
theorem Tryz.strconv_Atoi (s:ByteArray) (n:Int) (hl:s.size≤18) (h:Lib.atoi s.data.toList=some n) (w:World) :
 Calls Tryz.prog 43 #[.string s] w fun e w'=>e=.returned (.tuple #[.int .i64 n,.nilIface])∧∃ t,w'=Lib.bytesWorld w 5 t:=Any.strconv_Atoi Tryz.lays172 s n hl h w
end Go.Proofs
