/- The document's Where: what its walk holds. -/
import Derived.Test.YtfilfhpfndaniaaGreatDoorJ12
namespace Go.Proofs.YtfilfhpfndaniaaGreatDoor
open Go Go.RowKit
set_option maxRecDepth 100000
set_option maxHeartbeats 20000000
set_option linter.unusedVariables false
def LkEq (R S:List Sc):Prop:=∀ name s,Z5i name R s=Z5i name S s
theorem LkEq.cons {R S:List Sc} (h:LkEq R S) {r s:Sc} (h1:r.at'=s.at') (h2:∀ n,Lib.containsS r.names n=Lib.containsS s.names n) (h3:r.op=s.op):LkEq (r :: R) (s :: S):=by
 intro n b;simp only [Z5i,h1,h2,h3,h n]
theorem Z7u (n:ByteArray):Lib.containsS [] n=false:=rfl
theorem LkEq.skip {R S:List Sc} (h:LkEq R S) (i:Int):LkEq (⟨i,[],false⟩ :: R) S:=by
 intro n b;simp only [Z5i,Z7u,Bool.false_eq_true,if_false,Bool.not_false,Bool.and_true,h n b]
theorem LkEq.any {R S:List Sc} (h:LkEq R S) (i j:Int):LkEq (⟨i,[],true⟩ :: R) (⟨j,[],true⟩ :: S):=by
 intro n b;simp only [Z5i,Z7u,Bool.false_eq_true,if_false,Bool.not_true,Bool.and_false,h n]
def Z3k (R:List (Sc×Value)):List Sc:=(R.map Prod.fst).reverse
theorem Z51 (R:List (Sc×Value)) (p:Sc×Value):Z3k (R ++ [p])=p.1 :: Z3k R:=by simp [Z3k]
structure WFr (w w':World):Prop where
 size:w.heap.size≤w'.heap.size
 cells:∀ (k:Nat) (c:Array Value) (t:TypeId) (f:Nat×Nat),w.heap[k]?=some (.cells c t f)→t≠27→t≠32→w'.heap[k]?=w.heap[k]?
 map:∀ (k:Nat) (es:Array MapEntry) (c:Nat),w.heap[k]?=some (.map es c)→w'.heap[k]?=w.heap[k]?
theorem WFr.refl (w:World):WFr w w:=⟨Y5 _,fun _ _ _ _ _ _ _=>rfl,fun _ _ _ _=>rfl⟩
theorem WFr.trans {w w1 w2:World} (h:WFr w w1) (g:WFr w1 w2):WFr w w2:=
 ⟨Ya h.size g.size, fun k c t f hk h1 h2 => (g.cells k c t f ((h.cells k c t f hk h1 h2).trans hk) h1 h2).trans (h.cells k c t f hk h1 h2),
  fun k es c hk=>(g.map k es c ((h.map k es c hk).trans hk)).trans (h.map k es c hk)⟩
theorem WFr.bel {w w':World} (h:Below w.heap.size w w'):WFr w w':=
 ⟨h.size,fun k _ _ _ hk _ _=>h.block k (Y6.1 hk).1,fun k _ _ hk=>h.block k (Y6.1 hk).1⟩
theorem WFr.on {w w1 w2:World} (h:WFr w w1) (g:Below w.heap.size w1 w2):WFr w w2:=
 ⟨Ya h.size g.size,fun k c t f hk h1 h2=>(g.block k (Y6.1 hk).1).trans (h.cells k c t f hk h1 h2),fun k es c hk=>(g.block k (Y6.1 hk).1).trans (h.map k es c hk)⟩
theorem RingsAt.wfr {w w':World} {B:Nat} {v:Value} {R:List (Sc×Value)} (h:RingsAt w B v R) (g:WFr w w'):RingsAt w' B v R:=
 h.keep fun k c t f hb ht=>g.cells k c t f hb (by rcases ht with rfl | rfl <;> decide) (by rcases ht with rfl | rfl <;> decide)
def Z63 (nb ob kb:Nat):Value:=.func (.func 17) #[] #[.pointer (some ⟨nb,0,none⟩),.pointer (some ⟨ob,0,none⟩),.pointer (some ⟨kb,0,none⟩)]
structure WSt (w0:World) (nb ob kb mb:Nat) (N:Nat→Nat) (L:List (Nat×Nat)) (out:List Us) (w:World):Prop where
 bel:Below w0.heap.size w0 w
 num:w.heap[nb]?=some (.cells #[.map (some mb)] 45 (0,0))
 self:w.heap[kb]?=some (.cells #[Z63 nb ob kb] 55 (0,0))
 cell:∃ ov,w.heap[ob]?=some (.cells #[ov] 27 (0,0))∧w.ownsRow w0.heap.size 32 3 ov out.length (out.flatMap Us.cells)
 low:w0.heap.size≤ob
 map:PMap w mb L
 has:∀ x∈L,Z3s w0 x.1
 nodup:(L.map (·.1)).Nodup
section
variable {w0 w w':World} {nb ob kb mb:Nat} {N:Nat→Nat} {L:List (Nat×Nat)} {out:List Us}
theorem WSt.number (h:WSt w0 nb ob kb mb N L out w):∀ x∈L,Z3s w x.1:=fun x hx=>(h.has x hx).bel h.bel
theorem WSt.keep (h:WSt w0 nb ob kb mb N L out w) (hb:Below w0.heap.size w0 w') (hk:∀ (k:Nat) c t f,w.heap[k]?=some (.cells c t f)→t≠56→w'.heap[k]?=w.heap[k]?) (hm:∀ (k:Nat) es c,w.heap[k]?=some (.map es c)→w'.heap[k]?=w.heap[k]?):WSt w0 nb ob kb mb N L out w':=by
 obtain ⟨ov,h1,h2⟩:=h.cell;obtain ⟨es,clock,h3,h4⟩:=h.map;refine ⟨hb,(hk _ _ _ _ h.num (by decide)).trans h.num,(hk _ _ _ _ h.self (by decide)).trans h.self,⟨ov,(hk _ _ _ _ h1 (by decide)).trans h1,Zb h2 fun k hk'=>?_⟩,h.low,⟨es,clock,(hm _ _ _ h3).trans h3,h4⟩,h.has,h.nodup⟩;obtain ⟨c,f,hb'⟩:=Lib.ownsRow_kind h2 k hk';exact hk k _ _ _ hb' (by decide)
theorem WSt.on (h:WSt w0 nb ob kb mb N L out w) (g:Below w.heap.size w w'):WSt w0 nb ob kb mb N L out w':=
 h.keep (h.bel.trans (g.mono h.bel.size)) (fun k c t f hk _=>g.block k (Y6.1 hk).1) fun k es c hk=>g.block k (Y6.1 hk).1
theorem Z44 {w:World} {k q:Nat} {o:Obj} {v u:Value} {t:TypeId} (hq:w.heap[q]?=some (.cells #[v] t (0,0))) (hk:w.heap[k]?=some o) (hne:∀ c f,o≠.cells c t f):(w.setCell ⟨q,0,none⟩ u).heap[k]?=w.heap[k]?:=by
 refine Yg _ _ _ _ ?_;intro e;simp only at e;rw [e,hq] at hk;exact hne _ _ (Yk hk).symm
theorem WSt.put (h:WSt w0 nb ob kb mb N L out w) {q:Nat} {v u:Value} (hq:w.heap[q]?=some (.cells #[v] 56 (0,0))) (hl:w0.heap.size≤q):WSt w0 nb ob kb mb N L out (w.setCell ⟨q,0,none⟩ u):=
 h.keep (h.bel.setCell (p:=⟨q,0,none⟩) hl u) (fun k c t f hk ht=>Z44 hq hk fun c f e=>by
  simp only [Obj.cells.injEq] at e;exact ht e.2.1) fun k es c hk=>Z44 hq hk fun c f e=>by cases e
theorem RingsAt.put {B q:Nat} {v v' u:Value} {R:List (Sc×Value)} (h:RingsAt w B v' R) (hq:w.heap[q]?=some (.cells #[v] 56 (0,0))):RingsAt (w.setCell ⟨q,0,none⟩ u) B v' R:=
 h.keep fun k c t f hk ht=>Z44 hq hk fun c f e=>by
  simp only [Obj.cells.injEq] at e;rcases ht with ht | ht <;> rw [ht] at e <;> exact absurd e.2.1 (by decide)
theorem WSt.cells (h:WSt w0 nb ob kb mb N L out w):w.cell? ⟨nb,0,none⟩=some (.map (some mb))∧w.cell? ⟨kb,0,none⟩=some (Z63 nb ob kb):=by
 have h1:=h.num;have h2:=h.self;simp [World.cell?,h1,h2]
theorem WSt.told {w1 w2:World} {u:Us} {ov v2:Value} (h:WSt w0 nb ob kb mb N L out w) (hb:w.heap[ob]?=some (.cells #[ov] 27 (0,0)))
 (hrow:w.ownsRow w0.heap.size 32 3 ov out.length (out.flatMap Us.cells)) (hB:Below w.heap.size w w1) (hg:w1.grownBy w2 ov.ownBlock)
 (hown:w2.ownsRow w0.heap.size 32 3 v2 (out.length + 1) (out.flatMap Us.cells ++ u.cells)) :
 WSt w0 nb ob kb mb N L (out ++ [u]) (w2.setCell ⟨ob,0,none⟩ v2)∧WFr w (w2.setCell ⟨ob,0,none⟩ v2):=by
 have hfl:=(Y6.1 hb).1;have hne:∀ k c t f,w.heap[k]?=some (.cells c t f)→t≠32→ov.ownBlock≠some k:=fun k c t f hk ht e=>by
  obtain ⟨c1,f1,h1⟩:=Lib.ownsRow_kind hrow k e;rw [hk] at h1;simp only [Option.some.injEq,Obj.cells.injEq] at h1;exact ht h1.2.1
 have hnm:∀ k es c,w.heap[k]?=some (.map es c)→ov.ownBlock≠some k:=fun k es c hk e=>by
  obtain ⟨c1,f1,h1⟩:=Lib.ownsRow_kind hrow k e;rw [hk] at h1;cases h1
 have step:∀ k,k < w.heap.size→ov.ownBlock≠some k→w2.heap[k]?=w.heap[k]?:=fun k hk hv=>(hg.block k (Ye hk hB.size) (fun e=>hv e.symm)).trans (hB.block k hk);have hb2:w2.heap[ob]?=some (.cells #[ov] 27 (0,0)):=(step ob hfl (hne ob _ _ _ hb (by decide))).trans hb;have cells:∀ (k:Nat) (c:Array Value) (t:TypeId) (f:Nat×Nat),w.heap[k]?=some (.cells c t f)→t≠27→t≠32→(w2.setCell ⟨ob,0,none⟩ v2).heap[k]?=w.heap[k]?:=fun k c t f hk h1 h2=>by
  have e:=step k (Y6.1 hk).1 (hne k c t f hk h2);exact (Z44 hb2 (e.trans hk) fun c f e=>by simp only [Obj.cells.injEq] at e; exact h1 e.2.1).trans e
 have maps:∀ (k:Nat) es c,w.heap[k]?=some (.map es c)→(w2.setCell ⟨ob,0,none⟩ v2).heap[k]?=w.heap[k]?:=fun k es c hk=>by
  have e:=step k (Y6.1 hk).1 (hnm k es c hk);exact (Z44 hb2 (e.trans hk) fun c f e=>by cases e).trans e
 obtain ⟨es,clock,hm,hes⟩:=h.map;refine ⟨⟨?_,(cells _ _ _ _ h.num (by decide) (by decide)).trans h.num,(cells _ _ _ _ h.self (by decide) (by decide)).trans h.self,⟨v2,Zm (o:=0) v2 hb2,?_⟩,h.low,⟨es,clock,(maps _ _ _ hm).trans hm,hes⟩,h.has,h.nodup⟩,⟨?_,cells,maps⟩⟩;·exact Below.setCell (Below.grown (h.bel.trans (hB.mono h.bel.size)) hg (Ya h.bel.size hB.size) fun k hk=>(Yh hrow k hk).1) (p:=⟨ob,0,none⟩) h.low _
 ·rw [Yq,List.flatMap_append];refine Zb (by simpa using hown) fun k hk=>?_;obtain ⟨c1,f1,h1⟩:=Lib.ownsRow_kind hown k hk;exact Z44 hb2 h1 fun c f e=>by simp only [Obj.cells.injEq] at e; exact absurd e.2.1 (by decide)
 ·rw [Yn]; exact Ya hB.size hg.size
structure WMid (w0:World) (nb ob kb mb:Nat) (N:Nat→Nat) (L:List (Nat×Nat)) (we:World) (q:Nat) (rv:Value) (R:List (Sc×Value)) (out:List Us) (w:World):Prop where
 st:WSt w0 nb ob kb mb N L out w
 cell:w.heap[q]?=some (.cells #[rv] 56 (0,0))
 rings:RingsAt w w0.heap.size rv R
 fr:WFr we w
 low:we.heap.size≤q
 ord:w0.heap.size≤we.heap.size
variable {we:World} {q:Nat} {rv:Value} {R:List (Sc×Value)}
theorem WMid.start (h:WSt w0 nb ob kb mb N L out w) (hR:RingsAt w w0.heap.size rv R):WMid w0 nb ob kb mb N L w w.heap.size rv R out (w.alloc (.cells #[rv] 56)):=by
 have hb:Below w.heap.size w (w.alloc (.cells #[rv] 56)):=(Y8 _ _).alloc (Y5 _) _;exact ⟨h.on hb,heap_alloc_new w _,hR.bel hb,WFr.bel hb,Y5 _,h.bel.size⟩
theorem WMid.call {out2:List Us} {w2:World} (h:WMid w0 nb ob kb mb N L we q rv R out w) (h1:WSt w0 nb ob kb mb N L out2 w2) (h2:WFr w w2):WMid w0 nb ob kb mb N L we q rv R out2 w2:=
 ⟨h1,(h2.cells _ _ _ _ h.cell (by decide) (by decide)).trans h.cell,h.rings.wfr h2,h.fr.trans h2,h.low,h.ord⟩
theorem WMid.on {w2:World} (h:WMid w0 nb ob kb mb N L we q rv R out w) (g:Below w.heap.size w w2):WMid w0 nb ob kb mb N L we q rv R out w2:=h.call (h.st.on g) (WFr.bel g)
theorem WMid.put {rv2:Value} {R2:List (Sc×Value)} (h:WMid w0 nb ob kb mb N L we q rv R out w) (g:RingsAt w w0.heap.size rv2 R2):WMid w0 nb ob kb mb N L we q rv2 R2 out (w.setCell ⟨q,0,none⟩ rv2):=
 ⟨h.st.put h.cell (Ya h.ord h.low),Zm (o:=0) rv2 h.cell,g.put h.cell,h.fr.on ((Y8 _ _).setCell (p:=⟨q,0,none⟩) h.low _),h.low,h.ord⟩
theorem WMid.cells (h:WMid w0 nb ob kb mb N L we q rv R out w):w.cell? ⟨nb,0,none⟩=some (.map (some mb))∧w.cell? ⟨kb,0,none⟩=some (Z63 nb ob kb)∧w.cell? ⟨q,0,none⟩=some rv∧w.frozen? ⟨q,0,none⟩=false:=by
 obtain ⟨h1,h2⟩:=h.st.cells;have h3:=h.cell;exact ⟨h1,h2,by simp [World.cell?,h3],by simp [World.frozen?,h3]⟩
end
def Z58 (w0:World) (nb ob kb mb:Nat) (N:Nat→Nat) (L:List (Nat×Nat)) (m:Nat):Prop:=
 ∀ (a : ATree) (B : Nat) (w : World) (R : List (Sc × Value)) (S : List Sc) (rv : Value) (st : Bool) (out : List Us), a.many ≤ m → WT a.tree → FT a.tree → TreeAt w0 B a → (∀ x ∈ a.subs, (x.b, N x.b) ∈ L) → out.length + a.many ≤ 100000 → R.length + 2 * a.many ≤ 1000000 → WSt w0 nb ob kb mb N L out w → RingsAt w w0.heap.size rv R → LkEq (Z3k R) S →
   Calls Tryz.prog 17 #[a.ptr,rv,.bool st,.pointer (some ⟨nb,0,none⟩),.pointer (some ⟨ob,0,none⟩),.pointer (some ⟨kb,0,none⟩)] w fun e w'=>e=.returned (.tuple #[])∧WSt w0 nb ob kb mb N L (out ++ Z0x N a S st) w'∧WFr w w'∧(Z0x N a S st).length≤a.many
theorem Tryz.infoUseR:(Tryz.prog.info? 32).map (fun i=>(i.zero,i.size,i.bytes))=some (some (.agg #[.int .i64 0,.int .i64 0,.bool false]),3,24):=by kernel_rfl
end Go.Proofs.YtfilfhpfndaniaaGreatDoor
namespace Go.Proofs.YtfilfhpfndaniaaGreatDoor
open Go Go.RowKit
set_option maxRecDepth 100000
set_option maxHeartbeats 20000000
structure RS where
 ts:List Tok
 f:Option (Int×Nat)
def gT:Tree:=.mk 0 ByteArray.empty 0 []
def Z3c (e:Int) (σ:RS):RS:=if σ.f.isNone then ⟨σ.ts,some (e,(hdT σ.ts).at')⟩ else σ
def Zf (s:ByteArray) (σ:RS):Bool:=σ.f.isNone && isT s σ.ts
def advR (σ:RS):RS:=⟨σ.ts.tail,σ.f⟩
def Z0h (s:ByteArray) (σ:RS):RS:=if σ.f.isNone then (if isT s σ.ts then advR σ else Z3c 3 σ) else σ
def Zo (σ:RS):ByteArray×RS:=if σ.f.isNone then (if (hdT σ.ts).kind=1 then ((hdT σ.ts).text,advR σ) else (ByteArray.empty,Z3c 3 σ)) else (ByteArray.empty,σ)
abbrev RR:=Option (Tree×RS)
def Z08 (p:RR) (k:Tree→RS→RR):RR:=match p with | none=>none | some (t,σ)=>k t σ
def Z3a (s:ByteArray):Int:=if Zt s s_or then 25 else if Zt s Z6r then 26 else if Zt s Z4o then 27 else if Zt s Z4n then 28 else if Zt s Z56 then 29 else if Zt s Z5y then 30 else if Zt s Z6q then 31 else 0
def Z5l (level:Nat) (s:ByteArray):Bool:=
 match level with
 | 0=>Zt s s_or
 | 1=>Zt s Z6r
 | 2=>Zt s Z4o
 | 3=>Zt s Z4n
 | 4=>Zt s Z56 || Zt s Z5y
 | 5=>Zt s Z6q
 | _=>false
def Z6f (σ:RS):Int:=if Zf Z5j σ then 32 else if Zf Z1x σ then 33 else if Zf Z2c σ then 34 else 0
def Z33 (s:ByteArray):Int:=if Zt s Z4z then 19 else if Zt s Z3z then 20 else if Zt s Z5r then 21 else if Zt s Z1o then 22 else 0
inductive RJob
 | prog (acc:List Tree)
 | braces (body:Bool)
 | bracesL (acc:List Tree)
 | params (acc:List Tree)
 | args (acc:List Tree)
 | props (acc:List Tree)
 | func (kind:Int) (text:ByteArray)
 | head
 | stmt
 | stmt2
 | value
 | pairs (level:Nat)
 | pairsL (level:Nat) (x:Tree)
 | single
 | singleL (x:Tree)
 | first
def Z41 (c:Bool) (σ:RS):RS:=if c then Z0h Z0z σ else σ
def Z5h (c:Bool) (σ:RS):RS:=if c then Z3c 4 σ else σ
def tryF (l:List Tree) (σ:RS):RR:=some (.mk 12 ByteArray.empty 0 l,if l.length=1 then Z3c 3 σ else σ)
def Z4e (σ:RS):Int:=if Zf Z1l σ then 2 else if Zf Z1q σ then 3 else if Zf Z09 σ then 4 else 0
def Z22 (k:Int) (σ:RS):RS:=if decide (k=4) && σ.f.isNone && !Zf s_eq σ then Z3c 3 σ else σ
def refF:Nat→RJob→Nat→RS→RR
 | 0,_,_,_=>none
 | f + 1, .prog acc, d, σ =>
   if σ.f.isNone && !decide ((hdT σ.ts).kind=6) then Z08 (refF f .stmt 1 σ) fun x σ=>refF f (.prog (acc ++ [x])) d σ
   else some (.mk 0 ByteArray.empty 0 acc,σ)
 | f + 1, .braces body, d, σ =>
   Z08 (refF f (.bracesL []) d (Z0h Zc σ)) fun l σ=>
    some (.mk 6 (if body && (Z0h Zp σ).f.isNone && Z23 l.kids then Zn else ByteArray.empty) 0 l.kids,Z0h Zp σ)
 | f + 1, .bracesL acc, d, σ =>
   if σ.f.isNone && !Zf Zp σ then Z08 (refF f .stmt (d + 1) σ) fun x σ=>refF f (.bracesL (acc ++ [x])) d σ
   else some (.mk 0 ByteArray.empty 0 acc,σ)
 | f + 1, .params acc, d, σ =>
   if σ.f.isNone && !Zf Z0e σ then
    if (Z5h (decide (acc.length=8)) (Z41 (decide (0 < acc.length)) σ)).f.isNone then
     refF f (.params (acc ++ [.mk 23 (Zo (Z5h (decide (acc.length=8)) (Z41 (decide (0 < acc.length)) σ))).1 0 []])) d (Zo (Z5h (decide (acc.length=8)) (Z41 (decide (0 < acc.length)) σ))).2
    else refF f (.params acc) d (Z5h (decide (acc.length=8)) (Z41 (decide (0 < acc.length)) σ))
   else some (.mk 0 ByteArray.empty 0 acc,Z0h Z0e σ)
 | f + 1, .args acc, d, σ =>
   if σ.f.isNone && !Zf Z0e σ then
    if (Z5h (decide (acc.length=8)) (Z41 (decide (0 < acc.length)) σ)).f.isNone then
     Z08 (refF f .value (d + 1) (Z5h (decide (acc.length=8)) (Z41 (decide (0 < acc.length)) σ))) fun v σ=>refF f (.args (acc ++ [v])) d σ
    else refF f (.args acc) d (Z5h (decide (acc.length=8)) (Z41 (decide (0 < acc.length)) σ))
   else some (.mk 0 ByteArray.empty 0 acc,Z0h Z0e σ)
 | f + 1, .props acc, d, σ =>
   if σ.f.isNone && !Zf Zp σ then
    if (Z5h (decide (acc.length=8)) (Z41 (decide (0 < acc.length)) σ)).f.isNone then
     Z08 (refF f .value (d + 1) (Z0h Z32 (Zo (Z5h (decide (acc.length=8)) (Z41 (decide (0 < acc.length)) σ))).2)) fun v σ'=>
      refF f (.props (acc ++ [.mk 39 (Zo (Z5h (decide (acc.length=8)) (Z41 (decide (0 < acc.length)) σ))).1 0 [v]])) d σ'
    else refF f (.props acc) d (Z5h (decide (acc.length=8)) (Z41 (decide (0 < acc.length)) σ))
   else some (.mk 0 ByteArray.empty 0 acc,Z0h Zp σ)
 | f + 1, .func kind text, d, σ =>
   Z08 (refF f (.params []) d (Z0h Z0f σ)) fun l σ=>Z08 (refF f (.braces true) d σ) fun b σ=>some (.mk kind text 0 [.mk 40 ByteArray.empty 0 l.kids,b],σ)
 | f + 1,.head,d,σ=>Z08 (refF f .value (d + 1) (Z0h Z0f σ)) fun x σ=>some (x,Z0h Z0e σ)
 | f + 1, .stmt, d, σ =>
   if 30 < d then some (gT,Z3c 4 σ)
   else if Zf Zc σ then refF f (.braces false) d σ
   else if Zf Zj σ then some (.mk 16 ByteArray.empty 0 [],advR σ)
   else if Zf Za σ then refF f (.func 5 (Zo (advR σ)).1) d (Zo (advR σ)).2
   else if Zf s_if σ then
    Z08 (refF f .head d (advR σ)) fun x σ=>Z08 (refF f .stmt2 d σ) fun y σ=>
     if Zf Z5u σ then Z08 (refF f .stmt2 d (advR σ)) fun z σ=>some (.mk 7 ByteArray.empty 0 [x,y,z],σ)
     else some (.mk 7 ByteArray.empty 0 [x,y],σ)
   else if Zf Zz σ || Zf Z0c σ then
    Z08 (refF f .head d (advR σ)) fun x σ1=>Z08 (refF f .stmt2 d σ1) fun y σ2=>some (.mk (if Zf Z0c σ then 9 else 8) ByteArray.empty 0 [x,y],σ2)
   else if Zf Z2k σ then
    Z08 (refF f (.braces false) d (advR σ)) fun b σ=>
     (fun (k : List Tree → RS → RR) =>
      if Zf Z2q σ then
       Z08 (refF f (.braces false) d (Z0h Z0e (Zo (Z0h Z0f (advR σ))).2)) fun c σ'=>k [b,.mk 13 (Zo (Z0h Z0f (advR σ))).1 0 [c]] σ'
      else k [b] σ) fun l σ=>
     if Zf Z03 σ then Z08 (refF f (.braces false) d (advR σ)) fun c σ=>tryF (l ++ [.mk 14 ByteArray.empty 0 [c]]) σ
     else tryF l σ
   else if Z4e σ≠0 then
    if Zf s_eq (Z22 (Z4e σ) (Zo (advR σ)).2) then
     Z08 (refF f .value (d + 1) (advR (Z22 (Z4e σ) (Zo (advR σ)).2))) fun x σ'=>some (.mk (Z4e σ) (Zo (advR σ)).1 0 [x],Z0h Zj σ')
    else some (.mk (Z4e σ) (Zo (advR σ)).1 0 [],Z0h Zj (Z22 (Z4e σ) (Zo (advR σ)).2))
   else if Zf Z0k σ then
    if Zf Zj (advR σ) then some (.mk 10 ByteArray.empty 0 [],Z0h Zj (advR σ))
    else Z08 (refF f .value (d + 1) (advR σ)) fun x σ=>some (.mk 10 ByteArray.empty 0 [x],Z0h Zj σ)
   else if Zf Z1u σ then Z08 (refF f .value (d + 1) (advR σ)) fun x σ=>some (.mk 11 ByteArray.empty 0 [x],Z0h Zj σ)
   else Z08 (refF f .value (d + 1) σ) fun x σ=>some (.mk 15 ByteArray.empty 0 [x],Z0h Zj σ)
 | f + 1,.stmt2,d,σ=>if σ.f.isNone then refF f .stmt (d + 1) σ else some (gT,σ)
 | f + 1, .value, d, σ =>
   if σ.f.isNone then
    if 30 < d then some (gT,Z3c 4 σ)
    else Z08 (refF f (.pairs 0) d σ) fun x σ1=>
     if Zf s_eq σ1 then
      if x.kind=23∨x.kind=36 then Z08 (refF f .value (d + 1) (advR σ1)) fun y σ2=>some (.mk 24 ByteArray.empty 0 [x,y],σ2)
      else some (gT,Z3c 1 ⟨σ.ts,σ1.f⟩)
     else some (x,σ1)
   else some (gT,σ)
 | f + 1, .pairs level, d, σ =>
   if 6≤level then refF f .single d σ
   else Z08 (refF f (.pairs (level + 1)) d σ) fun x σ=>refF f (.pairsL level x) d σ
 | f + 1, .pairsL level x, d, σ =>
   if σ.f.isNone && decide ((hdT σ.ts).kind=5) && Z5l level (hdT σ.ts).text then
    Z08 (refF f (.pairs (level + 1)) d (advR σ)) fun y σ'=>refF f (.pairsL level (.mk (Z3a (hdT σ.ts).text) ByteArray.empty 0 [x,y])) d σ'
   else some (x,σ)
 | f + 1, .single, d, σ =>
   if Z6f σ≠0 then
    if 30 < d + 1 then some (gT,Z3c 4 (advR σ))
    else Z08 (refF f .single (d + 1) (advR σ)) fun x σ'=>some (.mk (Z6f σ) ByteArray.empty 0 [x],σ')
   else Z08 (refF f .first d σ) fun x σ=>refF f (.singleL x) d σ
 | f + 1, .singleL x, d, σ =>
   if Zf Z9q σ then refF f (.singleL (.mk 36 (Zo (advR σ)).1 0 [x])) d (Zo (advR σ)).2
   else if Zf Z0f σ then Z08 (refF f (.args []) d (advR σ)) fun l σ=>refF f (.singleL (.mk 35 ByteArray.empty 0 (x :: l.kids))) d σ
   else some (x,σ)
 | f + 1, .first, d, σ =>
   if σ.f.isNone then
    if (hdT σ.ts).kind=1 then some (.mk 23 (hdT σ.ts).text 0 [],advR σ)
    else if (hdT σ.ts).kind=3 then some (.mk 17 ByteArray.empty (hdT σ.ts).n [],advR σ)
    else if (hdT σ.ts).kind=4 then some (.mk 18 (hdT σ.ts).text 0 [],advR σ)
    else if Zf Z0f σ then refF f .head d σ
    else if Zf Za σ then
     if (hdT (advR σ).ts).kind=1 then refF f (.func 37 (Zo (advR σ)).1) d (Zo (advR σ)).2
     else refF f (.func 37 ByteArray.empty) d (advR σ)
    else if Zf Zc σ then Z08 (refF f (.props []) d (advR σ)) fun l σ=>some (.mk 38 ByteArray.empty 0 l.kids,σ)
    else if (hdT σ.ts).kind=2∧Z33 (hdT σ.ts).text≠0 then some (.mk (Z33 (hdT σ.ts).text) ByteArray.empty 0 [],advR σ)
    else some (gT,Z3c 3 σ)
   else some (gT,σ)
def Z1k (r:RR) (e:Int×Nat):Prop:=∃ t ts,r=some (t,⟨ts,some e⟩)
theorem Z4p (s:ByteArray) (ts:List Tok) (e:Int×Nat):Z0h s ⟨ts,some e⟩=⟨ts,some e⟩:=rfl
theorem Z59 (s:ByteArray) (ts:List Tok) (e:Int×Nat):Zf s ⟨ts,some e⟩=false:=rfl
theorem Zgj (ts:List Tok) (e:Int×Nat):Zo ⟨ts,some e⟩=(ByteArray.empty,⟨ts,some e⟩):=rfl
theorem Z91 (f d:Nat) (ts:List Tok) (e:Int×Nat):refF (f + 1) .value d ⟨ts,some e⟩=some (gT,⟨ts,some e⟩):=by simp [refF]
theorem Z94 (f d:Nat) (ts:List Tok) (e:Int×Nat):refF (f + 1) .stmt2 d ⟨ts,some e⟩=some (gT,⟨ts,some e⟩):=by simp [refF]
theorem Z6n (f d:Nat) (acc:List Tree) (ts:List Tok) (e:Int×Nat):refF (f + 1) (.params acc) d ⟨ts,some e⟩=some (.mk 0 ByteArray.empty 0 acc,⟨ts,some e⟩):=by simp [refF,Z4p]
theorem Zed (f d:Nat) (acc:List Tree) (ts:List Tok) (e:Int×Nat):refF (f + 1) (.args acc) d ⟨ts,some e⟩=some (.mk 0 ByteArray.empty 0 acc,⟨ts,some e⟩):=by simp [refF,Z4p]
theorem Z7r (f d:Nat) (acc:List Tree) (ts:List Tok) (e:Int×Nat):refF (f + 1) (.props acc) d ⟨ts,some e⟩=some (.mk 0 ByteArray.empty 0 acc,⟨ts,some e⟩):=by simp [refF,Z4p]
theorem Z74 (f d:Nat) (acc:List Tree) (ts:List Tok) (e:Int×Nat):refF (f + 1) (.bracesL acc) d ⟨ts,some e⟩=some (.mk 0 ByteArray.empty 0 acc,⟨ts,some e⟩):=by simp [refF]
theorem Zj3 (f d:Nat) (acc:List Tree) (ts:List Tok) (e:Int×Nat):refF (f + 1) (.prog acc) d ⟨ts,some e⟩=some (.mk 0 ByteArray.empty 0 acc,⟨ts,some e⟩):=by simp [refF]
theorem Z4u (f d:Nat) (b:Bool) (ts:List Tok) (e:Int×Nat):refF (f + 2) (.braces b) d ⟨ts,some e⟩=some (.mk 6 ByteArray.empty 0 [],⟨ts,some e⟩):=by
 rw [refF,Z4p,Z74]; simp [Z08,Z4p,Tree.kids]
theorem Zaz (f d lv:Nat) (x:Tree) (ts:List Tok) (e:Int×Nat):refF (f + 1) (.pairsL lv x) d ⟨ts,some e⟩=some (x,⟨ts,some e⟩):=by simp [refF]
theorem Z72 (f d:Nat) (x:Tree) (ts:List Tok) (e:Int×Nat):refF (f + 1) (.singleL x) d ⟨ts,some e⟩=some (x,⟨ts,some e⟩):=by simp [refF,Z59]
theorem Zip (f d:Nat) (k:Int) (s:ByteArray) (ts:List Tok) (e:Int×Nat):Z1k (refF (f + 3) (.func k s) d ⟨ts,some e⟩) e:=by
 rw [refF,Z4p,Z6n];simp only [Z08];rw [Z4u];exact ⟨_,_,rfl⟩
def Zkk (t:Tok):Prop:=(t.kind=2→Z3a t.text=0)∧(t.kind=5→Z33 t.text=0)
def Zx (ts:List Tok):Prop:=∀ t∈ts,Zkk t
theorem Zx.tail {ts:List Tok} (h:Zx ts):Zx ts.tail:=fun t ht=>h t (List.mem_of_mem_tail ht)
theorem Zx.hd {ts:List Tok} (h:Zx ts):Zkk (hdT ts):=by
 cases ts with
 | nil=>exact ⟨fun h=>by simp [hdT] at h,fun h=>by simp [hdT] at h⟩
 | cons t l=>exact h t (by simp)
def Agree (p:PR) (q:RR):Prop:=
 match p with
 | none=>True
 | some (.ok (t,ts))=>q=some (t,⟨ts,none⟩)∧Zx ts
 | some (.error e)=>Z1k q e
theorem Agree.ok {t:Tree} {ts:List Tok} (h:Zx ts):Agree (okT t ts) (some (t,⟨ts,none⟩)):=⟨rfl,h⟩
theorem Agree.fail {k:Int} {t:Tree} {ts:List Tok}:Agree (Z2v k ts) (some (t,Z3c k ⟨ts,none⟩)):=⟨_,_,rfl⟩
theorem Agree.bind {p:PR} {q:RR} {k:Tree→List Tok→PR} {m:Tree→RS→RR} (h:Agree p q) (hk:∀ t ts,Zx ts→Agree (k t ts) (m t ⟨ts,none⟩)) (he:∀ t ts e,Z1k (m t ⟨ts,some e⟩) e) :
 Agree (Z01 p k) (Z08 q m):=by
 cases p with
 | none=>trivial
 | some r =>
   cases r with
   | error e=>obtain ⟨t,ts,rfl⟩:=h; exact he t ts e
   | ok x=>obtain ⟨t,ts⟩:=x; obtain ⟨rfl,hg⟩:=h; exact hk t ts hg
theorem Agree.want {s:ByteArray} {ts:List Tok} {k:List Tok→PR} {m:RS→RR} (hg:Zx ts) (hk:Zx ts.tail→Agree (k ts.tail) (m ⟨ts.tail,none⟩)) (he:∀ ts e,Z1k (m ⟨ts,some e⟩) e) :
 Agree (Z10 s ts k) (m (Z0h s ⟨ts,none⟩)):=by
 unfold Z10 Z0h;by_cases h:isT s ts=true;·simp only [h,Option.isNone_none,if_true]; exact hk hg.tail
 ·simp only [h,Option.isNone_none,if_true]; exact he _ _
theorem Agree.name {ts:List Tok} {k:ByteArray→List Tok→PR} {m:ByteArray→RS→RR} (hg:Zx ts) (hk:∀ s,Zx ts.tail→Agree (k s ts.tail) (m s ⟨ts.tail,none⟩)) (he:∀ s ts e,Z1k (m s ⟨ts,some e⟩) e) :
 Agree (Z3n ts k) (m (Zo ⟨ts,none⟩).1 (Zo ⟨ts,none⟩).2):=by
 unfold Z3n Zo;by_cases h:(hdT ts).kind=1;·simp only [h,Option.isNone_none,if_true]; exact hk _ hg.tail
 ·simp only [h,Option.isNone_none,if_true,if_false]; exact he _ _ _
theorem Agree.ite {c:Prop} [Decidable c] {c':Bool} {p1 p2:PR} {q1 q2:RR} (h:c↔c'=true) (h1:c→Agree p1 q1) (h2:¬ c→Agree p2 q2):Agree (if c then p1 else p2) (if c'=true then q1 else q2):=by
 by_cases hc:c;·rw [Yb hc,Yb (h.1 hc)]; exact h1 hc
 ·rw [Y9 hc,Y9 (fun e=>hc (h.2 e))]; exact h2 hc
theorem Agree.within {d:Nat} {ts:List Tok} {p:PR} {q:RR} {t:Tree} (h:d + 1≤30→Agree p q):Agree (Z0v d ts p) (if 30 < d + 1 then some (t,Z3c 4 ⟨ts,none⟩) else q):=by
 unfold Z0v;by_cases hd:30 < d + 1;·rw [Yb hd,Yb hd]; exact Agree.fail
 ·rw [Y9 hd,Y9 hd]; exact h (by omega)
theorem Z0p (s:ByteArray) (ts:List Tok):Zf s ⟨ts,none⟩=isT s ts:=by simp [Zf]
end Go.Proofs.YtfilfhpfndaniaaGreatDoor
namespace Go.Proofs.YtfilfhpfndaniaaGreatDoor
open Go Go.RowKit
set_option maxRecDepth 100000
set_option maxHeartbeats 20000000
set_option linter.unusedVariables false
structure QC where
 rb:Nat
 tb:Nat
 off:Nat
 cap:Nat
 L:List Tok
def fE:Option (Int×Nat)→Int
 | none=>0
 | some x=>x.1
def fP:Option (Int×Nat)→Int
 | none=>-1
 | some x=>x.2
structure QAt (w:World) (C:QC) (i:Nat) (f:Option (Int×Nat)):Prop where
 blk:w.heap[C.rb]?=some (.cells #[.slice (some ⟨C.tb,C.off,none⟩) C.L.length C.cap,.int .i64 i,.int .i64 (fE f),.int .i64 (fP f)] 72 (0,0))
 le:C.L.length≤C.cap
 most:C.cap≤9223372036854775807
 ord:C.tb < C.rb
 cells:∀ k t j x,C.L[k]?=some t→t.cells[j]?=some x→w.cell? ⟨C.tb,C.off + k * 4 + j,none⟩=some x
 last:∃ l e,C.L=l ++ [e]∧e.kind=6∧∀ t∈l,t.kind≠6
 lt:i < C.L.length
 few:C.L.length≤4000
 code:∀ c p,f=some (c,p)→c≠0
 pm:∀ t∈C.L,t.kind=5→t.text≠⟨#[43,45]⟩
 sm:∀ t∈C.L,t.text.size≤maxLen
def QS (w:World) (C:QC) (σ:RS):Prop:=∃ i,σ.ts=C.L.drop i∧QAt w C i σ.f
section
variable {w w':World} {C:QC} {i:Nat} {f:Option (Int×Nat)} {σ:RS}
theorem QAt.rlt (h:QAt w C i f):C.rb < w.heap.size:=(Y6.1 h.blk).1
theorem QAt.keep (h:QAt w C i f) (hk:∀ k,k≤C.rb→w'.heap[k]?=w.heap[k]?):QAt w' C i f:=
 ⟨(hk _ (Y5 _)).trans h.blk,h.le,h.most,h.ord,fun k t j x h1 h2=>(Yj (hk _ (Nat.le_of_lt h.ord))).trans (h.cells k t j x h1 h2),h.last,h.lt,h.few,h.code,h.pm,h.sm⟩
theorem QAt.below (h:QAt w C i f) (hB:Below w.heap.size w w'):QAt w' C i f:=h.keep fun k hk=>hB.block k (Nat.lt_of_le_of_lt hk h.rlt)
theorem QAt.drew (h:QAt w C i f):QAt w.drew C i f:=h.keep fun _ _=>rfl
theorem QS.below (h:QS w C σ) (hB:Below w.heap.size w w'):QS w' C σ:=by
 obtain ⟨i,e,h⟩:=h;exact ⟨i,e,h.below hB⟩
theorem QS.drew (h:QS w C σ):QS w.drew C σ:=h.below (Y8 _ _).drew
theorem QS.rlt (h:QS w C σ):C.rb < w.heap.size:=by obtain ⟨i,e,h⟩:=h; exact h.rlt
theorem QAt.c0 (h:QAt w C i f):w.cell? ⟨C.rb,0,none⟩=some (.slice (some ⟨C.tb,C.off,none⟩) C.L.length C.cap):=by simp [World.cell?,h.blk]
theorem QAt.c1 (h:QAt w C i f):w.cell? ⟨C.rb,1,none⟩=some (.int .i64 i):=by simp [World.cell?,h.blk]
theorem QAt.c2 (h:QAt w C i f):w.cell? ⟨C.rb,2,none⟩=some (.int .i64 (fE f)):=by simp [World.cell?,h.blk]
theorem QAt.c3 (h:QAt w C i f):w.cell? ⟨C.rb,3,none⟩=some (.int .i64 (fP f)):=by simp [World.cell?,h.blk]
theorem QAt.fz (h:QAt w C i f) (j:Nat):w.frozen? ⟨C.rb,j,none⟩=false:=by simp [World.frozen?,h.blk]
theorem QAt.hdEq (h:QAt w C i f):C.L[i]?=some (hdT (C.L.drop i)):=by
 have:=h.lt;rw [List.drop_eq_getElem_cons this,Yd this];rfl
theorem QAt.hd (h:QAt w C i f) {j:Nat} {x:Value} (hj:(hdT (C.L.drop i)).cells[j]?=some x):w.cell? ⟨C.tb,C.off + i * 4 + j,none⟩=some x:=h.cells i _ j x h.hdEq hj
theorem QAt.more (h:QAt w C i f) (hk:(hdT (C.L.drop i)).kind≠6):i + 1 < C.L.length:=by
 obtain ⟨l,e,h1,h2,_⟩:=h.last;have hi:=h.lt;have hh:=h.hdEq;rw [h1] at hh hi ⊢;rw [Yq,List.length_singleton] at hi ⊢;by_cases hl:i < l.length;·omega
 ·exfalso;have e1 : i = l.length := by omega
  subst e1;rw [List.getElem?_append_right (Y5 _)] at hh;simp only [Nat.sub_self,List.getElem?_cons_zero,Option.some.injEq] at hh;rw [h1,← hh] at hk;exact hk h2
theorem QAt.at (h:QAt w C i f) {j:Nat} (hj:j < C.L.length) {x:Int} (hx:x=j):QAt (w.setCell ⟨C.rb,1,none⟩ (.int .i64 x)) C j f:=by
 subst hx;have hb:=Yg w ⟨C.rb,1,none⟩ (.int .i64 (j:Int)) C.tb (by have:=h.ord; simp only; omega);exact ⟨Zm (o:=1) (.int .i64 (j:Int)) h.blk,h.le,h.most,h.ord,fun k t j' x h3 h4=>(Yj hb).trans (h.cells k t j' x h3 h4),h.last,hj,h.few,h.code,h.pm,h.sm⟩
theorem QAt.fault (h:QAt w C i f) {c:Int} {p:Nat} (hc:c≠0) {x:Int} (hx:x=p):QAt ((w.setCell ⟨C.rb,2,none⟩ (.int .i64 c)).setCell ⟨C.rb,3,none⟩ (.int .i64 x)) C i (some (c,p)):=by
 subst hx;have hb:((w.setCell ⟨C.rb,2,none⟩ (.int .i64 c)).setCell ⟨C.rb,3,none⟩ (.int .i64 (p:Int))).heap[C.tb]?=w.heap[C.tb]?:=by
  have:=h.ord;rw [Yg _ _ _ _ (by simp only; omega),Yg _ _ _ _ (by simp only; omega)]
 exact ⟨Zm (o:=3) _ (Zm (o:=2) _ h.blk),h.le,h.most,h.ord,fun k t j' x h3 h4=>(Yj hb).trans (h.cells k t j' x h3 h4),h.last,h.lt,h.few,fun c' p' e=>by
  simp only [Option.some.injEq,Prod.mk.injEq] at e;rw [← e.1]; exact hc,h.pm,h.sm⟩
theorem Zcp {α:Type} (l:List α) (i:Nat):(l.drop i).tail=l.drop (i + 1):=by rw [List.tail_drop]
theorem QS.adv {w:World} (h:QAt w C i f) (hk:(hdT (C.L.drop i)).kind≠6) {x:Int} (hx:x=(i:Int) + 1):QS (w.setCell ⟨C.rb,1,none⟩ (.int .i64 x)) C (advR ⟨C.L.drop i,f⟩):=
 ⟨i + 1,Zcp _ _,h.at (h.more hk) (by rw [hx]; rfl)⟩
theorem Zi4 (h:QAt w C i f):Calls Tryz.prog 28 #[.pointer (some ⟨C.rb,0,none⟩)] w fun e w'=>e=.returned (.bool f.isNone)∧w=w':=by
 have hc:=h.c2;have hcode:=h.code;rcases f with _ | ⟨c,p⟩
 ·simp only [fE] at hc;clear h hcode;go_enter Tryz.func28, Tryz.ntmps28
  go_wp2;go_ret;exact ⟨rfl,rfl⟩
 ·have h0 : (c == 0) = false := by simpa using hcode c p rfl
  simp only [fE] at hc;clear h hcode;go_enter Tryz.func28,Tryz.ntmps28
  go_wp2;go_ret;exact ⟨rfl,rfl⟩
theorem Z2h (h:QS w C σ):Calls Tryz.prog 28 #[.pointer (some ⟨C.rb,0,none⟩)] w fun e w'=>e=.returned (.bool σ.f.isNone)∧w=w':=by
 obtain ⟨i,_,h⟩:=h;exact Zi4 h
theorem Zlg (s:ByteArray) (t:Tok):((decide (t.kind=5) || decide (t.kind=2)) && Zt t.text s)=((t.kind == 2 || t.kind == 5) && (t.text.toList == s.toList)):=by
 rw [Z26,Bool.or_comm]; rfl
theorem Zd (h:QS w C σ) (s:ByteArray):Calls Tryz.prog 50 #[.pointer (some ⟨C.rb,0,none⟩),.string s] w fun e w'=>e=.returned (.bool (Zf s σ))∧Below w.heap.size w w':=by
 obtain ⟨i,e,h⟩:=h;obtain ⟨ts,f⟩:=σ;simp only at e h;subst e;have HOK:=lh (fun w1 (hB:Below w.heap.size w w1)=>Zi4 (h.below hB));have c0:=h.c0;have c1:=h.c1;have t0:=h.hd (j:=0) rfl;have t1:=h.hd (j:=1) rfl;have t2:=h.hd (j:=2) rfl;have t3:=h.hd (j:=3) rfl;have hi:=h.lt;have hle:=h.le;have hm:=h.most;have hr:=h.rlt;have ht:C.tb < w.heap.size:=Nat.lt_trans h.ord hr;obtain ⟨n,hn⟩:=zX C.L.length
 rw [← hn] at c0 hi hle;obtain ⟨X,hX⟩:=zX (Zf s ⟨C.L.drop i,f⟩)
 rw [← hX];unfold Zf isT at hX;rw [Zlg] at hX;obtain ⟨⟨k,tx,tn,ta⟩,htok⟩:∃ t,t=hdT (C.L.drop i):=⟨_,rfl⟩
 simp only [← htok] at t0 t1 t2 t3 hX;rw [Nat.add_zero] at t0;generalize C.tb=tb at *;generalize C.off=off at *;generalize C.cap=cap at *;generalize f.isNone=b at *;have HX:=lh hX;generalize C.rb=rb at *;clear h hn htok hX;cases b with
 | false =>
   go_enter Tryz.func50,Tryz.ntmps50
   go_wp2_with fail
   refine Z1 [(true,0),(true,1),(true,2),(true,3),(true,4),(true,5),(true,6),(true,7),(true,8),(true,9),(false,10)] [11] (fun W=>W.cell? ⟨rb,0,none⟩=some (.slice (some ⟨tb,off,none⟩) n cap)∧W.cell? ⟨rb,1,none⟩=some (.int .i64 i)∧W.cell? ⟨tb,off + i * 4,none⟩=some (.int .i64 k)∧W.cell? ⟨tb,off + i * 4 + 1,none⟩=some (.string tx)∧W.cell? ⟨tb,off + i * 4 + 2,none⟩=some (.int .i64 tn)∧W.cell? ⟨tb,off + i * 4 + 3,none⟩=some (.int .i64 ta)) (by kernel_rfl) (by kernel_rfl) (fun _ _ d _ _ h=>by cases d <;> exact h) ⟨c0,c1,t0,t1,t2,t3⟩ (fun hS0=>?_)
   simp only [Zh,zD,zE,zF,zG,zH,zI]
   iterate 10
    first
     | (refine Z2 ?_ (by rfl) (fun w' hS'=>?_) ?_; rotate_left; (obtain ⟨s0,s1,s2,s3,s4,s5⟩:=hS'; go_simp; first | done | with_reducible rfl); simp only [Act.put,zA,zB,zC])
     | (refine Z3 (by rfl) ?_; simp only [Act.put,zA,zB,zC])
   refine Z5 (fun K hK=>?_);go_simp
   refine hK _ _ ⟨(Z4 hr).trans c0,(Z4 hr).trans c1,(Z4 ht).trans t0,(Z4 ht).trans t1,(Z4 ht).trans t2,(Z4 ht).trans t3⟩ ?_;clear hK K;refine Z6 ?_;go_wp2_with fail
   refine (HOK.out _ ?_).mono ?_;·repeat (first | exact Y8 _ _ | (refine Below.setCell ?_ (by simp) _) | (refine Below.alloc ?_ (by simp) _) | (refine Below.drew ?_))
   rintro e w1 ⟨rfl,rfl⟩;go_wp2;go_ret;refine ⟨Z8r (by rw [HX.out]; rfl),?_⟩;repeat (first | exact Y8 _ _ | (refine Below.setCell ?_ (by simp) _) | (refine Below.alloc ?_ (by simp) _) | (refine Below.drew ?_))
 | true =>
   by_cases k2:(k == 2)=true
   ·go_enter Tryz.func50, Tryz.ntmps50
    go_wp2_with fail
    refine Z1 [(true,0),(true,1),(true,2),(true,3),(true,4),(true,5),(true,6),(true,7),(true,8),(true,9),(false,10)] [11] (fun W=>W.cell? ⟨rb,0,none⟩=some (.slice (some ⟨tb,off,none⟩) n cap)∧W.cell? ⟨rb,1,none⟩=some (.int .i64 i)∧W.cell? ⟨tb,off + i * 4,none⟩=some (.int .i64 k)∧W.cell? ⟨tb,off + i * 4 + 1,none⟩=some (.string tx)∧W.cell? ⟨tb,off + i * 4 + 2,none⟩=some (.int .i64 tn)∧W.cell? ⟨tb,off + i * 4 + 3,none⟩=some (.int .i64 ta)) (by kernel_rfl) (by kernel_rfl) (fun _ _ d _ _ h=>by cases d <;> exact h) ⟨c0,c1,t0,t1,t2,t3⟩ (fun hS0=>?_)
    simp only [Zh,zD,zE,zF,zG,zH,zI]
    iterate 10
     first
      | (refine Z2 ?_ (by rfl) (fun w' hS'=>?_) ?_; rotate_left; (obtain ⟨s0,s1,s2,s3,s4,s5⟩:=hS'; go_simp; first | done | with_reducible rfl); simp only [Act.put,zA,zB,zC])
      | (refine Z3 (by rfl) ?_; simp only [Act.put,zA,zB,zC])
    refine Z5 (fun K hK=>?_);go_simp
    refine hK _ _ ⟨(Z4 hr).trans c0,(Z4 hr).trans c1,(Z4 ht).trans t0,(Z4 ht).trans t1,(Z4 ht).trans t2,(Z4 ht).trans t3⟩ ?_;clear hK K;refine Z6 ?_;go_wp2_with fail
    refine (HOK.out _ ?_).mono ?_;·repeat (first | exact Y8 _ _ | (refine Below.setCell ?_ (by simp) _) | (refine Below.alloc ?_ (by simp) _) | (refine Below.drew ?_))
    rintro e w1 ⟨rfl,rfl⟩;go_wp2;go_ret;refine ⟨Z8r (by rw [HX.out,k2]; rfl),?_⟩;repeat (first | exact Y8 _ _ | (refine Below.setCell ?_ (by simp) _) | (refine Below.alloc ?_ (by simp) _) | (refine Below.drew ?_))
   ·have k2' : (k == 2) = false := by simpa using k2
    by_cases k5:(k == 5)=true
    ·go_enter Tryz.func50, Tryz.ntmps50
     go_wp2_with fail
     refine Z1 [(true,0),(true,1),(true,2),(true,3),(true,4),(true,5),(true,6),(true,7),(true,8),(true,9),(false,10)] [11] (fun W=>W.cell? ⟨rb,0,none⟩=some (.slice (some ⟨tb,off,none⟩) n cap)∧W.cell? ⟨rb,1,none⟩=some (.int .i64 i)∧W.cell? ⟨tb,off + i * 4,none⟩=some (.int .i64 k)∧W.cell? ⟨tb,off + i * 4 + 1,none⟩=some (.string tx)∧W.cell? ⟨tb,off + i * 4 + 2,none⟩=some (.int .i64 tn)∧W.cell? ⟨tb,off + i * 4 + 3,none⟩=some (.int .i64 ta)) (by kernel_rfl) (by kernel_rfl) (fun _ _ d _ _ h=>by cases d <;> exact h) ⟨c0,c1,t0,t1,t2,t3⟩ (fun hS0=>?_)
     simp only [Zh,zD,zE,zF,zG,zH,zI]
     iterate 10
      first
       | (refine Z2 ?_ (by rfl) (fun w' hS'=>?_) ?_; rotate_left; (obtain ⟨s0,s1,s2,s3,s4,s5⟩:=hS'; go_simp; first | done | with_reducible rfl); simp only [Act.put,zA,zB,zC])
       | (refine Z3 (by rfl) ?_; simp only [Act.put,zA,zB,zC])
     refine Z5 (fun K hK=>?_);go_simp
     refine hK _ _ ⟨(Z4 hr).trans c0,(Z4 hr).trans c1,(Z4 ht).trans t0,(Z4 ht).trans t1,(Z4 ht).trans t2,(Z4 ht).trans t3⟩ ?_;clear hK K;refine Z6 ?_;go_wp2_with fail
     refine (HOK.out _ ?_).mono ?_;·repeat (first | exact Y8 _ _ | (refine Below.setCell ?_ (by simp) _) | (refine Below.alloc ?_ (by simp) _) | (refine Below.drew ?_))
     rintro e w1 ⟨rfl,rfl⟩;go_wp2;go_ret;refine ⟨Z8r (by rw [HX.out,k5,Bool.or_true]; rfl),?_⟩;repeat (first | exact Y8 _ _ | (refine Below.setCell ?_ (by simp) _) | (refine Below.alloc ?_ (by simp) _) | (refine Below.drew ?_))
    ·have k5' : (k == 5) = false := by simpa using k5
     go_enter Tryz.func50,Tryz.ntmps50
     go_wp2_with fail
     refine Z1 [(true,0),(true,1),(true,2),(true,3),(true,4),(true,5),(true,6),(true,7),(true,8),(true,9),(false,10)] [11] (fun W=>W.cell? ⟨rb,0,none⟩=some (.slice (some ⟨tb,off,none⟩) n cap)∧W.cell? ⟨rb,1,none⟩=some (.int .i64 i)∧W.cell? ⟨tb,off + i * 4,none⟩=some (.int .i64 k)∧W.cell? ⟨tb,off + i * 4 + 1,none⟩=some (.string tx)∧W.cell? ⟨tb,off + i * 4 + 2,none⟩=some (.int .i64 tn)∧W.cell? ⟨tb,off + i * 4 + 3,none⟩=some (.int .i64 ta)) (by kernel_rfl) (by kernel_rfl) (fun _ _ d _ _ h=>by cases d <;> exact h) ⟨c0,c1,t0,t1,t2,t3⟩ (fun hS0=>?_)
     simp only [Zh,zD,zE,zF,zG,zH,zI]
     iterate 10
      first
       | (refine Z2 ?_ (by rfl) (fun w' hS'=>?_) ?_; rotate_left; (obtain ⟨s0,s1,s2,s3,s4,s5⟩:=hS'; go_simp; first | done | with_reducible rfl); simp only [Act.put,zA,zB,zC])
       | (refine Z3 (by rfl) ?_; simp only [Act.put,zA,zB,zC])
     refine Z5 (fun K hK=>?_);go_simp
     refine hK _ _ ⟨(Z4 hr).trans c0,(Z4 hr).trans c1,(Z4 ht).trans t0,(Z4 ht).trans t1,(Z4 ht).trans t2,(Z4 ht).trans t3⟩ ?_;clear hK K;refine Z6 ?_;go_wp2_with fail
     refine (HOK.out _ ?_).mono ?_;·repeat (first | exact Y8 _ _ | (refine Below.setCell ?_ (by simp) _) | (refine Below.alloc ?_ (by simp) _) | (refine Below.drew ?_))
     rintro e w1 ⟨rfl,rfl⟩;go_wp2;go_ret;refine ⟨Z8r (by rw [HX.out,k2',k5']; rfl),?_⟩;repeat (first | exact Y8 _ _ | (refine Below.setCell ?_ (by simp) _) | (refine Below.alloc ?_ (by simp) _) | (refine Below.drew ?_))
theorem RFr.of_set {w:World} {rb:Nat} (o:Nat) (x:Value):RFr w (w.setCell ⟨rb,o,none⟩ x) rb:=(RFr.refl w rb).set o x
def Z21 (w:World) (C:QC) (B:Nat) (t:Tree) (σ':RS) (e:Ending) (w':World):Prop:=
 ∃ a,e=.returned (.pointer (some ⟨a.b,0,none⟩))∧Got w B w' a t∧QS w' C σ'∧RFr w w' C.rb
theorem Z2y (h:QS w C σ) (c:Int) (hc:c≠0) (B:Nat) (hB:C.rb < B) (hBw:B≤w.heap.size) :
 Calls Tryz.prog 49 #[.pointer (some ⟨C.rb,0,none⟩),.int .i64 c] w (Z21 w C B gT (Z3c c σ)):=by
 obtain ⟨i,e,h⟩:=h;obtain ⟨ts,f⟩:=σ;simp only at e h;subst e;have HOK:=lh (Zi4 h);have HH:=lh h;cases hf:f.isNone with
 | false =>
   rw [hf] at HOK;have hR:Z3c c ⟨C.L.drop i,f⟩=⟨C.L.drop i,f⟩:=by simp [Z3c,hf]
   rw [hR];clear h hf hR;go_enter Tryz.func49,Tryz.ntmps49
   go_wp2_with fail
   refine HOK.out.mono ?_;rintro e w1 ⟨rfl,rfl⟩;go_wp2;go_ret;exact ⟨_,rfl,Got.leaf hBw (RFr.refl w C.rb),⟨i,rfl,HH.out.below ((Y8 _ _).alloc (Y5 _) _)⟩,RFr.below ((Y8 _ _).alloc (Y5 _) _)⟩
 | true =>
   rw [hf] at HOK;obtain rfl:f=none:=by cases f <;> simp_all
   have hR:Z3c c ⟨C.L.drop i,none⟩=⟨C.L.drop i,some (c,(hdT (C.L.drop i)).at')⟩:=by simp [Z3c]
   rw [hR];have c0:=h.c0;have c1:=h.c1;have c2:=h.c2;have c3:=h.c3;have t3:=h.hd (j:=3) rfl;have z2:=h.fz 2;have z3:=h.fz 3;have hi:=h.lt;have hle:=h.le;have hm:=h.most;obtain ⟨p,hp⟩:=zX ((hdT (C.L.drop i)).at')
   rw [← hp] at t3 ⊢;obtain ⟨n,hn⟩:=zX C.L.length
   rw [← hn] at c0 hi hle;clear h hf hR hp hn;obtain ⟨rb,tb,off,cap,L⟩:=C;simp only at *;go_enter Tryz.func49,Tryz.ntmps49
   go_wp2_with fail
   refine HOK.out.mono ?_;rintro e w1 ⟨rfl,rfl⟩;go_wp2_with fail
   refine Z1 [(true,0),(true,1),(true,2),(true,3),(true,4),(true,5),(true,6),(true,7),(true,8),(true,9),(true,10),(true,11),(true,12),(true,13)] [14,15,16] (fun W=>W.cell? ⟨rb,0,none⟩=some (.slice (some ⟨tb,off,none⟩) n cap)∧W.cell? ⟨rb,1,none⟩=some (.int .i64 i)∧W.cell? ⟨tb,off + i * 4 + 3,none⟩=some (.int .i64 p)) (by kernel_rfl) (by kernel_rfl) (fun _ _ d _ _ h=>by cases d <;> exact h) ⟨c0,c1,t3⟩ (fun hS0=>?_)
   simp only [Zh,zD,zE,zF,zG,zH,zI]
   iterate 14
    first
     | (refine Z2 ?_ (by rfl) (fun w' hS'=>?_) ?_; rotate_left; (obtain ⟨s0,s1,s2⟩:=hS'; go_simp; first | done | with_reducible rfl); simp only [Act.put,zA,zB,zC])
     | (refine Z3 (by rfl) ?_; simp only [Act.put,zA,zB,zC])
   refine Z6 ?_;go_wp2;go_ret;have h2:QAt ((w.setCell ⟨rb,2,none⟩ (.int .i64 c)).setCell ⟨rb,3,none⟩ (.int .i64 p)) ⟨rb,tb,off,cap,L⟩ i (some (c,p)):=HH.out.fault hc rfl;have h3:RFr w ((w.setCell ⟨rb,2,none⟩ (.int .i64 c)).setCell ⟨rb,3,none⟩ (.int .i64 p)) rb:=((RFr.refl w rb).set 2 _).set 3 _;have h4:=Got.leaf (w0:=w) (rb:=rb) (B:=B) (k:=0) (t:=⟨#[]⟩) (n:=0) hBw h3;refine ⟨_,?pt,h4.rfr hB (RFr.refl _ rb).drew,⟨i,rfl,(h2.below ((Y8 _ _).alloc (Y5 _) _)).drew⟩,(h3.trans (RFr.below ((Y8 _ _).alloc (Y5 _) _))).drew⟩
   case pt=>simp [ATree.b]
theorem Z31 {s:ByteArray} {σ:RS} (h:Zf s σ=true):isT s σ.ts=true:=by
 unfold Zf at h;simp only [Bool.and_eq_true] at h;exact h.2
theorem Z15 (h:QS w C σ) (s:ByteArray):Calls Tryz.prog 52 #[.pointer (some ⟨C.rb,0,none⟩),.string s] w fun e w'=>
 e=.returned (.bool (Zf s σ))∧QS w' C (if Zf s σ then advR σ else σ)∧RFr w w' C.rb:=by
 have HN:=Zd h s;have HH:=lh h;obtain ⟨rb,tb,off,cap,L⟩:=C;by_cases hs:Zf s σ=true
 ·rw [hs] at HN;have HN := lh HN;have HS := lh hs;rw [Yb hs];clear h hs;go_enter Tryz.func52, Tryz.ntmps52
  go_wp2_with fail
  refine HN.out.mono ?_;rintro e w1 ⟨rfl,hB1⟩;have h1:=HH.out.below hB1;have HB:=lh hB1;obtain ⟨i,e,h⟩:=h1;have c1:=h.c1;have z1:=h.fz 1;have hi:=h.lt;have hf:=h.few;simp only at c1 z1;have H1:=lh h;have E1:=lh e;clear hB1 h e;go_wp2;go_ret;have hk:=Z5f (Z31 HS.out);rw [E1.out] at hk;have h2:=QS.adv H1.out (x:=(i:Int) + 1) hk rfl;have h3:(⟨List.drop i L,σ.f⟩:RS)=σ:=by rw [← E1.out]
  simp only at h2;rw [h3] at h2;refine ⟨by rw [HS.out]; rfl,h2,(RFr.below HB.out).set 1 _⟩
 ·have hs : Zf s σ = false := by simpa using hs
  rw [hs] at HN;have HN:=lh HN;simp only [hs,if_false,Bool.false_eq_true];clear h hs;go_enter Tryz.func52,Tryz.ntmps52
  go_wp2_with fail
  refine HN.out.mono ?_;rintro e w1 ⟨rfl,hB1⟩;have HB:=lh hB1;clear hB1;go_wp2;go_ret;exact ⟨rfl,HH.out.below HB.out,RFr.below HB.out⟩
theorem Z0g (h:QS w C σ) (s:ByteArray) (B:Nat) (hB:C.rb < B) (hBw:B≤w.heap.size):Calls Tryz.prog 57 #[.pointer (some ⟨C.rb,0,none⟩),.string s] w fun e w'=>
 e=.returned (.tuple #[])∧QS w' C (Z0h s σ)∧RFr w w' C.rb:=by
 have HO:=Z2h h;have HH:=lh h;have HBB:=lh hB;have HBW:=lh hBw;obtain ⟨X,hX⟩:=zX (Z0h s σ)
 rw [← hX];unfold Z0h at hX;by_cases hf:σ.f.isNone=true
 ·rw [hf] at HO;rw [Yb hf] at hX;have HS := Z15 h s;have hns : Zf s σ = isT s σ.ts := by simp [Zf, hf]
  rw [hns] at HS;have HO:=lh HO;by_cases hs:isT s σ.ts=true
  ·rw [Yb hs] at hX;rw [hs] at HS;rw [Yb rfl, ← hX] at HS;have HS := lh HS;clear h hX hf hns hs hB hBw;go_enter Tryz.func57, Tryz.ntmps57
   go_wp2_with fail
   refine HO.out.mono ?_;rintro e w1 ⟨rfl,rfl⟩;go_wp2_with fail
   refine HS.out.mono ?_;rintro e w1 ⟨rfl,h1⟩;have H1:=lh h1;clear h1;go_wp2;go_end0
   exact ⟨rfl,H1.out⟩
  ·rw [Y9 hs] at hX;have hs : isT s σ.ts = false := by simpa using hs
   rw [hs] at HS;simp only [Bool.false_eq_true,if_false] at HS;have HS:=lh HS;have HX:=lh hX;clear h hX hf hns hs hB hBw;go_enter Tryz.func57,Tryz.ntmps57
   go_wp2_with fail
   refine HO.out.mono ?_;rintro e w1 ⟨rfl,rfl⟩;go_wp2_with fail
   refine HS.out.mono ?_;rintro e w2 ⟨rfl,h2⟩;have H2:=lh h2;clear h2;go_wp2_with fail
   refine (Z2y H2.out.1 3 (by decide) B HBB.out (Ya HBW.out H2.out.2.size)).mono ?_;rintro e w3 ⟨a,rfl,_,h3,h4⟩;have H3:=lh h3;have H4:=lh h4;clear h3 h4;go_wp2;go_end0
   refine ⟨rfl,?_,H2.out.2.trans H4.out⟩;rw [HX.out];exact H3.out
 ·have hf : σ.f.isNone = false := Bool.eq_false_iff.2 hf;rw [hf] at HO;rw [Y9 (by rw [hf]; decide)] at hX;have HO := lh HO;have HX := lh hX;clear h hX hf hB hBw;go_enter Tryz.func57, Tryz.ntmps57
  go_wp2_with fail
  refine HO.out.mono ?_;rintro e w1 ⟨rfl,rfl⟩;go_wp2;go_end0
  exact ⟨rfl,by rw [HX.out]; exact HH.out,RFr.refl _ _⟩
theorem Z35 (h:QS w C σ) (B:Nat) (hB:C.rb < B) (hBw:B≤w.heap.size):Calls Tryz.prog 53 #[.pointer (some ⟨C.rb,0,none⟩)] w fun e w'=>
 e=.returned (.string (Zo σ).1)∧QS w' C (Zo σ).2∧RFr w w' C.rb:=by
 have HO:=Z2h h;have HH:=lh h;have HBB:=lh hB;have HBW:=lh hBw;obtain ⟨X,hX⟩:=zX (Zo σ)
 rw [← hX];unfold Zo at hX;by_cases hf:σ.f.isNone=true
 ·rw [hf] at HO;rw [Yb hf] at hX;have HO := lh HO;obtain ⟨i, e, h⟩ := h;obtain ⟨ts, f⟩ := σ;simp only at e hf hX;subst e;have c0 := h.c0;have c1 := h.c1;have t0 := h.hd (j := 0) (x := .int .i64 (hdT (C.L.drop i)).kind) rfl;have t1 := h.hd (j := 1) (x := .string (hdT (C.L.drop i)).text) rfl;have z1 := h.fz 1;have hi := h.lt;have hle := h.le;have hm := h.most;have hr := h.rlt;have ho := h.ord;have hfew := h.few;have HA := lh h;rw [Nat.add_zero] at t0;obtain ⟨rb, tb, off, cap, L⟩ := C;simp only at *;obtain ⟨n, hn⟩ := zX L.length
  rw [← hn] at c0 hi hle hfew;by_cases hk:(hdT (L.drop i)).kind=1
  ·rw [Yb hk] at hX;rw [hk] at t0;have hk6 : (hdT (L.drop i)).kind ≠ 6 := by rw [hk]; decide
   have HK6:=lh hk6;have HX:=lh hX;have hrt:¬ rb=tb:=by omega
   obtain ⟨tx,htx⟩:=zX ((hdT (L.drop i)).text)
   rw [← htx] at t1;have HTX:=lh htx;clear h hX hf hk hB hBw hk6 hn htx;go_enter Tryz.func53,Tryz.ntmps53
   go_wp2_with fail
   refine HO.out.mono ?_;rintro e w1 ⟨rfl,rfl⟩;go_wp2_with fail
   refine Z1 [(true,0),(true,1),(true,2),(true,3),(true,4),(true,5),(true,6),(true,7)] [8,9,10,11] (fun W=>W.cell? ⟨rb,0,none⟩=some (.slice (some ⟨tb,off,none⟩) n cap)∧W.cell? ⟨rb,1,none⟩=some (.int .i64 i)∧W.cell? ⟨tb,off + i * 4,none⟩=some (.int .i64 1)) (by kernel_rfl) (by kernel_rfl) (fun _ _ d _ _ h=>by cases d <;> exact h) ⟨c0,c1,t0⟩ (fun hS0=>?_);simp only [Zh,zD,zE,zF,zG,zH,zI]
   iterate 8
    first
     | (refine Z2 ?_ (by rfl) (fun w' hS'=>?_) ?_; rotate_left; (obtain ⟨s0,s1,s2⟩:=hS'; go_simp; first | done | with_reducible rfl); simp only [Act.put,zA,zB,zC])
     | (refine Z3 (by rfl) ?_; simp only [Act.put,zA,zB,zC])
   refine Z6 ?_;have h2:=HA.out.drew.at (j:=i + 1) (x:=(i:Int) + 1) (HA.out.more HK6.out) rfl;have d0:=h2.c0;have d1:=h2.c1;have e1:=h2.cells i _ 1 (.string (hdT (L.drop i)).text) HA.out.hdEq rfl;simp only [← HTX.out] at d0 d1 e1;obtain ⟨m,hm'⟩:=zX L.length
   rw [← hm'] at d0;have hm2:=HA.out.more HK6.out;simp only [← hm'] at hm2;have H2:=lh h2;clear h2 hm';go_wp2_with fail
   refine Z1 [(true,0),(true,1),(true,2),(true,3),(true,4),(true,5),(true,6),(true,7),(true,8)] [9,10,11,12] (fun W=>W.cell? ⟨rb,0,none⟩=some (.slice (some ⟨tb,off,none⟩) m cap)∧W.cell? ⟨rb,1,none⟩=some (.int .i64 ((i:Int) + 1))∧W.cell? ⟨tb,off + i * 4 + 1,none⟩=some (.string tx)) (by kernel_rfl) (by kernel_rfl) (fun _ _ d _ _ h=>by cases d <;> exact h) ⟨d0,d1,e1⟩ (fun hS0=>?_);simp only [Zh,zD,zE,zF,zG,zH,zI]
   iterate 9
    first
     | (refine Z2 ?_ (by rfl) (fun w' hS'=>?_) ?_; rotate_left; (obtain ⟨s0,s1,s2⟩:=hS'; go_simp; first | done | with_reducible rfl); simp only [Act.put,zA,zB,zC])
     | (refine Z3 (by rfl) ?_; simp only [Act.put,zA,zB,zC])
   refine Z6 ?_;go_wp2;go_ret;refine ⟨by rw [HX.out,HTX.out]; rfl,?_,((RFr.refl _ _).drew.set 1 _).drew⟩;rw [HX.out];exact QS.drew ⟨i + 1,Zcp _ _,H2.out⟩
  ·rw [Y9 hk] at hX;have hk1 : ((hdT (L.drop i)).kind != 1) = true := by simpa using hk
   obtain ⟨k,hkk⟩:=zX ((hdT (L.drop i)).kind)
   rw [← hkk] at t0 hk1;have HX:=lh hX;clear h hX hf hk hB hBw hn hkk t1;go_enter Tryz.func53,Tryz.ntmps53
   go_wp2_with fail
   refine HO.out.mono ?_;rintro e w1 ⟨rfl,rfl⟩;go_wp2_with fail
   refine Z1 [(true,0),(true,1),(true,2),(true,3),(true,4),(true,5),(true,6),(true,7)] [8,9,10,11] (fun W=>W.cell? ⟨rb,0,none⟩=some (.slice (some ⟨tb,off,none⟩) n cap)∧W.cell? ⟨rb,1,none⟩=some (.int .i64 i)∧W.cell? ⟨tb,off + i * 4,none⟩=some (.int .i64 k)) (by kernel_rfl) (by kernel_rfl) (fun _ _ d _ _ h=>by cases d <;> exact h) ⟨c0,c1,t0⟩ (fun hS0=>?_);simp only [Zh,zD,zE,zF,zG,zH,zI]
   iterate 8
    first
     | (refine Z2 ?_ (by rfl) (fun w' hS'=>?_) ?_; rotate_left; (obtain ⟨s0,s1,s2⟩:=hS'; go_simp; first | done | with_reducible rfl); simp only [Act.put,zA,zB,zC])
     | (refine Z3 (by rfl) ?_; simp only [Act.put,zA,zB,zC])
   refine Z6 ?_;go_wp2_with fail
   refine (Z2y HH.out.drew 3 (by decide) B HBB.out (by simpa using HBW.out)).mono ?_;rintro e w3 ⟨a,rfl,_,h3,h4⟩;have H3:=lh h3;have H4:=lh h4;clear h3 h4;go_wp2;go_ret;refine ⟨by rw [HX.out]; rfl,?_,(RFr.refl _ _).drew.trans H4.out⟩;rw [HX.out];exact H3.out
 ·have hf : σ.f.isNone = false := Bool.eq_false_iff.2 hf;rw [hf] at HO;rw [Y9 (by rw [hf]; decide)] at hX;have HO := lh HO;have HX := lh hX;clear h hX hf hB hBw;go_enter Tryz.func53, Tryz.ntmps53
  go_wp2_with fail
  refine HO.out.mono ?_;rintro e w1 ⟨rfl,rfl⟩;go_wp2;go_ret;exact ⟨by rw [HX.out]; rfl,by rw [HX.out]; exact HH.out,RFr.refl _ _⟩
end
end Go.Proofs.YtfilfhpfndaniaaGreatDoor
