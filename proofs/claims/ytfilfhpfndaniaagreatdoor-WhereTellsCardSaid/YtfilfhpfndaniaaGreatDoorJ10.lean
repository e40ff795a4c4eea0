/- Package where: the finder as it stands; kids. -/
import Derived.Test.YtfilfhpfndaniaaGreatDoorJ09
namespace Go.Proofs.YtfilfhpfndaniaaGreatDoor
open Go Go.RowKit
set_option maxRecDepth 100000
set_option maxHeartbeats 20000000
set_option linter.unusedVariables false
structure Us where
 at':Int
 r:Int×Bool
def Us.cells (u:Us):List Value:=[.int .i64 u.at',.int .i64 u.r.1,.bool u.r.2]
def Zi:ByteArray:=⟨#[97,114,103,117,109,101,110,116,115]⟩
mutual
def Z0x (N:Nat→Nat):ATree→List Sc→Bool→List Us
 | .mk b v k t n ks, S, st =>
   if k=23 then [⟨N b,Z5i t S true⟩]
   else if k=6 then Z1c N ks (if Z0b false (.mk b v k t n ks)=[] then S else ⟨N b,Z0b false (.mk b v k t n ks),false⟩ :: S) st
   else if k=13 then Z1c N ks (⟨N b,[t],false⟩ :: S) st
   else if k=9 then (match ks with
    | x :: y :: _=>Z0x N x S st ++ Z0x N y (⟨-2,[],true⟩ :: S) st
    | _=>[])
   else if k=5∨k=37 then (match ks with
    | ps :: .mk b2 v2 k2 t2 n2 bks :: _ =>
      Z1c N bks (⟨N b,Zi :: (ps.kids.map ATree.text ++ Z0b true (.mk b2 v2 k2 t2 n2 bks)),!(st || Z1w (.mk b2 v2 k2 t2 n2 bks)) && Z5w (.mk b2 v2 k2 t2 n2 bks)⟩ :: (if k=37∧t≠ByteArray.empty then ⟨N b,[t],false⟩ :: S else S)) (st || Z1w (.mk b2 v2 k2 t2 n2 bks))
    | _=>[])
   else Z1c N ks S st
def Z1c (N:Nat→Nat):List ATree→List Sc→Bool→List Us
 | [],_,_=>[]
 | a :: l,S,st=>Z0x N a S st ++ Z1c N l S st
end
theorem Z25 (N:Nat→Nat) (l:List ATree) (a:ATree) (S:List Sc) (st:Bool):Z1c N (l ++ [a]) S st=Z1c N l S st ++ Z0x N a S st:=by
 induction l with
 | nil=>simp [Z1c]
 | cons x l ih=>simp only [List.cons_append,Z1c,ih,List.append_assoc]
structure FFr (w w':World):Prop where
 size:w.heap.size≤w'.heap.size
 cells:∀ (k:Nat) (c:Array Value) (t:TypeId) (f:Nat×Nat),w.heap[k]?=some (.cells c t f)→t≠48→t≠31→w'.heap[k]?=w.heap[k]?
 map:∀ (k:Nat) (es:Array MapEntry) (c:Nat),w.heap[k]?=some (.map es c)→w'.heap[k]?=w.heap[k]?
theorem FFr.refl (w:World):FFr w w:=⟨Y5 _,fun _ _ _ _ _ _ _=>rfl,fun _ _ _ _=>rfl⟩
theorem FFr.trans {w w1 w2:World} (h:FFr w w1) (g:FFr w1 w2):FFr w w2:=
 ⟨Ya h.size g.size, fun k c t f hk h1 h2 => (g.cells k c t f ((h.cells k c t f hk h1 h2).trans hk) h1 h2).trans (h.cells k c t f hk h1 h2),
  fun k es c hk=>(g.map k es c ((h.map k es c hk).trans hk)).trans (h.map k es c hk)⟩
theorem FFr.bel {w w':World} (h:Below w.heap.size w w'):FFr w w':=
 ⟨h.size,fun k _ _ _ hk _ _=>h.block k (Y6.1 hk).1,fun k _ _ hk=>h.block k (Y6.1 hk).1⟩
theorem Zr.ffr {w w':World} {B:Nat} {v:Value} {l:List ByteArray} (h:Zr w B v l) (g:FFr w w'):Zr w' B v l:=by
 refine Zb h fun k hk=>?_;obtain ⟨c,f,hb⟩:=Lib.ownsRow_kind h k hk;exact g.cells k _ _ _ hb (by decide) (by decide)
theorem Z0w.ffr {w w':World} {B:Nat} {l:List Sc} {v:Value} (h:Z0w w B l v) (g:FFr w w'):Z0w w' B l v:=
 h.keep (fun k c t hk ht=>by subst ht; exact g.cells k _ _ _ hk (by decide) (by decide)) fun v l h=>h.ffr g
structure FSt (w0:World) (fb mb:Nat) (N:Nat→Nat) (L:List (Nat×Nat)) (out:List Us) (w:World):Prop where
 bel:Below w0.heap.size w0 w
 cell:∃ ov,w.heap[fb]?=some (.cells #[.map (some mb),ov] 48 (0,0))∧w.ownsRow w0.heap.size 31 3 ov out.length (out.flatMap Us.cells)
 le:w0.heap.size≤fb
 map:PMap w mb L
 has:∀ x∈L,Z3s w0 x.1
 nodup:(L.map (·.1)).Nodup
def Zbj (w0:World) (fb mb:Nat) (N:Nat→Nat) (L:List (Nat×Nat)) (Ok:ATree→Prop) (m:Nat):Prop:=
 ∀ (a : ATree) (B : Nat) (w : World) (S : List Sc) (sv : Value) (st : Bool) (out : List Us), a.many ≤ m → Ok a → TreeAt w0 B a → (∀ x ∈ a.subs, (x.b, N x.b) ∈ L) → out.length + a.many < 274877906944 → FSt w0 fb mb N L out w → Z0w w w0.heap.size S sv →
   Calls Tryz.prog 38 #[.pointer (some ⟨fb,0,none⟩),a.ptr,sv,.bool st] w fun e w'=>e=.returned (.tuple #[])∧FSt w0 fb mb N L (out ++ Z0x N a S st) w'∧FFr w w'∧(Z0x N a S st).length≤a.many
def Z61 (w0:World) (fb mb:Nat) (N:Nat→Nat) (L:List (Nat×Nat)) (Ok:ATree→Prop) (m:Nat):Prop:=
 ∀ (a : ATree) (B : Nat) (w : World) (S : List Sc) (sv : Value) (st : Bool) (out : List Us), a.many ≤ m + 1 → (∀ k ∈ a.kids, Ok k) → TreeAt w0 B a → (∀ x ∈ a.subs, (x.b, N x.b) ∈ L) → out.length + a.many < 274877906944 → FSt w0 fb mb N L out w → Z0w w w0.heap.size S sv →
   Calls Tryz.prog 13 #[.pointer (some ⟨fb,0,none⟩),a.ptr,sv,.bool st] w fun e w'=>e=.returned (.tuple #[])∧FSt w0 fb mb N L (out ++ Z1c N a.kids S st) w'∧FFr w w'∧(Z1c N a.kids S st).length + 1≤a.many
theorem Z5o {l:List ATree} {i:Nat} {k:ATree} (h:l[i]?=some k):Z07 (l.take i) + k.many≤Z07 l:=by
 have h1:=congrArg List.length (Zbp h);simp only [List.length_append,Z1d,Z2p] at h1;omega
theorem Zcz {w0:World} {fb mb:Nat} {N:Nat→Nat} {L:List (Nat×Nat)} {Ok:ATree→Prop} {m:Nat} (hN:Zbj w0 fb mb N L Ok m):Z61 w0 fb mb N L Ok m:=by
 intro a B w S sv st out hm hok hT hnum hlen hF hS;have hTw:TreeAt w B a:=hT.keep fun k _ hk=>hF.bel.block k hk;obtain ⟨p,cp,hv,hge,hmx⟩:=hTw.vOf;have c3:w.cell? ⟨a.b,3,none⟩=some (.slice p a.kids.length cp):=by rw [← hv]; exact hTw.c3
 have hlen2:a.kids.length≤9223372036854775807:=by unfold maxLen at hmx; omega
 obtain ⟨pp,rfl⟩:=hS.ptr;have HNS:=lh hN;have HT:=lh hT;have HV:=lh hv;have HF:=lh hF;have HS:=lh hS;have HOK:=lh hok;have HNUM:=lh hnum;have hkl:=Z78 a;have hml:a.many=Z07 a.kids + 1:=by obtain ⟨b,v,k,t,n,ks⟩:=a; rfl
 unfold ATree.ptr;obtain ⟨n,hnn⟩:=zX a.kids.length
 rw [← hnn] at c3 hlen2 hge;have HN:=lh hnn;have HML:=lh hml;have HM:=lh hm;have HLEN:=lh hlen;clear hTw hv hnn hT hN hF hS hok hnum hml hm hlen hkl;go_enter Tryz.func13,Tryz.ntmps13
 go_wp2_with fail
 go_loopw [15] (fun i wr=>∃ (k:Nat),k≤n∧i=.int .i64 k∧Hid (FSt w0 fb mb N L (out ++ Z1c N (a.kids.take k) S st) wr)∧Hid (FFr w wr)∧Hid ((Z1c N (a.kids.take k) S st).length≤Z07 (a.kids.take k))) (fun i _=>n - (intOf i).toNat)
 case atStart=>exact ⟨0,Yp _,rfl,lh (by simpa [Z1c] using HF.out),lh (FFr.refl _),lh (by simp [Z1c])⟩
 case round=>
  obtain ⟨k,hk,rfl,HI,HR,HL⟩:=hrel;by_cases hkn:k < n
  ·obtain ⟨x, hx⟩ : ∃ x, a.kids[k]? = some x := ⟨_, Yd (by rw [← HN.out]; exact hkn)⟩
   have hT2:TreeAt wr B a:=HT.out.keep fun k _ hk=>HI.out.bel.block k hk;have hrow:=hT2.rowOf;rcases Z7 hrow with ⟨_,h2⟩ | ⟨g0,cap0,hv0,_⟩;·rw [← HN.out] at h2; omega
   have hp:p=some ⟨g0,0,none⟩:=by
    have:=HV.out.symm.trans hv0;simp only [Value.slice.injEq] at this;exact this.1
   subst hp;have cx:=Ze hrow (g:=g0) (by rw [hv0]; rfl) (i:=k) (x:=x.ptr) (by rw [Yo,hx]; rfl);have hmem:x∈a.kids:=Yl hx;have hma:=Z5o hx;have hcall:=HNS.out x B wr S (.pointer pp) st _ (by have:=Z36 hmem; have:=HM.out; omega) (HOK.out x hmem) (HT.out.kid hmem) (fun y hy=>HNUM.out y (Z3f hmem hy)) (by rw [Yq]; have:=HL.out; have:=HML.out; have:=HLEN.out; omega) HI.out (HS.out.ffr HR.out);unfold ATree.ptr at cx hcall;have HCALL:=lh hcall;have HX:=lh hx;have HMA:=lh hma;clear hT2 hrow hv0 hx hcall hmem hma
   go_wp2_with fail
   refine HCALL.out.mono ?_;rintro e w1 ⟨rfl,hI1,hR1,hL1⟩;have HI1:=lh hI1;have HR1:=lh (HR.out.trans hR1);have HL1:=lh hL1;clear hI1 hR1 hL1 HCALL;go_wp2;go_roundw
   case rel=>
    refine ⟨k + 1,by omega,by go_num,lh ?_,HR1,lh ?_⟩;·rw [Zk HX.out,Z25,← List.append_assoc]; exact HI1.out
    ·rw [Zk HX.out,Z25,Yq];have h1:=HL.out;have h2:=HL1.out;have h3:Z07 (a.kids.take k ++ [x])=Z07 (a.kids.take k) + x.many:=by
      rw [← Z1d,Z3p,Yq,Z1d];simp only [Z0y,List.append_nil,Z2p]
     omega
   case measure=>simp [intOf]; omega
  ·have hk2 : k = n := by omega
   subst hk2;have hall:a.kids.take k=a.kids:=Ym (by rw [← HN.out]; exact Y5 _);have HALL:=lh hall;clear hall;go_wp2;go_end0
   have h1:=HI.out;have h2:=HL.out;rw [HALL.out] at h1 h2;exact ⟨rfl,h1,HR.out,by have:=HML.out; omega⟩
theorem FSt.number {w0 w:World} {fb mb:Nat} {N:Nat→Nat} {L:List (Nat×Nat)} {out:List Us} (h:FSt w0 fb mb N L out w):∀ x∈L,Z3s w x.1:=fun x hx=>(h.has x hx).bel h.bel
theorem FSt.c0 {w0 w:World} {fb mb:Nat} {N:Nat→Nat} {L:List (Nat×Nat)} {out:List Us} (h:FSt w0 fb mb N L out w):w.cell? ⟨fb,0,none⟩=some (.map (some mb)):=by
 obtain ⟨ov,hb,_⟩:=h.cell;simp [World.cell?,hb]
theorem Zfn {w0:World} {fb mb:Nat} {N:Nat→Nat} {L:List (Nat×Nat)} {Ok:ATree→Prop} {m:Nat} (hK:Z61 w0 fb mb N L Ok m)
 (a:ATree) (B:Nat) (w:World) (S:List Sc) (sv:Value) (st:Bool) (out:List Us) (hm:a.many≤m + 1) (hok:∀ k∈a.kids,Ok k) (hT:TreeAt w0 B a) (hnum:∀ x∈a.subs,(x.b,N x.b)∈L) (hlen:out.length + a.many < 274877906944) (hF:FSt w0 fb mb N L out w) (hS:Z0w w w0.heap.size S sv)
 (h1:a.kind≠23) (h2:a.kind≠6) (h3:a.kind≠13) (h4:a.kind≠9) (h5:a.kind≠5) (h6:a.kind≠37) :
 Calls Tryz.prog 38 #[.pointer (some ⟨fb,0,none⟩),a.ptr,sv,.bool st] w fun e w'=>e=.returned (.tuple #[])∧FSt w0 fb mb N L (out ++ Z0x N a S st) w'∧FFr w w'∧(Z0x N a S st).length≤a.many:=by
 have hTw:TreeAt w B a:=hT.keep fun k _ hk=>hF.bel.block k hk;have hdef:Z0x N a S st=Z1c N a.kids S st:=by
  obtain ⟨b,v,k,t,n,ks⟩:=a;simp only [ATree.kind] at h1 h2 h3 h4 h5 h6;rw [Z0x.eq_def];simp only [h1,h2,h3,h4,h5,h6,if_false,or_self,ATree.kids]
 have HC:=lh (hK a B w S sv st out hm hok hT hnum hlen hF hS);have HD:=lh hdef;have d0:=hTw.c0;have f0:=hF.c0;obtain ⟨pp,rfl⟩:=hS.ptr;have HF:=lh hF;have HIN:=lh (hnum a (Z1m a));unfold ATree.ptr at HC ⊢;obtain ⟨kd,hkd⟩:=zX a.kind
 rw [← hkd] at d0 h1 h2 h3 h4 h5 h6;have n1:(kd == 23)=false:=by simpa using h1
 have n2:(kd == 6)=false:=by simpa using h2
 have n3:(kd == 13)=false:=by simpa using h3
 have n4:(kd == 9)=false:=by simpa using h4
 have n5:(kd == 5)=false:=by simpa using h5
 have n6:(kd == 37)=false:=by simpa using h6
 clear hTw hdef hK hok hT hnum hF hS hm hlen h1 h2 h3 h4 h5 h6 hkd;go_enter Tryz.func38,Tryz.ntmps38
 go_wp2_with (at_lookup; go_must (refine Z1f _ rfl _ _ rfl mb a.b (N a.b) L rfl rfl HF.out.map HF.out.number HF.out.nodup HIN.out ?_))
 refine HC.out.mono ?_;rintro e w1 ⟨rfl,hI1,hR1,hL1⟩;have HI1:=lh hI1;have HR1:=lh hR1;have HL1:=lh hL1;clear hI1 hR1 hL1 HC;go_wp2;go_end0
 rw [HD.out];exact ⟨rfl,HI1.out,HR1.out,by have:=HL1.out; omega⟩
theorem FSt.told {w0 w w1 w2:World} {fb mb:Nat} {N:Nat→Nat} {L:List (Nat×Nat)} {out:List Us} {u:Us} {ov v2:Value} (h:FSt w0 fb mb N L out w) (hb:w.heap[fb]?=some (.cells #[.map (some mb),ov] 48 (0,0)))
 (hrow:w.ownsRow w0.heap.size 31 3 ov out.length (out.flatMap Us.cells)) (hB:Below w.heap.size w w1) (hg:w1.grownBy w2 ov.ownBlock)
 (hown:w2.ownsRow w0.heap.size 31 3 v2 (out.length + 1) (out.flatMap Us.cells ++ u.cells)) :
 FSt w0 fb mb N L (out ++ [u]) (w2.setCell ⟨fb,1,none⟩ v2)∧FFr w (w2.setCell ⟨fb,1,none⟩ v2):=by
 have hfl:=(Y6.1 hb).1;have hne:∀ k c t f,w.heap[k]?=some (.cells c t f)→t≠31→ov.ownBlock≠some k:=fun k c t f hk ht e=>by
  obtain ⟨c1,f1,h1⟩:=Lib.ownsRow_kind hrow k e;rw [hk] at h1;simp only [Option.some.injEq,Obj.cells.injEq] at h1;exact ht h1.2.1
 have hnm:∀ k es c,w.heap[k]?=some (.map es c)→ov.ownBlock≠some k:=fun k es c hk e=>by
  obtain ⟨c1,f1,h1⟩:=Lib.ownsRow_kind hrow k e;rw [hk] at h1;cases h1
 have step:∀ k,k < w.heap.size→ov.ownBlock≠some k→w2.heap[k]?=w.heap[k]?:=fun k hk hv=>(hg.block k (Ye hk hB.size) (fun e=>hv e.symm)).trans (hB.block k hk);have hb2:w2.heap[fb]?=some (.cells #[.map (some mb),ov] 48 (0,0)):=(step fb hfl (hne fb _ _ _ hb (by decide))).trans hb;obtain ⟨es,clock,hm,hes⟩:=h.map;have hmb:mb≠fb:=fun e=>by rw [e,hb] at hm; cases hm
 refine ⟨⟨?_,⟨v2,Zm (o:=1) v2 hb2,?_⟩,h.le,⟨es,clock,?_,hes⟩,h.has,h.nodup⟩,⟨?_,?_,?_⟩⟩
 ·refine Below.setCell (Below.grown (h.bel.trans (hB.mono h.bel.size)) hg (Ya h.bel.size hB.size) ?_) (p:=⟨fb,1,none⟩) h.le _;exact fun k hk=>(Yh hrow k hk).1
 ·rw [Yq,List.flatMap_append];refine Zb (by simpa using hown) fun k hk=>Yg _ _ _ _ ?_;intro e;simp only at e;obtain ⟨c1,f1,h1⟩:=Lib.ownsRow_kind hown k hk;rw [e,hb2] at h1;simp only [Option.some.injEq,Obj.cells.injEq] at h1;exact absurd h1.2.1 (by decide)
 ·exact (Yg _ _ _ _ hmb).trans ((step mb (Y6.1 hm).1 (hnm mb _ _ hm)).trans hm)
 ·rw [Yn]; exact Ya hB.size hg.size
 ·intro k c t f hk h1 h2;refine (Yg _ _ _ _ ?_).trans (step k (Y6.1 hk).1 (hne k c t f hk h2));intro e;simp only at e;rw [e,hb] at hk;simp only [Option.some.injEq,Obj.cells.injEq] at hk;exact h1 hk.2.1.symm
 ·intro k es c hk;refine (Yg _ _ _ _ ?_).trans (step k (Y6.1 hk).1 (hnm k es c hk));intro e;simp only at e;rw [e,hb] at hk;cases hk
theorem Tryz.infoUse:(Tryz.prog.info? 31).map (fun i=>(i.zero,i.size,i.bytes))=some (some (.agg #[.int .i64 0,.int .i64 0,.bool false]),3,24):=by kernel_rfl
theorem Zih {w0:World} {fb mb:Nat} {N:Nat→Nat} {L:List (Nat×Nat)}
 (a:ATree) (B:Nat) (w:World) (S:List Sc) (sv:Value) (st:Bool) (out:List Us) (hT:TreeAt w0 B a) (hnum:(a.b,N a.b)∈L) (hlen:out.length < 274877906944) (hF:FSt w0 fb mb N L out w) (hS:Z0w w w0.heap.size S sv)
 (h1:a.kind=23) :
 Calls Tryz.prog 38 #[.pointer (some ⟨fb,0,none⟩),a.ptr,sv,.bool st] w fun e w'=>e=.returned (.tuple #[])∧FSt w0 fb mb N L (out ++ Z0x N a S st) w'∧FFr w w'∧(Z0x N a S st).length≤a.many:=by
 obtain ⟨i0,hi,hz0,hz1,hz2⟩:=info_parts Tryz.infoUse;have hTw:TreeAt w B a:=hT.keep fun k _ hk=>hF.bel.block k hk;have hdef:Z0x N a S st=[⟨N a.b,Z5i a.text S true⟩]:=by
  obtain ⟨b,v,k,t,n,ks⟩:=a;simp only [ATree.kind] at h1;rw [Z0x.eq_def];simp only [h1,if_true,ATree.b,ATree.text]
 have hmany:1≤a.many:=by obtain ⟨b,v,k,t,n,ks⟩:=a; simp [ATree.many]
 have d0:=hTw.c0;have d1:=hTw.c1;rw [h1] at d0;rw [hdef];have f0:=hF.c0;obtain ⟨ov,hb,hrow⟩:=hF.cell;have f1:w.cell? ⟨fb,1,none⟩=some ov:=by simp [World.cell?,hb]
 have fz:w.frozen? ⟨fb,1,none⟩=false:=by simp [World.frozen?,hb]
 obtain ⟨pp,rfl⟩:=hS.ptr;have HS:=lh hS;have HF:=lh hF;have HIN:=lh hnum;have HB:=lh hb;have HR:=lh hrow;have HM:=lh hmany;have hal:=hTw.lt;have hfl:=(Y6.1 hb).1;have hne:ov.ownBlock≠some fb:=fun e=>by
  obtain ⟨c1,g1,h1⟩:=Lib.ownsRow_kind hrow fb e;rw [hb] at h1;simp only [Option.some.injEq,Obj.cells.injEq] at h1;exact absurd h1.2.1 (by decide)
 have hna:ov.ownBlock≠some a.b:=fun e=>by
  obtain ⟨c1,g1,h1⟩:=Lib.ownsRow_kind hrow a.b e;rw [hTw.blkOf] at h1;simp only [Option.some.injEq,Obj.cells.injEq] at h1;exact absurd h1.2.1 (by decide)
 have NE:=lh hne;have NA:=lh hna;have HBS:=lh hF.bel.size;unfold ATree.ptr;obtain ⟨tx,htx⟩:=zX a.text
 rw [← htx] at d1 ⊢;have hlook:=Zix w.drew w0.heap.size (N a.b) tx S (.pointer pp) (HS.out.keep (fun _ _ _ _ _=>rfl) fun _ _ h=>h);obtain ⟨r,hr⟩:=zX (Z5i tx S true)
 rw [← hr] at hlook ⊢;unfold useV at hlook;have HLOOK:=lh hlook;clear hTw hdef hT hnum hF hS h1 hb hrow hne hna hmany htx hr hlook;go_enter Tryz.func38,Tryz.ntmps38
 go_wp2_with (first | (at_lookup; go_must (refine Z1f _ rfl _ _ rfl mb a.b (N a.b) L rfl rfl HF.out.map HF.out.number HF.out.nodup HIN.out ?_)) | fail)
 refine Z1 [(true,0),(true,1),(true,2),(true,3),(true,4),(true,5),(true,6),(true,7),(true,8),(true,9),(true,10),(false,11),(false,12),(false,13)] [14,15,16] (fun W=>W.cell? ⟨fb,1,none⟩=some ov∧W.cell? ⟨a.b,1,none⟩=some (.string tx)) (by kernel_rfl) (by kernel_rfl) (fun _ _ d _ _ h=>by cases d <;> exact h) ⟨f1,d1⟩ (fun hS0=>?_);simp only [Zh,zD,zE,zF,zG,zH,zI]
 iterate 11
  first
   | (refine Z2 ?_ (by rfl) (fun w' hS'=>?_) ?_; rotate_left; (obtain ⟨s0,s1⟩:=hS'; go_simp; first | done | with_reducible rfl); simp only [Act.put,zA,zB,zC])
   | (refine Z3 (by rfl) ?_; simp only [Act.put,zA,zB,zC])
 refine Z5 (fun K hK=>?_);go_simp
 refine HLOOK.out.mono ?_;rintro e w1 ⟨rfl,hB1⟩;have m1:w1.cell? ⟨fb,1,none⟩=some ov:=(Yj (hB1.block fb hfl)).trans f1;have ma:w1.cell? ⟨a.b,1,none⟩=some (.string tx):=(Yj (hB1.block a.b hal)).trans d1;have mz:w1.frozen? ⟨fb,1,none⟩=false:=(Yy (hB1.block fb hfl)).trans fz;have hs1:w.heap.size≤w1.heap.size:=hB1.size;have HB1:Hid (Below w.heap.size w w1):=lh ⟨hB1.os,hB1.tape,hB1.output,hB1.size,hB1.block⟩
 have HR1:Hid (w1.ownsRow w0.heap.size 31 3 ov out.length (out.flatMap Us.cells)):=lh (Zb HR.out fun k hk=>hB1.block k (Yh HR.out k hk).2);refine hK _ _ ⟨m1,ma⟩ ?_;clear hK K hB1;refine Z5 (fun K hK=>?_);go_simp
 refine hK _ _ ⟨(Z4 (by show fb < _; omega)).trans m1,(Z4 (by show a.b < _; omega)).trans ma⟩ ?_;clear hK K;refine Z5 (fun K hK=>?_)
 refine step_append_lies _ (by rfl) (.tmp 35) (.tmp 43) 25 (by rfl) w0.heap.size 31 i0 _ 3 24 Tryz.underlying25 hi hz0 hz1 hz2 rfl (by decide) ov out.length (out.flatMap Us.cells) (by rfl) (HR1.out.alloc _) ⟨w1.heap.size,0,none⟩ 1 1 (Us.cells ⟨N a.b,r⟩) (by rfl) rfl (Yi (cs:=(Us.cells ⟨N a.b,r⟩).toArray) (t:=31) (fr:=(0,0)) (heap_alloc_new w1 _)) (by simp [Us.cells,Value.oneCell']) (by decide) (by unfold maxLen; omega) (by omega) (by simp; have:=HBS.out; omega) (w1.heap.size + 1) (by simp) ?_;intro gg cap w2 hown2 hgrow2 hat2 hlt2
 have e1:w2.cell? ⟨fb,1,none⟩=some ov:=(hgrow2.cell_far ⟨fb,1,none⟩ (by simp; omega) (fun e=>NE.out e.symm)).trans ((Z4 (by show fb < _; omega)).trans m1);have ea:w2.cell? ⟨a.b,1,none⟩=some (.string tx):=(hgrow2.cell_far ⟨a.b,1,none⟩ (by simp; omega) (fun e=>NA.out e.symm)).trans ((Z4 (by show a.b < _; omega)).trans ma);have ez:w2.frozen? ⟨fb,1,none⟩=false:=(hgrow2.frozen_far ⟨fb,1,none⟩ (by simp; omega) (fun e=>NE.out e.symm)).trans ((Z04 (by show fb < _; omega)).trans mz);refine hK _ _ ⟨e1,ea⟩ ?_;clear hK K;simp only [Act.put,zA,zB,zC]
 have hfin:=HF.out.told (u:=⟨N a.b,r⟩) HB.out HR.out (HB1.out.alloc hs1 _) hgrow2 hown2;have FIN:=lh hfin;clear hgrow2 hown2 hat2 hlt2 hfin;refine Z6 ?_;go_wp2;go_end0
 exact ⟨rfl,FIN.out.1,FIN.out.2,by have:=HM.out; simpa using this⟩
theorem FSt.on {w0 w w1:World} {fb mb:Nat} {N:Nat→Nat} {L:List (Nat×Nat)} {out:List Us} (h:FSt w0 fb mb N L out w) (g:Below w.heap.size w w1):FSt w0 fb mb N L out w1:=by
 obtain ⟨ov,hb,hrow⟩:=h.cell;obtain ⟨es,clock,hm,hes⟩:=h.map
 exact ⟨h.bel.trans (g.mono h.bel.size),⟨ov,(g.block fb (Y6.1 hb).1).trans hb,Zb hrow fun k hk=>g.block k (Yh hrow k hk).2⟩,h.le,
  ⟨es,clock,(g.block mb (Y6.1 hm).1).trans hm,hes⟩,h.has,h.nodup⟩
theorem Z0w.rank {w:World} {B:Nat} {l:List Sc} {v:Value} (h:Z0w w B l v):Zg5 v≤w.heap.size:=by
 cases l with
 | nil=>have:v=.pointer none:=h; rw [this]; simp [Zg5]
 | cons s l =>
   obtain ⟨b,nv,ov,rfl,hb,_⟩:=h;have:=(Y6.1 hb).1;simp only [Zg5];omega
theorem Z0w.new {w:World} {B:Nat} {l:List Sc} {v nv:Value} {s:Sc} (h:Z0w w B l v) (ht:Zr w B nv s.names) :
 Z0w (w.alloc (.cells #[v,.int .i64 s.at',nv,.bool s.op] 54)) B (s :: l) (.pointer (some ⟨w.heap.size,0,none⟩)):=
 ⟨w.heap.size,nv,v,rfl,(Go.MapKept.heap_alloc w _).1,ht.bel ((Y8 _ _).alloc (Y5 _) _),by have:=h.rank; omega,h.bel ((Y8 _ _).alloc (Y5 _) _)⟩
theorem Zh6 {w0:World} {fb mb:Nat} {N:Nat→Nat} {L:List (Nat×Nat)} {Ok:ATree→Prop} {m:Nat} (hN:Zbj w0 fb mb N L Ok m)
 (a:ATree) (B:Nat) (w:World) (S:List Sc) (sv:Value) (st:Bool) (out:List Us) (hm:a.many≤m + 1) (hok:∀ k∈a.kids,Ok k) (hT:TreeAt w0 B a) (hnum:∀ x∈a.subs,(x.b,N x.b)∈L) (hlen:out.length + a.many < 274877906944) (hF:FSt w0 fb mb N L out w) (hS:Z0w w w0.heap.size S sv)
 (h1:a.kind=9) (x y:ATree) (hk:a.kids=[x,y]) :
 Calls Tryz.prog 38 #[.pointer (some ⟨fb,0,none⟩),a.ptr,sv,.bool st] w fun e w'=>e=.returned (.tuple #[])∧FSt w0 fb mb N L (out ++ Z0x N a S st) w'∧FFr w w'∧(Z0x N a S st).length≤a.many:=by
 have hTw:TreeAt w B a:=hT.keep fun k _ hk=>hF.bel.block k hk;have hmem:x∈a.kids∧y∈a.kids:=by rw [hk]; simp
 have hdef:Z0x N a S st=Z0x N x S st ++ Z0x N y (⟨-2,[],true⟩ :: S) st:=by
  obtain ⟨b,v,k,t,n,ks⟩:=a;simp only [ATree.kind,ATree.kids] at h1 hk;subst hk;rw [Z0x.eq_def];simp [h1]
 have hmany:a.many=x.many + y.many + 1:=by
  obtain ⟨b,v,k,t,n,ks⟩:=a;simp only [ATree.kids] at hk;subst hk;simp only [ATree.many,Z07];omega
 obtain ⟨p,cp,hv,hge,hmx⟩:=hTw.vOf;have hrow:=hTw.rowOf;obtain ⟨g,hp⟩:∃ g,p=some ⟨g,0,none⟩:=by
  rcases Z7 hrow with ⟨_,h2⟩ | ⟨g,cap,h1,_⟩;·rw [hk] at h2; simp at h2
  ·rw [hv] at h1; simp only [Value.slice.injEq] at h1; exact ⟨g,h1.1⟩
 subst hp;have c3:w.cell? ⟨a.b,3,none⟩=some (.slice (some ⟨g,0,none⟩) 2 cp):=by rw [show (2:Nat)=a.kids.length by rw [hk]; rfl,← hv]; exact hTw.c3
 have cx:=Ze hrow (g:=g) (by rw [hv]; rfl) (i:=0) (x:=x.ptr) (by rw [hk]; rfl);have cy:=Ze hrow (g:=g) (by rw [hv]; rfl) (i:=1) (x:=y.ptr) (by rw [hk]; rfl);have hge2:2≤cp:=by rw [hk] at hge; exact hge
 unfold maxLen at hmx;have hlg:=(Yh hrow g (by rw [hv]; rfl)).2;have HX:=lh (hN x B w S sv st out (by omega) (hok x hmem.1) (hT.kid hmem.1) (fun z hz=>hnum z (Z3f hmem.1 hz)) (by omega) hF hS);have HY:=lh (fun w1 S' sv' out' h1 h2 h3=>hN y B w1 S' sv' st out' (by omega) (hok y hmem.2) (hT.kid hmem.2) (fun z hz=>hnum z (Z3f hmem.2 hz)) h1 h2 h3);have hkeep:∀ w1,FFr w w1→w1.cell? ⟨a.b,3,none⟩=some (.slice (some ⟨g,0,none⟩) 2 cp)∧w1.cell? ⟨g,1,none⟩=some y.ptr:=fun w1 h=>by
  obtain ⟨c,f,hb⟩:=Lib.ownsRow_kind hrow g (by rw [hv]; rfl);exact ⟨(Yj (h.cells a.b _ _ _ hTw.blkOf (by decide) (by decide))).trans c3,(Yj (h.cells g _ _ _ hb (by decide) (by decide))).trans cy⟩
 have HKEEP:=lh hkeep;have HD:=lh hdef;have d0:=hTw.c0;rw [h1] at d0;have f0:=hF.c0;obtain ⟨pp,rfl⟩:=hS.ptr;have HF:=lh hF;have HS:=lh hS;have HIN:=lh (hnum a (Z1m a));have HMANY:=lh hmany;have HLEN:=lh hlen;unfold ATree.ptr at HX HY HKEEP cx cy ⊢;clear hTw hdef hN hok hT hnum hF hS hm hlen h1 hk hrow hv hkeep hmany hmem hge;go_enter Tryz.func38,Tryz.ntmps38
 go_wp2_with (at_lookup; go_must (refine Z1f _ rfl _ _ rfl mb a.b (N a.b) L rfl rfl HF.out.map HF.out.number HF.out.nodup HIN.out ?_))
 refine HX.out.mono ?_;rintro e w1 ⟨rfl,hI1,hR1,hL1⟩;obtain ⟨k3,ky⟩:=HKEEP.out w1 hR1;have HI1:=lh hI1;have HR1:=lh hR1;have HL1:=lh hL1;have HS1:=lh (HS.out.ffr hR1);clear hI1 hR1 hL1 HX HKEEP;go_wp2_with fail
 have HB:=lh ((Y8 w1.heap.size w1).alloc (Y5 _) (.cells #[.pointer pp,.int .i64 (-2),.slice none 0 0,.bool true] 54));refine (HY.out _ (⟨-2,[],true⟩ :: S) _ _ (by rw [Yq]; have:=HL1.out; have:=HMANY.out; have:=HLEN.out; omega) (HI1.out.on HB.out) (HS1.out.new (s:=⟨-2,[],true⟩) (Zr.nil _ _))).mono ?_;rintro e w2 ⟨rfl,hI2,hR2,hL2⟩;have HI2:=lh hI2;have HR2:=lh (HR1.out.trans ((FFr.bel HB.out).trans hR2));have HL2:=lh hL2;clear hI2 hR2 hL2 HY;go_wp2;go_end0
 rw [HD.out,← List.append_assoc];exact ⟨rfl,HI2.out,HR2.out,by rw [Yq]; have:=HL1.out; have:=HL2.out; have:=HMANY.out; omega⟩
theorem Zr.one {w:World} {B:Nat} (hB:B≤w.heap.size) (s:ByteArray):Zr (w.alloc (.cells #[.string s] 9)) B (.slice (some ⟨w.heap.size,0,none⟩) 1 1) [s]:=by
 unfold Zr;refine ⟨rfl,.inr ⟨w.heap.size,1,_,rfl,hB,(Go.MapKept.heap_alloc w _).1,by simp,by unfold maxLen; omega,by simp,?_⟩⟩;simp
theorem Zf4 {w0:World} {fb mb:Nat} {N:Nat→Nat} {L:List (Nat×Nat)} {Ok:ATree→Prop} {m:Nat} (hK:Z61 w0 fb mb N L Ok m)
 (a:ATree) (B:Nat) (w:World) (S:List Sc) (sv:Value) (st:Bool) (out:List Us) (hm:a.many≤m + 1) (hok:∀ k∈a.kids,Ok k) (hT:TreeAt w0 B a) (hnum:∀ x∈a.subs,(x.b,N x.b)∈L) (hlen:out.length + a.many < 274877906944) (hF:FSt w0 fb mb N L out w) (hS:Z0w w w0.heap.size S sv)
 (h1:a.kind=13) :
 Calls Tryz.prog 38 #[.pointer (some ⟨fb,0,none⟩),a.ptr,sv,.bool st] w fun e w'=>e=.returned (.tuple #[])∧FSt w0 fb mb N L (out ++ Z0x N a S st) w'∧FFr w w'∧(Z0x N a S st).length≤a.many:=by
 have hTw:TreeAt w B a:=hT.keep fun k _ hk=>hF.bel.block k hk;have hdef:Z0x N a S st=Z1c N a.kids (⟨N a.b,[a.text],false⟩ :: S) st:=by
  obtain ⟨b,v,k,t,n,ks⟩:=a;simp only [ATree.kind] at h1;rw [Z0x.eq_def];simp [h1,ATree.b,ATree.text,ATree.kids]
 have HC:=lh (fun w1 S' sv' h1 h2=>hK a B w1 S' sv' st out hm hok hT hnum hlen h1 h2);have HD:=lh hdef;have d0:=hTw.c0;have d1:=hTw.c1;rw [h1] at d0;have f0:=hF.c0;obtain ⟨pp,rfl⟩:=hS.ptr;have HF:=lh hF;have HS:=lh hS;have HIN:=lh (hnum a (Z1m a));unfold ATree.ptr at HC ⊢;obtain ⟨tx,htx⟩:=zX a.text
 rw [← htx] at d1 HD;have hb1:Below w.heap.size w (w.alloc (.cells #[.string tx] 9)):=(Y8 w.heap.size w).alloc (Y5 _) _;have hsc:=(HS.out.bel hb1).new (s:=⟨N a.b,[tx],false⟩) (Zr.one HF.out.bel.size tx);have hb2:Below w.heap.size w ((w.alloc (.cells #[.string tx] 9)).alloc (.cells #[.pointer pp,.int .i64 (N a.b),.slice (some ⟨w.heap.size,0,none⟩) 1 1,.bool false] 54)):=hb1.alloc (by simp) _;rw [World.size_alloc] at hsc;have HSC:=lh hsc;have HB2:=lh hb2;clear hTw hdef hK hok hT hnum hF hS hm hlen h1 htx hb1 hsc hb2;go_enter Tryz.func38,Tryz.ntmps38
 go_wp2_with (at_lookup; go_must (refine Z1f _ rfl _ _ rfl mb a.b (N a.b) L rfl rfl HF.out.map HF.out.number HF.out.nodup HIN.out ?_))
 refine (HC.out _ (⟨N a.b,[tx],false⟩ :: S) _ (HF.out.on HB2.out) HSC.out).mono ?_;rintro e w1 ⟨rfl,hI1,hR1,hL1⟩;have HI1:=lh hI1;have HR1:=lh ((FFr.bel HB2.out).trans hR1);have HL1:=lh hL1;clear hI1 hR1 hL1 HC;go_wp2;go_end0
 rw [HD.out];exact ⟨rfl,HI1.out,HR1.out,by have:=HL1.out; omega⟩
theorem Zfs {w0:World} {fb mb:Nat} {N:Nat→Nat} {L:List (Nat×Nat)} {Ok:ATree→Prop} {m:Nat} (hK:Z61 w0 fb mb N L Ok m)
 (a:ATree) (B:Nat) (w:World) (S:List Sc) (sv:Value) (st:Bool) (out:List Us) (hm:a.many≤m + 1) (hok:∀ k∈a.kids,Ok k) (hT:TreeAt w0 B a) (hnum:∀ x∈a.subs,(x.b,N x.b)∈L) (hlen:out.length + a.many < 274877906944) (hF:FSt w0 fb mb N L out w) (hS:Z0w w w0.heap.size S sv)
 (h1:a.kind=6) :
 Calls Tryz.prog 38 #[.pointer (some ⟨fb,0,none⟩),a.ptr,sv,.bool st] w fun e w'=>e=.returned (.tuple #[])∧FSt w0 fb mb N L (out ++ Z0x N a S st) w'∧FFr w w'∧(Z0x N a S st).length≤a.many:=by
 have hTw:TreeAt w B a:=hT.keep fun k _ hk=>hF.bel.block k hk;have hdef:Z0x N a S st=Z1c N a.kids (if Z0b false a=[] then S else ⟨N a.b,Z0b false a,false⟩ :: S) st:=by
  obtain ⟨b,v,k,t,n,ks⟩:=a;simp only [ATree.kind] at h1;subst h1;rw [Z0x.eq_def];rfl
 have HC:=lh (fun w1 S' sv' h1 h2=>hK a B w1 S' sv' st out hm hok hT hnum hlen h1 h2);have hnm:=Zcn false w B a hTw (by omega);have d0:=hTw.c0;rw [h1] at d0;have f0:=hF.c0;obtain ⟨pp,rfl⟩:=hS.ptr;have HF:=lh hF;have HS:=lh hS;have HIN:=lh (hnum a (Z1m a));obtain ⟨nm,hnmd⟩:=zX (Z0b false a)
 rw [← hnmd] at hnm hdef;have HD:=lh hdef;unfold ATree.ptr at HC hnm ⊢;have HNM:=lh hnm;clear hTw hdef hK hok hT hnum hF hS hm hlen h1 hnmd hnm;go_enter Tryz.func38,Tryz.ntmps38
 go_wp2_with (at_lookup; go_must (refine Z1f _ rfl _ _ rfl mb a.b (N a.b) L rfl rfl HF.out.map HF.out.number HF.out.nodup HIN.out ?_))
 refine HNM.out.mono ?_;rintro e w1 ⟨v1,rfl,ht1,hb1⟩;have HB1:=lh hb1;rcases ht1.form with ⟨rfl,rfl⟩ | ⟨g,cap,rfl,hle,hmx⟩
 ·have HS1 := lh (HS.out.bel hb1);clear HNM ht1 hb1;go_wp2_with fail
  refine (HC.out _ S _ (HF.out.on HB1.out) HS1.out).mono ?_;rintro e w2 ⟨rfl,hI1,hR1,hL1⟩;have HI1:=lh hI1;have HR1:=lh ((FFr.bel HB1.out).trans hR1);have HL1:=lh hL1;clear hI1 hR1 hL1 HC;go_wp2;go_end0
  rw [HD.out,Yb trivial];exact ⟨rfl,HI1.out,HR1.out,by have:=HL1.out; omega⟩
 ·by_cases hpos : 0 < nm.length
  ·have hsc := (HS.out.bel hb1).new (s := ⟨N a.b, nm, false⟩) (ht1.base HF.out.bel.size);have hb2 : Below w.heap.size w (w1.alloc (.cells #[.pointer pp, .int .i64 (N a.b), .slice (some ⟨g, 0, none⟩) nm.length cap, .bool false] 54)) := hb1.alloc hb1.size _;have HSC := lh hsc;have HB2 := lh hb2;have hposI : (0 : Int) < nm.length := by omega
   have HNE:Hid (nm≠[]):=lh (by intro e; rw [e] at hpos; simp at hpos);obtain ⟨q,hq⟩:=zX nm.length
   rw [← hq] at HSC HB2 hpos hposI ⊢;clear HNM ht1 hb1 hsc hb2 hq;go_wp2_with fail
   refine (HC.out _ (⟨N a.b,nm,false⟩ :: S) _ (HF.out.on HB2.out) HSC.out).mono ?_;rintro e w2 ⟨rfl,hI1,hR1,hL1⟩;have HI1:=lh hI1;have HR1:=lh ((FFr.bel HB2.out).trans hR1);have HL1:=lh hL1;clear hI1 hR1 hL1 HC;go_wp2;go_end0
   rw [HD.out,Y9 HNE.out];exact ⟨rfl,HI1.out,HR1.out,by have:=HL1.out; omega⟩
  ·have hn0 : nm = [] := List.eq_nil_of_length_eq_zero (by omega);subst hn0;have HS1 := lh (HS.out.bel hb1);simp only [List.length_nil];clear HNM ht1 hb1 hpos;go_wp2_with fail
   refine (HC.out _ S _ (HF.out.on HB1.out) HS1.out).mono ?_;rintro e w2 ⟨rfl,hI1,hR1,hL1⟩;have HI1:=lh hI1;have HR1:=lh ((FFr.bel HB1.out).trans hR1);have HL1:=lh hL1;clear hI1 hR1 hL1 HC;go_wp2;go_end0
   rw [HD.out,Yb trivial];exact ⟨rfl,HI1.out,HR1.out,by have:=HL1.out; omega⟩
end Go.Proofs.YtfilfhpfndaniaaGreatDoor
