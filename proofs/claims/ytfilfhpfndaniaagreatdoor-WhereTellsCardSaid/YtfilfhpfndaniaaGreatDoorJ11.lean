/- Package where: the finder's node: functions. -/
import Derived.Test.YtfilfhpfndaniaaGreatDoorJ10
import Derived.Laws.AppendOwnNone
namespace Go.Proofs.YtfilfhpfndaniaaGreatDoor
open Go Go.RowKit
set_option maxRecDepth 100000
set_option maxHeartbeats 20000000
set_option linter.unusedVariables false
theorem Z3h {P:Program} (w:World) (base:Nat) (t ty e:TypeId) (i:TypeInfo) (size:Nat) (ht:P.underlying t=some (.slice e)) (hi:P.info? e=some i)
 (v:Value) (n:Nat) (xs:List Value) (hown:w.ownsRow base e size v n xs) (p:Option Addr) (c:Nat) :
 (Builtin.append_ #[t,t] ty #[v,.slice p 0 c]).run P w=.ok v w:=by
 rcases hown.2 with ⟨rfl,rfl⟩ | ⟨g,cap,cur,rfl,_,_,hnc,_⟩;·cases p <;> simp [Builtin.append_,run_underlying ht,sizeOf,typeInfo,hi,Builtin.lenOf,Builtin.firstCells,loadCells,loadCellsFrom,Result.andThen]
 ·cases p <;> simp [Builtin.append_,run_underlying ht,sizeOf,typeInfo,hi,Builtin.lenOf,Builtin.firstCells,hnc,storeCells,loadCells,loadCellsFrom,Result.andThen]
theorem Z3j {P:Program} {w:World} {ops:Array Oper} {rest:List Oper} {o:Oper} {a:Act} {Q:Exit→Act→World→Prop} (hgd:o.guard=none) (s x:Operand) (t:TypeId)
 (ho:o.op=.call { callee:=.builtin .append,args:=#[s,x],argTypes:=#[t,t] })
 (base:Nat) (e:TypeId) (i:TypeInfo) (size:Nat) (ht:P.underlying t=some (.slice e)) (hi:P.info? e=some i)
 (v:Value) (n:Nat) (xs:List Value) (hs:a.eval s=v) (hown:w.ownsRow base e size v n xs) (p:Option Addr) (c:Nat) (hx:a.eval x=.slice p 0 c)
 (h:wpList P ops Q rest (a.put o.dst v) w):wpList P ops Q (o :: rest) a w:=by
 refine wpList_plain hgd fun K hK=>?_;have hrun:=Z3h (P:=P) w base t o.type e i size ht hi v n xs hown p c;unfold Oper.wp;simp [execOp,ho,resolve,invoke,builtin,hs,hx,hrun,Result.andThen];exact hK _ _ h
theorem Zr.join {w:World} {B:Nat} {v:Value} {l m:List ByteArray} (h:w.ownsRow B 9 1 v (l.length + m.length) (l.map Value.string ++ m.map Value.string)):Zr w B v (l ++ m):=by
 unfold Zr;rw [Yq,Yw];exact h
mutual
theorem Zil:∀ (a:ATree) (l:List ByteArray),(Z2g Z2f a l).length≤l.length + a.many
 | .mk b v k t n ks, l => by
   have h:(Z2f l (.mk b v k t n ks)).2.length≤l.length + 1:=by
    unfold Z2f;simp only;split;·exact Z7g _ _
    ·omega
   simp only [Z2g,ATree.many];split
   ·have:=Z9x ks (Z2f l (.mk b v k t n ks)).2;omega
   ·omega
theorem Z9x:∀ (ks:List ATree) (l:List ByteArray),(Z16 Z2f ks l).length≤l.length + Z07 ks
 | [],l=>by simp [Z16,Z07]
 | a :: ks, l => by
   simp only [Z16,Z07];have h1:=Z9x ks (Z2g Z2f a l);have h2:=Zil a l;omega
end
theorem Zan (a:ATree):(Z0b true a).length≤3 * a.many:=by
 unfold Z0b;simp only [if_true];have h1:=Z2a (Z0l (Z57 a) (a.kids.filter Z20)) (a.kids.filter Z2j);have h2:=Z2a (Z57 a) (a.kids.filter Z20);have h3:(Z57 a).length≤a.many:=by
  have h:=Z9x a.kids [];have h4:a.many=Z07 a.kids + 1:=by obtain ⟨b,v,k,t,n,ks⟩:=a; rfl
  have h5:Z57 a=Z16 Z2f a.kids []:=rfl;rw [h5,h4];simpa using Nat.le_succ_of_le h
 have h4:(a.kids.filter Z20).length≤a.kids.length:=List.length_filter_le _ _;have h5:(a.kids.filter Z2j).length≤a.kids.length:=List.length_filter_le _ _;have h6:=Z78 a;omega
theorem Zhh {w0:World} {fb mb:Nat} {N:Nat→Nat} {L:List (Nat×Nat)} {Ok:ATree→Prop} {m:Nat} (hK:Z61 w0 fb mb N L Ok m)
 (a:ATree) (B:Nat) (w:World) (S:List Sc) (sv:Value) (st:Bool) (out:List Us) (hm:a.many≤m + 1) (hT:TreeAt w0 B a) (hnum:∀ x∈a.subs,(x.b,N x.b)∈L) (hlen:out.length + a.many < 274877906944) (hF:FSt w0 fb mb N L out w) (hS:Z0w w w0.heap.size S sv)
 (h1:a.kind=5∨a.kind=37) (ps bd:ATree) (hk:a.kids=[ps,bd]) (hok:∀ k∈bd.kids,Ok k) (hcall:Zbi bd) :
 Calls Tryz.prog 38 #[.pointer (some ⟨fb,0,none⟩),a.ptr,sv,.bool st] w fun e w'=>e=.returned (.tuple #[])∧FSt w0 fb mb N L (out ++ Z0x N a S st) w'∧FFr w w'∧(Z0x N a S st).length≤a.many:=by
 obtain ⟨i0,hi,hz0,hz1,hz2⟩:=info_parts Tryz.infoStr;have hTw:TreeAt w B a:=hT.keep fun k _ hk=>hF.bel.block k hk;have hmem:ps∈a.kids∧bd∈a.kids:=by rw [hk]; simp
 obtain ⟨SX,hSX⟩:=zX ((if a.kind=37∧a.text≠ByteArray.empty then ⟨N a.b,[a.text],false⟩ :: S else S))
 have hdef:Z0x N a S st=Z1c N bd.kids (⟨N a.b,(Zi :: ps.kids.map ATree.text) ++ Z0b true bd,!(st || Z1w bd) && Z5w bd⟩ :: SX) (st || Z1w bd):=by
  rw [hSX];obtain ⟨b,v,k,t,n,ks⟩:=a;obtain ⟨b2,v2,k2,t2,n2,ks2⟩:=bd;simp only [ATree.kids] at hk;simp only [ATree.kind] at h1;subst hk;rw [Z0x.eq_def];have e1:k≠23:=by omega
  have e2:k≠6:=by omega
  have e3:k≠13:=by omega
  have e4:k≠9:=by omega
  simp only [e1,e2,e3,e4,h1,if_false,if_true];rfl
 have hmany:a.many=ps.many + bd.many + 1:=by
  obtain ⟨b,v,k,t,n,ks⟩:=a;simp only [ATree.kids] at hk;subst hk;simp only [ATree.many,Z07];omega
 obtain ⟨p,cp,hv,hge,hmx⟩:=hTw.vOf;have hrow:=hTw.rowOf;obtain ⟨g,hp⟩:∃ g,p=some ⟨g,0,none⟩:=by
  rcases Z7 hrow with ⟨_,h2⟩ | ⟨g,cap,h1,_⟩;·rw [hk] at h2; simp at h2
  ·rw [hv] at h1; simp only [Value.slice.injEq] at h1; exact ⟨g,h1.1⟩
 subst hp;have c3:w.cell? ⟨a.b,3,none⟩=some (.slice (some ⟨g,0,none⟩) 2 cp):=by rw [show (2:Nat)=a.kids.length by rw [hk]; rfl,← hv]; exact hTw.c3
 have cx:=Ze hrow (g:=g) (by rw [hv]; rfl) (i:=0) (x:=ps.ptr) (by rw [hk]; rfl);have cy:=Ze hrow (g:=g) (by rw [hv]; rfl) (i:=1) (x:=bd.ptr) (by rw [hk]; rfl);have hge2:2≤cp:=by rw [hk] at hge; exact hge
 unfold maxLen at hmx;have hlg:=(Yh hrow g (by rw [hv]; rfl)).2;have hTp:=hTw.kid hmem.1;obtain ⟨p2,cp2,hv2,hge3,hmx2⟩:=hTp.vOf;have p3:w.cell? ⟨ps.b,3,none⟩=some (.slice p2 ps.kids.length cp2):=by rw [← hv2]; exact hTp.c3
 have hkl:=Z78 ps;have hlen2:ps.kids.length≤9223372036854775807:=by unfold maxLen at hmx2; omega
 have hql:ps.kids.length < 274877906944:=by omega
 have HV2:=lh hv2;have hkeep:∀ W,Below w.heap.size w W→W.cell? ⟨a.b,3,none⟩=some (.slice (some ⟨g,0,none⟩) 2 cp)∧W.cell? ⟨g,0,none⟩=some ps.ptr∧W.cell? ⟨g,1,none⟩=some bd.ptr∧W.cell? ⟨ps.b,3,none⟩=some (.slice p2 ps.kids.length cp2):=fun W h=>
  ⟨(Yj (h.block a.b hTw.lt)).trans c3,(Yj (h.block g hlg)).trans cx,(Yj (h.block g hlg)).trans cy,(Yj (h.block ps.b hTp.lt)).trans p3⟩
 have HC:=lh (fun w1 S' sv' st' h1 h2=>hK bd B w1 S' sv' st' out (by omega) hok (hT.kid hmem.2) (fun z hz=>hnum z (Z3f hmem.2 hz)) (by omega) h1 h2);have HN:=lh (fun wr (h:TreeAt wr B bd)=>Zcn true wr B bd h (by omega));have HEV:=lh (fun wr (h:TreeAt wr B bd)=>Zcy wr B bd h hcall);have HST:=lh (fun wr (h:TreeAt wr B bd)=>Zad wr B bd h);obtain ⟨sb,hsb⟩:=zX (Z1w bd)
 rw [← hsb] at HST hdef;have d0:=hTw.c0;have f0:=hF.c0;have d1:=hTw.c1;obtain ⟨pp,rfl⟩:=hS.ptr;obtain ⟨tx,htx⟩:=zX a.text
 rw [← htx] at d1 hSX;have hcases:(a.kind=5∧SX=S)∨(a.kind=37∧tx=ByteArray.empty∧SX=S)∨(a.kind=37∧tx≠ByteArray.empty∧SX=⟨N a.b,[tx],false⟩ :: S):=by
  rcases h1 with h1 | h1;·exact .inl ⟨h1,by rw [hSX,Y9 (by omega)]⟩
  ·by_cases ht : tx = ByteArray.empty;·exact .inr (.inl ⟨h1, ht, by rw [hSX, Y9 (fun h => h.2 ht)]⟩)
   ·exact .inr (.inr ⟨h1,ht,by rw [hSX,Yb ⟨h1,ht⟩]⟩)
 have HD:=lh hdef;have HF:=lh hF;have HIN:=lh (hnum a (Z1m a));have HMANY:=lh hmany;have HLEN:=lh hlen;obtain ⟨q,hq⟩:=zX ps.kids.length
 rw [← hq] at hkeep hlen2 hge3 hql;have HQ:=lh hq;unfold ATree.ptr at HC HN HEV HST hkeep ⊢;clear hdef hK hok hT hnum hlen hk hrow hv hmany hge hcall c3 cx cy p3 hv2 hq hkl h1 hSX hsb htx hm hlg;rcases hcases with ⟨hkd,hsx⟩ | ⟨hkd,ht,hsx⟩ | ⟨hkd,ht,hsx⟩;rw [hkd] at d0;have hb1:Below w.heap.size w w:=Y8 _ _;have hsc:Z0w w w0.heap.size SX (.pointer (pp)):=by rw [hsx]; exact hS
 obtain ⟨k3,_,ky,_⟩:=hkeep _ hb1;obtain ⟨l3,lx,_,l4⟩:=hkeep (w.alloc (.cells #[.string ⟨#[97,114,103,117,109,101,110,116,115]⟩] 9)) (hb1.alloc hb1.size _);have HTX0:=lh (show Zr (w.alloc (.cells #[.string ⟨#[97,114,103,117,109,101,110,116,115]⟩] 9)) (w.heap.size) (.slice (some ⟨w.heap.size,0,none⟩) 1 1) [Zi] from by
  have h:=Zr.one (w:=w) (Y5 _) Zi;skip
  exact h)
 have HST0:=lh (show Below w.heap.size w (w.alloc (.cells #[.string ⟨#[97,114,103,117,109,101,110,116,115]⟩] 9)) from (Y8 _ _).alloc (Y5 _) _);have HBL:=lh (Y8 w.heap.size w);obtain ⟨W1,hW1⟩:=zX w
 obtain ⟨z,hzz⟩:=zX w.heap.size
 obtain ⟨pp2,hpp⟩:=zX ((pp:Option Addr))
 have HST0:Hid (Below z W1 (w.alloc (.cells #[.string ⟨#[97,114,103,117,109,101,110,116,115]⟩] 9))):=lh (by rw [hW1,hzz]; exact HST0.out);have HBL:Hid (Below z W1 w):=lh (by rw [hW1,hzz]; exact HBL.out);have hb1:Below w.heap.size w W1:=by rw [hW1]; exact hb1
 have hsc:Z0w W1 w0.heap.size SX (.pointer pp2):=by rw [hW1,hpp]; exact hsc
 have hz:z=W1.heap.size:=by rw [hW1]; exact hzz
 have HPP:=lh hpp;have HTX0:=lh (Zr.base HTX0.out (show z≤_ by rw [hzz]; simp));clear hW1 hzz hpp;rotate_left
 rw [hkd] at d0;rw [ht] at d1;have hb1:Below w.heap.size w w:=Y8 _ _;have hsc:Z0w w w0.heap.size SX (.pointer (pp)):=by rw [hsx]; exact hS
 obtain ⟨k3,_,ky,_⟩:=hkeep _ hb1;obtain ⟨l3,lx,_,l4⟩:=hkeep (w.alloc (.cells #[.string ⟨#[97,114,103,117,109,101,110,116,115]⟩] 9)) (hb1.alloc hb1.size _);have HTX0:=lh (show Zr (w.alloc (.cells #[.string ⟨#[97,114,103,117,109,101,110,116,115]⟩] 9)) (w.heap.size) (.slice (some ⟨w.heap.size,0,none⟩) 1 1) [Zi] from by
  have h:=Zr.one (w:=w) (Y5 _) Zi;skip
  exact h)
 have HST0:=lh (show Below w.heap.size w (w.alloc (.cells #[.string ⟨#[97,114,103,117,109,101,110,116,115]⟩] 9)) from (Y8 _ _).alloc (Y5 _) _);have HBL:=lh (Y8 w.heap.size w);obtain ⟨W1,hW1⟩:=zX w
 obtain ⟨z,hzz⟩:=zX w.heap.size
 obtain ⟨pp2,hpp⟩:=zX ((pp:Option Addr))
 have HST0:Hid (Below z W1 (w.alloc (.cells #[.string ⟨#[97,114,103,117,109,101,110,116,115]⟩] 9))):=lh (by rw [hW1,hzz]; exact HST0.out);have HBL:Hid (Below z W1 w):=lh (by rw [hW1,hzz]; exact HBL.out);have hb1:Below w.heap.size w W1:=by rw [hW1]; exact hb1
 have hsc:Z0w W1 w0.heap.size SX (.pointer pp2):=by rw [hW1,hpp]; exact hsc
 have hz:z=W1.heap.size:=by rw [hW1]; exact hzz
 have HPP:=lh hpp;have HTX0:=lh (Zr.base HTX0.out (show z≤_ by rw [hzz]; simp));clear hW1 hzz hpp;rotate_left
 rw [hkd] at d0;have n0:(tx.toList == (⟨#[]⟩:ByteArray).toList)=false:=by rw [Z26]; simp [Zt]; exact ht
 have n1:(tx.toList == [])=false:=by
  rwa [show (⟨#[]⟩:ByteArray).toList=[] by kernel_rfl] at n0
 clear n0;have hb1:Below w.heap.size w ((w.alloc (.cells #[.string tx] 9)).alloc (.cells #[.pointer pp,.int .i64 (N a.b),.slice (some ⟨w.heap.size,0,none⟩) 1 1,.bool false] 54)):=((Y8 w.heap.size w).alloc (Y5 _) _).alloc (by simp) _
 have hsc:Z0w ((w.alloc (.cells #[.string tx] 9)).alloc (.cells #[.pointer pp,.int .i64 (N a.b),.slice (some ⟨w.heap.size,0,none⟩) 1 1,.bool false] 54)) w0.heap.size SX (.pointer (some ⟨w.heap.size + 1,0,none⟩)):=by rw [hsx]; exact (by have h:=(hS.bel ((Y8 w.heap.size w).alloc (Y5 _) (.cells #[.string tx] 9))).new (s:=⟨N a.b,[tx],false⟩) (Zr.one hF.bel.size tx); rw [World.size_alloc] at h; exact h)
 obtain ⟨k3,_,ky,_⟩:=hkeep _ hb1;obtain ⟨l3,lx,_,l4⟩:=hkeep (((w.alloc (.cells #[.string tx] 9)).alloc (.cells #[.pointer pp,.int .i64 (N a.b),.slice (some ⟨w.heap.size,0,none⟩) 1 1,.bool false] 54)).alloc (.cells #[.string ⟨#[97,114,103,117,109,101,110,116,115]⟩] 9)) (hb1.alloc hb1.size _)
 have HTX0:=lh (show Zr (((w.alloc (.cells #[.string tx] 9)).alloc (.cells #[.pointer pp,.int .i64 (N a.b),.slice (some ⟨w.heap.size,0,none⟩) 1 1,.bool false] 54)).alloc (.cells #[.string ⟨#[97,114,103,117,109,101,110,116,115]⟩] 9)) (w.heap.size + 1 + 1) (.slice (some ⟨w.heap.size + 1 + 1,0,none⟩) 1 1) [Zi] from by
  have h:=Zr.one (w:=((w.alloc (.cells #[.string tx] 9)).alloc (.cells #[.pointer pp,.int .i64 (N a.b),.slice (some ⟨w.heap.size,0,none⟩) 1 1,.bool false] 54))) (Y5 _) Zi;rw [World.size_alloc,World.size_alloc] at h;exact h)
 have HST0:=lh (show Below ((w.alloc (.cells #[.string tx] 9)).alloc (.cells #[.pointer pp,.int .i64 (N a.b),.slice (some ⟨w.heap.size,0,none⟩) 1 1,.bool false] 54)).heap.size ((w.alloc (.cells #[.string tx] 9)).alloc (.cells #[.pointer pp,.int .i64 (N a.b),.slice (some ⟨w.heap.size,0,none⟩) 1 1,.bool false] 54)) (((w.alloc (.cells #[.string tx] 9)).alloc (.cells #[.pointer pp,.int .i64 (N a.b),.slice (some ⟨w.heap.size,0,none⟩) 1 1,.bool false] 54)).alloc (.cells #[.string ⟨#[97,114,103,117,109,101,110,116,115]⟩] 9)) from (Y8 _ _).alloc (Y5 _) _)
 have HBL:=lh (Y8 ((w.alloc (.cells #[.string tx] 9)).alloc (.cells #[.pointer pp,.int .i64 (N a.b),.slice (some ⟨w.heap.size,0,none⟩) 1 1,.bool false] 54)).heap.size ((w.alloc (.cells #[.string tx] 9)).alloc (.cells #[.pointer pp,.int .i64 (N a.b),.slice (some ⟨w.heap.size,0,none⟩) 1 1,.bool false] 54)));obtain ⟨W1,hW1⟩:=zX (((w.alloc (.cells #[.string tx] 9)).alloc (.cells #[.pointer pp,.int .i64 (N a.b),.slice (some ⟨w.heap.size,0,none⟩) 1 1,.bool false] 54)))
 obtain ⟨z,hzz⟩:=zX (((w.alloc (.cells #[.string tx] 9)).alloc (.cells #[.pointer pp,.int .i64 (N a.b),.slice (some ⟨w.heap.size,0,none⟩) 1 1,.bool false] 54)).heap.size)
 obtain ⟨pp2,hpp⟩:=zX ((some ⟨w.heap.size + 1,0,none⟩:Option Addr))
 have HST0:Hid (Below z W1 (((w.alloc (.cells #[.string tx] 9)).alloc (.cells #[.pointer pp,.int .i64 (N a.b),.slice (some ⟨w.heap.size,0,none⟩) 1 1,.bool false] 54)).alloc (.cells #[.string ⟨#[97,114,103,117,109,101,110,116,115]⟩] 9))):=lh (by rw [hW1,hzz]; exact HST0.out);have HBL:Hid (Below z W1 ((w.alloc (.cells #[.string tx] 9)).alloc (.cells #[.pointer pp,.int .i64 (N a.b),.slice (some ⟨w.heap.size,0,none⟩) 1 1,.bool false] 54))):=lh (by rw [hW1,hzz]; exact HBL.out);have hb1:Below w.heap.size w W1:=by rw [hW1]; exact hb1
 have hsc:Z0w W1 w0.heap.size SX (.pointer pp2):=by rw [hW1,hpp]; exact hsc
 have hz:z=W1.heap.size:=by rw [hW1]; exact hzz
 have HPP:=lh hpp;have HTX0:=lh (Zr.base HTX0.out (show z≤_ by rw [hzz]; simp));clear hW1 hzz hpp;rotate_left
 all_goals
  have hall:∀ W,Below z W1 W→TreeAt W B ps∧TreeAt W B bd∧FSt w0 fb mb N L out W∧Z0w W w0.heap.size SX (.pointer pp2)∧FFr w W∧z≤W.heap.size∧w0.heap.size≤z:=fun W hW=>by
   rw [hz] at hW;have h2:Below w.heap.size w W:=hb1.trans (hW.mono hb1.size);exact ⟨hTp.bel h2,(hTw.kid hmem.2).bel h2,HF.out.on h2,hsc.bel hW,FFr.bel h2,by rw [hz]; exact hW.size,by rw [hz]; exact Ya HF.out.bel.size hb1.size⟩
  have HALL:=lh hall;try clear ht
  clear hTw hF hS hkeep hmem hTp hall hb1 hsc hz hkd hsx;cases st
  all_goals
   go_enter Tryz.func38,Tryz.ntmps38
   go_wp2_with (at_lookup; go_must (refine Z1f _ rfl _ _ rfl mb a.b (N a.b) L rfl rfl HF.out.map HF.out.number HF.out.nodup HIN.out ?_))
   first
    | (refine (HST.out _ (HALL.out _ HBL.out).2.1).mono ?_
       rintro e w' ⟨rfl,hww⟩;rw [hww];clear hww;go_wp2_with fail)
    | skip
   rw [← HPP.out];go_loopw [11,149] (fun v i wr=>∃ (k:Nat) (v':Value),v'=v∧k≤q∧i=.int .i64 k∧Hid (Zr wr z v' (Zi :: (ps.kids.take k).map ATree.text))∧Hid (Below z W1 wr)) (fun _ i _=>q - (intOf i).toNat)
   case atStart=>exact ⟨0,_,rfl,Yp _,rfl,HTX0,HST0⟩
   case round=>
    obtain ⟨k,v,rfl,hk,rfl,TX,HB⟩:=hrel;clear HTX0 HST0;by_cases hkn:k < q
    ·obtain ⟨x, hx⟩ : ∃ x, ps.kids[k]? = some x := ⟨_, Yd (by rw [← HQ.out]; exact hkn)⟩
     obtain ⟨hTp,_,_,_,_,hsz,_⟩:=HALL.out _ HB.out;have hrow:=hTp.rowOf;rcases Z7 hrow with ⟨_,h2⟩ | ⟨g0,cap0,hv0,_⟩;·rw [← HQ.out] at h2; omega
     have hp:p2=some ⟨g0,0,none⟩:=by
      have:=HV2.out.symm.trans hv0;simp only [Value.slice.injEq] at this;exact this.1
     subst hp;have cx:=Ze hrow (g:=g0) (by rw [hv0]; rfl) (i:=k) (x:=x.ptr) (by rw [Yo,hx]; rfl);unfold ATree.ptr at cx;have c1:=(hTp.kid (Yl hx)).c1;have HX:=lh hx;obtain ⟨L0,hL⟩:=zX (Zi :: (ps.kids.take k).map ATree.text)
     have hll:L0.length≤k + 1:=by rw [hL]; simp; omega
     rw [← hL] at TX;have HLL:=lh hL;have TX2:=TX;unfold Zr at TX;clear hTp hrow hv0 hx hL
     go_wp2_with (at_builtin; go_must (refine wpList_append_lies _ rfl (.tmp 153) (.tmp 158) 51 rfl z 9 i0 (.string ByteArray.empty) 1 16 Tryz.underlying51 hi hz0 hz1 hz2 rfl (by decide) v L0.length (L0.map Value.string) rfl (TX.out.alloc _) ⟨wr.heap.size,0,none⟩ 1 1 [.string x.text] rfl rfl (fun j u hu=>cell_one_new wr _ _ j u hu) (by intro u hu; simp at hu; subst hu; rfl) (by first | omega | (simp; omega)) (by unfold maxLen; omega) (by first | omega | (simp; omega)) (by first | omega | (simp; omega)) (wr.heap.size + 1) (by simp) ?_); intro g cap w3 hown2 hgrow2 hat2 hgl2; have HG:=lh hgrow2; have HW:=lh hown2; clear hgrow2 hown2 hat2 hgl2)
     go_roundw
     case rel=>
      refine ⟨k + 1,_,rfl,by omega,by go_num,lh ?_,lh ?_⟩
      ·rw [Zk HX.out,Yw,← List.cons_append,← HLL.out];exact Z86 HW.out
      ·exact (HB.out.alloc hsz _).grown HG.out (by simp; omega) fun j hj=>(Yh TX.out j hj).1
     case measure=>simp [intOf]; omega
    ·have hk2 : k = q := by omega
     subst hk2;have htx:Zr wr z v (Zi :: ps.kids.map ATree.text):=by
      have:=TX.out;rwa [Ym (by rw [← HQ.out]; exact Y5 _)] at this
     have TX1:=lh htx;obtain ⟨L0,hL⟩:=zX (Zi :: ps.kids.map ATree.text)
     have hll:L0.length≤k + 1:=by rw [hL]; simp [HQ.out]
     rw [← hL] at TX1;have HLL:=lh hL;clear htx hL TX;go_wp2_with fail
     refine (HN.out wr (HALL.out _ HB.out).2.1).mono ?_;rintro e w3 ⟨v3,rfl,ht3,hb3⟩;have hsz3:=(HALL.out _ HB.out).2.2.2.2.2.1;have HB3:=lh (HB.out.trans (hb3.mono hsz3));have TX3:=lh (TX1.out.bel hb3);obtain ⟨p3,cp3,rfl,hge4,hmx4⟩:∃ p cp,v3=.slice p (Z0b true bd).length cp∧(Z0b true bd).length≤cp∧cp≤maxLen:=by
      rcases ht3.form with ⟨h1,h2⟩ | ⟨g,cap,h1,h2,h3⟩;·exact ⟨none,0,by rw [h1,h2]; rfl,by rw [h2]; exact Y5 _,by unfold maxLen; omega⟩
      ·exact ⟨_,_,h1,h2,h3⟩
     have hnl:=Zan bd;have hml2:=HMANY.out;have hlen3:=HLEN.out;obtain ⟨nm,hnm⟩:=zX (Z0b true bd)
     rw [← hnm] at ht3 hge4 hnl ⊢;have HNMD:=lh hnm;have HT3:=lh ht3;clear ht3 hnm hb3 TX1 HB;have hend:∀ (w4:World) (v4:Value),Hid (Zr w4 z v4 (L0 ++ nm))→Hid (Below z W1 w4)→∀ (op:Bool),Z0w (w4.alloc (.cells #[.pointer pp2,.int .i64 (N a.b),v4,.bool op] 54)) w0.heap.size (⟨N a.b,L0 ++ nm,op⟩ :: SX) (.pointer (some ⟨w4.heap.size,0,none⟩))∧FSt w0 fb mb N L out (w4.alloc (.cells #[.pointer pp2,.int .i64 (N a.b),v4,.bool op] 54))∧FFr w (w4.alloc (.cells #[.pointer pp2,.int .i64 (N a.b),v4,.bool op] 54)):=fun w4 v4 h1 h2 op=>by
      obtain ⟨_,_,_,hs,_,hz,hz2⟩:=HALL.out _ h2.out;have h3:=h2.out.alloc hz (.cells #[.pointer pp2,.int .i64 (N a.b),v4,.bool op] 54);obtain ⟨_,_,hf,_,hr,_,_⟩:=HALL.out _ h3;exact ⟨hs.new (s:=⟨N a.b,L0 ++ nm,op⟩) (h1.out.base hz2),hf,hr⟩
     have HEND:=lh hend;clear hend;cases sb
     all_goals
      by_cases hpos:0 < nm.length
      ·obtain ⟨g4,hp⟩:∃ g,p3=some ⟨g,0,none⟩:=by
        rcases HT3.out.form with ⟨h1,h2⟩ | ⟨g,cap,h1,_,_⟩;·rw [h2] at hpos; simp at hpos
        ·simp only [Value.slice.injEq] at h1; exact ⟨g,h1.1⟩
       subst hp;have hnews:Hid (∀ j u,(nm.map Value.string)[j]?=some u→w3.cell? ((⟨g4,0,none⟩:Addr).add j)=some u):=lh fun j u hu=>World.ownsRow.cells HT3.out rfl j u hu;have TX5:=TX3;unfold Zr at TX5;have hszz:Hid (z≤w3.heap.size):=lh (HALL.out _ HB3.out).2.2.2.2.2.1;unfold maxLen at hmx4
       go_wp2_with (at_builtin; go_must (refine wpList_append_lies _ rfl (.tmp 161) (.tmp 163) 51 rfl z 9 i0 (.string ByteArray.empty) 1 16 Tryz.underlying51 hi hz0 hz1 hz2 rfl (by decide) v L0.length (L0.map Value.string) rfl TX5.out ⟨g4,0,none⟩ nm.length cp3 (nm.map Value.string) rfl (by simp) hnews.out (by intro u hu; obtain ⟨x,_,rfl⟩:=List.mem_map.1 hu; rfl) hpos (by unfold maxLen; omega) (by omega) hszz.out w3.heap.size rfl ?_); intro g5 cap5 w4 hown4 hgrow4 hat4 hgl4; have HG:=lh hgrow4; have HW:=lh hown4; clear hgrow4 hown4 hat4 hgl4)
       have TX4:=lh (Zr.join HW.out);have HB4:=lh (HB3.out.grown HG.out hszz.out fun j hj=>(Yh TX5.out j hj).1)
       first
        | (refine (HEV.out _ (HALL.out _ HB4.out).2.1).mono ?_
           rintro e w5 ⟨rfl,hb5⟩;have hsz5:=(HALL.out _ HB4.out).2.2.2.2.2.1;have TX5:=lh (TX4.out.bel hb5);have HB5:=lh (HB4.out.trans (hb5.mono hsz5));obtain ⟨ev,hev⟩:=zX (Z5w bd)
           have HEVE:=lh hev;rw [← hev];clear hev hb5 hsz5 TX4 HB4;go_wp2_with fail
           refine (HC.out _ (⟨N a.b,L0 ++ nm,ev⟩ :: SX) _ false (HEND.out _ _ TX5 HB5 ev).2.1 (HEND.out _ _ TX5 HB5 ev).1).mono ?_;rintro e w6 ⟨rfl,hI6,hR6,hL6⟩;have HI6:=lh hI6;have HR6:=lh ((HEND.out _ _ TX5 HB5 ev).2.2.trans hR6);have HL6:=lh hL6;clear hI6 hR6 hL6 HC;go_wp2;go_end0
           have hd:=HD.out;change _=Z1c N bd.kids (⟨N a.b,(Zi :: ps.kids.map ATree.text) ++ Z0b true bd,Z5w bd⟩ :: SX) false at hd;rw [hd,← HEVE.out,← HNMD.out,← HLL.out];exact ⟨rfl,HI6.out,HR6.out,by have:=HL6.out; have:=HMANY.out; omega⟩
         )
        | (
         refine (HC.out _ (⟨N a.b,L0 ++ nm,false⟩ :: SX) _ true (HEND.out _ _ TX4 HB4 false).2.1 (HEND.out _ _ TX4 HB4 false).1).mono ?_;rintro e w6 ⟨rfl,hI6,hR6,hL6⟩;have HI6:=lh hI6;have HR6:=lh ((HEND.out _ _ TX4 HB4 false).2.2.trans hR6);have HL6:=lh hL6;clear hI6 hR6 hL6 HC;go_wp2;go_end0
         have hd:=HD.out;change _=Z1c N bd.kids (⟨N a.b,(Zi :: ps.kids.map ATree.text) ++ Z0b true bd,false⟩ :: SX) true at hd;rw [hd,← HNMD.out,← HLL.out];exact ⟨rfl,HI6.out,HR6.out,by have:=HL6.out; have:=HMANY.out; omega⟩
         )
      ·have hn0 : nm = [] := List.eq_nil_of_length_eq_zero (by omega);obtain ⟨pv, nv, cv, rfl⟩ := TX3.out.slice;have HN0 := lh hn0;have TX4 : Hid (Zr w3 z (.slice pv nv cv) (L0 ++ nm)) := by rw [hn0, List.append_nil]; exact TX3
       have HB4:=HB3;have TX5:=TX3;unfold Zr at TX5;have hnl0:nm.length=0:=by rw [hn0]; rfl
       rw [hnl0];clear hn0 hnl0;go_wp2_with (at_builtin; go_must (refine Z3j rfl (.tmp 161) (.tmp 163) 51 rfl z 9 i0 1 Tryz.underlying51 hi (.slice pv nv cv) L0.length (L0.map Value.string) rfl TX5.out p3 cp3 rfl ?_))
       first
        | (refine (HEV.out _ (HALL.out _ HB4.out).2.1).mono ?_
           rintro e w5 ⟨rfl,hb5⟩;have hsz5:=(HALL.out _ HB4.out).2.2.2.2.2.1;have TX5:=lh (TX4.out.bel hb5);have HB5:=lh (HB4.out.trans (hb5.mono hsz5));obtain ⟨ev,hev⟩:=zX (Z5w bd)
           have HEVE:=lh hev;rw [← hev];clear hev hb5 hsz5 TX4 HB4;go_wp2_with fail
           refine (HC.out _ (⟨N a.b,L0 ++ nm,ev⟩ :: SX) _ false (HEND.out _ _ TX5 HB5 ev).2.1 (HEND.out _ _ TX5 HB5 ev).1).mono ?_;rintro e w6 ⟨rfl,hI6,hR6,hL6⟩;have HI6:=lh hI6;have HR6:=lh ((HEND.out _ _ TX5 HB5 ev).2.2.trans hR6);have HL6:=lh hL6;clear hI6 hR6 hL6 HC;go_wp2;go_end0
           have hd:=HD.out;change _=Z1c N bd.kids (⟨N a.b,(Zi :: ps.kids.map ATree.text) ++ Z0b true bd,Z5w bd⟩ :: SX) false at hd;rw [hd,← HEVE.out,← HNMD.out,← HLL.out];exact ⟨rfl,HI6.out,HR6.out,by have:=HL6.out; have:=HMANY.out; omega⟩
         )
        | (
         refine (HC.out _ (⟨N a.b,L0 ++ nm,false⟩ :: SX) _ true (HEND.out _ _ TX4 HB4 false).2.1 (HEND.out _ _ TX4 HB4 false).1).mono ?_;rintro e w6 ⟨rfl,hI6,hR6,hL6⟩;have HI6:=lh hI6;have HR6:=lh ((HEND.out _ _ TX4 HB4 false).2.2.trans hR6);have HL6:=lh hL6;clear hI6 hR6 hL6 HC;go_wp2;go_end0
         have hd:=HD.out;change _=Z1c N bd.kids (⟨N a.b,(Zi :: ps.kids.map ATree.text) ++ Z0b true bd,false⟩ :: SX) true at hd;rw [hd,← HNMD.out,← HLL.out];exact ⟨rfl,HI6.out,HR6.out,by have:=HL6.out; have:=HMANY.out; omega⟩
         )
end Go.Proofs.YtfilfhpfndaniaaGreatDoor
