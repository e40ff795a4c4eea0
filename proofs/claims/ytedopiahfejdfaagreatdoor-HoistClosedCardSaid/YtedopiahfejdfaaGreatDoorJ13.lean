/- Package hoist: free, at a function. -/
import Derived.Test.YtedopiahfejdfaaGreatDoorJ12
import Derived.Shelf.Sort.Plain
import Derived.Shelf.Slices.In.SortNone
namespace Go.Proofs.YtedopiahfejdfaaGreatDoor
open Go Go.RowKit
set_option maxRecDepth 100000
set_option maxHeartbeats 20000000
set_option linter.unusedVariables false
set_option linter.unusedSimpArgs false
def KS (w:World) (B:Nat) (ao:Option Addr) (n:Nat) (K:List ByteArray) (v:Value) (K':List ByteArray):Prop:=(v=.slice ao n n∧K'=K)∨Zv w B v K'
theorem KS.bel {w w':World} {B n:Nat} {ao:Option Addr} {K K':List ByteArray} {v:Value} (h:KS w B ao n K v K') (g:Below w.heap.size w w'):KS w' B ao n K v K':=h.imp id fun h=>h.bel g
theorem Zdh {w:World} {B B':Nat} {e:TypeId} {s n:Nat} {v:Value} {xs:List Value} (h:w.ownsRow B' e s v n xs) (hb:B≤B'):w.ownsRow B e s v n xs:=by
 refine ⟨h.1,?_⟩;rcases h.2 with h2 | ⟨g,cap,cur,h1,h3,h4⟩;·exact .inl h2
 ·exact .inr ⟨g,cap,cur,h1,Y4 hb h3,h4⟩
theorem Z8q (w:World) (B:Nat) (ty:TypeId) {ao:Option Addr} {n:Nat} {K K':List ByteArray} {v:Value} (h:KS w B ao n K v K') (hn:n=K.length) (h0:ao=none→n=0) (hc:∀ b,ao=some b→∀ (j:Nat) u,(K.map Value.string)[j]?=some u→w.cell? (b.add j)=some u)
 (g:Nat) (str:ByteArray) (hg:w.cell? ⟨g,0,none⟩=some (.string str)) (hB:B≤w.heap.size) (hl:K'.length≤2000000000000) :
 ∃ v2 w2,(Builtin.append_ #[26,26] ty #[v,.slice (some ⟨g,0,none⟩) 1 1]).run Tryz.prog w=.ok v2 w2∧Zv w2 B v2 (K' ++ [str])∧Below B w w2:=by
 obtain ⟨i0,hi,hz0,hz1,hz2⟩:=info_parts Tryz.infoStr;have hnews:∀ (j:Nat) u,[Value.string str][j]?=some u→w.cell? ((⟨g,0,none⟩:Addr).add j)=some u:=by
  intro j u hu;rw [Z44];cases j with
  | zero=>simp at hu; subst hu; exact hg
  | succ j=>simp at hu
 have h1c:∀ u∈[Value.string str],u.oneCell'=true:=by intro u hu; simp at hu; subst hu; rfl
 have own:∀ n' xs,w.ownsRow B 9 1 v n' xs→n'=K'.length→xs=K'.map Value.string→∃ v2 w2,(Builtin.append_ #[26,26] ty #[v,.slice (some ⟨g,0,none⟩) 1 1]).run Tryz.prog w=.ok v2 w2∧Zv w2 B v2 (K' ++ [str])∧Below B w w2:=by
  intro n' xs ho e1 e2;obtain ⟨v',w',hrun,r1,r2,_⟩:=run_append_own (P:=Tryz.prog) w B 26 ty 9 i0 (.string ByteArray.empty) 1 16 Tryz.underlying26 hi hz0 hz1 hz2 rfl (by decide) v n' xs ho ⟨g,0,none⟩ 1 1 [.string str] rfl hnews h1c (by unfold maxLen; omega) (by omega) hB;exact ⟨v',w',hrun,Z3z (N:=[str]) (by rw [e2] at r1; exact r1) (by rw [e1]; rfl),(Y2 _ _).grown r2 hB fun j hj=>(Y9 ho j hj).1⟩
 rcases h with ⟨rfl,rfl⟩ | h
 ·cases ao with
  | none =>
    obtain rfl:=h0 rfl;have e:K'=[]:=List.eq_nil_of_length_eq_zero hn.symm;exact own 0 [] (World.ownsRow_nil w _ _ _) (by rw [e]; rfl) (by rw [e]; rfl)
  | some b =>
    obtain ⟨v',w',hrun,r1,r2⟩:=run_append_arg_grows (P:=Tryz.prog) w 26 ty 9 i0 (.string ByteArray.empty) 1 16 Tryz.underlying26 hi hz0 hz1 hz2 rfl (by decide) b n n (K'.map Value.string) (by rw [Ym,hn,Nat.mul_one]) (hc b rfl) ⟨g,0,none⟩ 1 1 [.string str] rfl hnews (by omega) (by unfold maxLen; omega) (by omega);exact ⟨v',w',hrun,Z3z (N:=[str]) (Zdh r1 hB) (by rw [hn]; rfl),(Z3g r2).mono hB⟩
 ·exact own _ _ h rfl rfl
theorem Z70 (w:World) (B:Nat) {o:Oper} {a:Act} {KK:Act→World→Prop} {Q:Exit→Act→World→Prop} (s x:Operand)
 (hop:o.op=Op.call { callee:=Callee.builtin Builtin.append,args:=#[s,x],argTypes:=#[26,26] })
 {ao:Option Addr} {n:Nat} {K K':List ByteArray} {v:Value} (h:KS w B ao n K v K') (hs:a.eval s=v) (hn:n=K.length) (h0:ao=none→n=0) (hc:∀ b,ao=some b→∀ (j:Nat) u,(K.map Value.string)[j]?=some u→w.cell? (b.add j)=some u)
 (g:Nat) (str:ByteArray) (hx:a.eval x=.slice (some ⟨g,0,none⟩) 1 1) (hg:w.cell? ⟨g,0,none⟩=some (.string str)) (hB:B≤w.heap.size) (hl:K'.length≤2000000000000)
 (hK:∀ v2 w2,Zv w2 B v2 (K' ++ [str])→Below B w w2→KK (a.put o.dst v2) w2):o.wp Tryz.prog a w KK Q:=by
 obtain ⟨v2,w2,hrun,h1,h2⟩:=Z8q w B o.type h hn h0 hc g str hg hB hl;unfold Oper.wp;simp [execOp,hop,resolve,invoke,builtin,hs,hx,hrun,Result.andThen];exact hK v2 w2 h1 h2
theorem Z3q (w:World) (B:Nat) {ops:Array Oper} {rest:List Oper} {o:Oper} {a:Act} {Q:Exit→Act→World→Prop} (hgd:o.guard=none) (s x:Operand)
 (hop:o.op=Op.call { callee:=Callee.builtin Builtin.append,args:=#[s,x],argTypes:=#[26,26] })
 {ao:Option Addr} {n:Nat} {K K':List ByteArray} {v:Value} (h:KS w B ao n K v K') (hs:a.eval s=v) (hn:n=K.length) (h0:ao=none→n=0) (hc:∀ b,ao=some b→∀ (j:Nat) u,(K.map Value.string)[j]?=some u→w.cell? (b.add j)=some u)
 (g:Nat) (str:ByteArray) (hx:a.eval x=.slice (some ⟨g,0,none⟩) 1 1) (hg:w.cell? ⟨g,0,none⟩=some (.string str)) (hB:B≤w.heap.size) (hl:K'.length≤2000000000000)
 (hK:∀ v2 w2,Zv w2 B v2 (K' ++ [str])→Below B w w2→wpList Tryz.prog ops Q rest (a.put o.dst v2) w2):wpList Tryz.prog ops Q (o :: rest) a w:=
 wpList_plain hgd fun KK hK'=>Z70 w B s x hop h hs hn h0 hc g str hx hg hB hl fun v2 w2 h1 h2=>hK' _ _ (hK v2 w2 h1 h2)
theorem Zfs {w:World} {B:Nat} {a ps bd:ATree} (hT:TreeAt w B a) (hk:a.kids=[ps,bd]) :
 ∃ g cp p2 cp2, 2 ≤ cp ∧ cp ≤ 9223372036854775807 ∧ ps.kids.length ≤ cp2 ∧ cp2 ≤ 9223372036854775807 ∧ ∀ W, Below w.heap.size w W → W.cell? ⟨a.b, 3, none⟩ = some (.slice (some ⟨g, 0, none⟩) 2 cp) ∧ W.cell? ⟨g, 0, none⟩ = some (.pointer (some ⟨ps.b, 0, none⟩)) ∧ W.cell? ⟨g, 1, none⟩ = some (.pointer (some ⟨bd.b, 0, none⟩)) ∧
   W.cell? ⟨ps.b,3,none⟩=some (.slice p2 ps.kids.length cp2)∧W.cell? ⟨a.b,0,none⟩=some (.int .i64 a.kind)∧W.cell? ⟨a.b,1,none⟩=some (.string a.text)∧∀ j y,ps.kids[j]?=some y→∃ gg,p2=some ⟨gg,0,none⟩∧W.cell? ⟨gg,j,none⟩=some (.pointer (some ⟨y.b,0,none⟩))∧W.cell? ⟨y.b,1,none⟩=some (.string y.text):=by
 obtain ⟨g,cp,hv,hge,hmx⟩:∃ g cp,a.v=.slice (some ⟨g,0,none⟩) 2 cp∧2≤cp∧cp≤maxLen:=by
  obtain ⟨p,cp,hv,hge,hmx⟩:=hT.vOf;rw [hk] at hv hge;rcases Z8 hT.rowOf with ⟨_,h2⟩ | ⟨g,cap,h1,_⟩;·rw [hk] at h2; simp at h2
  ·have h3:=h1;rw [hv] at h3; simp only [Value.slice.injEq] at h3;refine ⟨g,cp,?_,hge,hmx⟩;rw [hv,h3.1]; rfl
 have mp:ps∈a.kids:=by rw [hk]; simp
 obtain ⟨p2,cp2,hv2,hge2,hmx2⟩:=(hT.kid mp).vOf;unfold maxLen at hmx hmx2;refine ⟨g,cp,p2,cp2,hge,hmx,hge2,hmx2,fun W q=>?_⟩;have hT:=hT.bel q;have hP:=hT.kid mp;have hrow:=hT.rowOf;refine ⟨by rw [← hv]; exact hT.c3,Zu hrow (g:=g) (by rw [hv]; rfl) (i:=0) (x:=ps.ptr) (by rw [hk]; rfl),Zu hrow (g:=g) (by rw [hv]; rfl) (i:=1) (x:=bd.ptr) (by rw [hk]; rfl),by rw [← hv2]; exact hP.c3,hT.c0,hT.c1,fun j y hy=>?_⟩;have hr2:=hP.rowOf;rcases Z8 hr2 with ⟨_,h2⟩ | ⟨gg,cap,h1,_⟩;·have:=(List.getElem?_eq_some_iff.1 hy).1; omega
 have hgg:p2=some ⟨gg,0,none⟩:=by
  rw [hv2] at h1; simp only [Value.slice.injEq] at h1; exact h1.1
 subst hgg;exact ⟨gg,rfl,Zu hr2 (g:=gg) (by rw [hv2]; rfl) (i:=j) (x:=y.ptr) (by rw [Yg,hy]; rfl),(hP.kid (Yd hy)).c1⟩
theorem Zdr {w0:World} {ob B m:Nat} (ih:Z8c w0 ob B m) (a:ATree) (w:World) (v kv:Value) (L K:List ByteArray) (body:Bool) (hm:a.many≤m + 1) (hmx:a.many≤100000) (hA:WA a) (hT:TreeAt w0 B a) (hO:OS w0 ob v L w) (hK:KAt w ob v kv K) (hKb:K.length + a.many * 1000000≤1000000000000) (hLb:L.length + a.many≤1000000000)
 {ps bd:ATree} (h1:a.kind=5∨a.kind=37) (hk:a.kids=[ps,bd]) :
 Calls Tryz.prog 12 #[a.ptr,kv,.bool body,.pointer (some ⟨ob,0,none⟩)] w (Z53 w0 ob v L (Z10 a K body) w):=by
 have hTw:=hT.bel hO.bel;have mp:ps∈a.kids:=by rw [hk]; simp
 have mb:bd∈a.kids:=by rw [hk]; simp
 have hbm:bd.many < a.many:=Z2r mb;have hpm:ps.many < a.many:=Z2r mp;have hql:=Z6i ps;have hdef:Z10 a K body=Z10 bd (Z4t K a.kind a.text ps ++ [Zy]) true:=by
  obtain ⟨b,vv,k,t,n,ks⟩:=a;simp only [ATree.kind] at h1;simp only [ATree.kids] at hk;subst hk;rw [Z10.eq_def];simp only [];rw [Y3 (by omega),Y3 (by omega),Y5 h1];rfl
 rw [hdef];obtain ⟨g,cp,p2,cp2,hge,hcp,hge2,hcp2,hall⟩:=Zfs hTw hk;obtain ⟨KF,hKF⟩:=zX (Z4t K a.kind a.text ps ++ [Zy])
 rw [← hKF];have hkl:(Z4t K a.kind a.text ps).length≤K.length + 100001:=by
  unfold Z4t;rw [Yi,Ym];split <;> simp <;> omega
 have HIH:=lh (fun (W:World) (kv2:Value) (o1:OS w0 ob v L W) (k1:KAt W ob v kv2 KF)=>
  ih bd W v kv2 L KF true (by omega) (by omega) (hA.kid mb) (hT.kid mb) o1 k1 (by rw [hKF,Yi]; simp; omega) (by omega))
 obtain ⟨ao,kc,hkv,hK0,hclip,hn0,hcells⟩:=hK.clip;subst hkv;have HK0:=lh hK0;have HO:=lh hO;have HCLIP:=lh hclip;obtain ⟨tx,htx⟩:=zX a.text
 obtain ⟨kd,hkd⟩:=zX a.kind
 rw [← htx] at hall hKF;rw [← hkd] at hall h1 hKF;obtain ⟨K1,hK1⟩:=zX (if kd=37∧tx≠ByteArray.empty then K ++ [tx] else K)
 obtain ⟨T,hTT⟩:=zX (ps.kids.map ATree.text)
 have hKF2:KF=K1 ++ T ++ [Zy]:=by rw [hKF,hK1,hTT]; rfl
 have HKF:=lh hKF2;have HTT:=lh hTT;obtain ⟨nK,hnK⟩:=zX K.length
 rw [← hnK] at HK0 HCLIP hn0 hKb ⊢;have HNK:=lh hnK;obtain ⟨q,hq⟩:=zX ps.kids.length
 rw [← hq] at hall hge2 hql;have HQ:=lh hq;have HNO:=lh hn0;have HOLD:=lh (fun (W:World) (q:Below w.heap.size w W) (b:Addr) (hb:ao=some b) (j:Nat) (u:Value) (hu:(K.map Value.string)[j]?=some u)=>show W.cell? (b.add j)=some u from by
  obtain ⟨s,hs,rfl⟩:=Z9k hu;obtain ⟨ao2,cp2,e1,_,_,_,e5⟩:=HK0.out;simp only [Value.slice.injEq] at e1;obtain ⟨g,e6,hg,_,_,hc⟩:=e5 b (by rw [← e1.1]; exact hb);rw [e6,Z44];exact (Yb (q.block g hg)).trans (hc j s hs))
 have HALL:=lh hall;have hKb2:nK≤1000000000000:=by omega
 have hq1:q≤100000:=by omega
 have hT1:K1.length≤nK + 1:=by rw [hK1,hnK]; split <;> simp
 have HK1:=lh hK1;obtain ⟨_,_,_,_,c0,c1,_⟩:=hall w (Y2 _ _);unfold ATree.ptr at HIH ⊢;clear ih hA hT hO hK hKb hLb hTw mp mb hbm hpm hql hdef hK0 hclip hcells htx hkd hnK hq hn0 hall hm hmx hk hkl hKF hKF2 hTT hK1;have hcs:(kd=5∧K1=K)∨(kd=37∧(tx.toList == [])=true∧K1=K)∨(kd=37∧(tx.toList == [])=false∧K1=K ++ [tx]):=by
  rw [← show ByteArray.empty.toList=[] from by kernel_rfl,Z5c];rcases h1 with h | h;·exact .inl ⟨h,by rw [HK1.out,Y3 (by omega)]⟩
  ·by_cases e : tx = ByteArray.empty;·exact .inr (.inl ⟨h, Z6h.2 e, by rw [HK1.out, Y3 (fun h => h.2 e)]⟩)
   ·exact .inr (.inr ⟨h,by simp [Z0r,e],by rw [HK1.out,Y5 ⟨h,e⟩]⟩)
 clear h1;rcases hcs with ⟨rfl,hE⟩ | ⟨rfl,hne3,hE⟩ | ⟨rfl,hne3,hE⟩
 iterate 2
  focus
   have HKS0:=lh (show KS w w.heap.size ao nK K (.slice ao nK nK) K1 from .inl ⟨rfl,hE⟩);clear hE;have HB0:=lh (Y2 w.heap.size w);go_enter Tryz.func12,Tryz.ntmps12
   go_wp2_with fail
   refine HCLIP.out.mono ?_;rintro e w' ⟨rfl,hww⟩;rw [hww];clear hww w';obtain ⟨c3,k0,k1,p3,_,_,_⟩:=HALL.out w (Y2 _ _);go_wp2_with fail
   refine Z3a fun wS hwS=>?_;have HKS:=lh (show KS wS w.heap.size ao nK K _ K1 from by rw [hwS]; exact HKS0.out);have HBS:=lh (show Below w.heap.size w wS from by rw [hwS]; exact HB0.out);clear hwS HKS0 HB0
  rotate_left
 focus
  have HB1:Hid (Below w.heap.size w (w.alloc (.cells #[.string tx] 9))):=lh ((Y2 _ _).alloc (Y0 _) _);have HKS0:=lh (show KS (w.alloc (.cells #[.string tx] 9)) w.heap.size ao nK K (.slice ao nK nK) K from .inl ⟨rfl,rfl⟩);have hcl:(w.alloc (.cells #[.string tx] 9)).cell? ⟨w.heap.size,0,none⟩=some (.string tx):=by simp
  have HKE:=lh hE;have hlK:K.length≤2000000000000:=by have:=HNK.out; omega
  clear hE;go_enter Tryz.func12,Tryz.ntmps12
  go_wp2_with fail
  refine HCLIP.out.mono ?_;rintro e w' ⟨rfl,hww⟩;rw [hww];clear hww w';go_wp2_with (at_builtin; (refine Z3q (w.alloc (.cells #[.string tx] 9)) w.heap.size rfl (.tmp 63) (.tmp 68) rfl HKS0.out rfl HNK.out HNO.out (HOLD.out _ HB1.out) w.heap.size tx rfl hcl HB1.out.size hlK ?_); intro v2 w2 ht2 hb2; have HT2:=lh ht2; have HB2:=lh (HB1.out.trans hb2); clear ht2 hb2; obtain ⟨c3,k0,k1,p3,_,_,_⟩:=HALL.out w2 HB2.out)
  refine Z3a fun wS hwS=>?_;have HKS:=lh (show KS wS w.heap.size ao nK K _ K1 from by rw [hwS,HKE.out]; exact .inr HT2.out);have HBS:=lh (show Below w.heap.size w wS from by rw [hwS]; exact HB2.out);clear hwS
 rotate_left
 all_goals
  go_loopw [1,80] (fun v i wr=>∃ (k:Nat) (v':Value),v'=v∧k≤q∧i=.int .i64 k∧Hid (KS wr w.heap.size ao nK K v' (K1 ++ T.take k))∧Hid (Below w.heap.size w wr)) (fun _ i _=>q - (intOf i).toNat)
  case atStart=>exact ⟨0,_,rfl,Yh _,rfl,lh (by simpa using HKS.out),HBS⟩
  case round=>
   obtain ⟨k,v',rfl,hk,rfl,HS,HB⟩:=hrel;obtain ⟨c3,k0,k1,p3,_,_,hpp⟩:=HALL.out wr HB.out;by_cases hkn:k < q
   ·obtain ⟨x, hx⟩ : ∃ x, ps.kids[k]? = some x := ⟨_, Y6 (by rw [← HQ.out]; exact hkn)⟩
    obtain ⟨gg,rfl,cx,x1⟩:=hpp k x hx;have HB1:Hid (Below w.heap.size w (wr.alloc (.cells #[.string x.text] 9))):=lh (HB.out.alloc HB.out.size _);have HS1:Hid (KS (wr.alloc (.cells #[.string x.text] 9)) w.heap.size ao nK K v' (K1 ++ T.take k)):=lh (HS.out.bel ((Y2 _ _).alloc (Y0 _) _));have hcl:(wr.alloc (.cells #[.string x.text] 9)).cell? ⟨wr.heap.size,0,none⟩=some (.string x.text):=by simp
    have hlen:(K1 ++ T.take k).length≤2000000000000:=by rw [Yi,List.length_take]; omega
    have HTK:=lh (show K1 ++ T.take k ++ [x.text]=K1 ++ T.take (k + 1) from by
     have hTk:T[k]?=some x.text:=by rw [HTT.out,Yg,hx]; rfl
     obtain ⟨hkl,hke⟩:=List.getElem?_eq_some_iff.1 hTk;rw [List.take_succ_eq_append_getElem hkl,hke,List.append_assoc])
    clear hpp hx c3 k0 k1 p3;go_wp2_with (at_builtin; (refine Z3q (wr.alloc (.cells #[.string x.text] 9)) w.heap.size rfl (.tmp 84) (.tmp 89) rfl HS1.out rfl HNK.out HNO.out (HOLD.out _ HB1.out) wr.heap.size x.text rfl hcl HB1.out.size hlen ?_); intro v2 w2 ht2 hb2; have HT2:=lh ht2; have HB2:=lh (HB1.out.trans hb2); clear ht2 hb2)
    go_roundw
    case rel=>exact ⟨k + 1,_,rfl,by omega,by go_num,lh (by rw [← HTK.out]; exact .inr HT2.out),HB2⟩
    case measure=>simp [intOf]; omega
   ·have hk2 : k = q := by omega
    subst hk2;have hE:K1 ++ T.take k=K1 ++ T:=by rw [Ye (by rw [HTT.out,Ym,← HQ.out]; exact Y0 _)]
    rw [hE] at HS;have hab:a.b < wr.heap.size:=World.block_lt_of_cell? wr ⟨a.b,3,none⟩ c3;have hgb:g < wr.heap.size:=World.block_lt_of_cell? wr ⟨g,1,none⟩ k1;have HB1:Hid (Below wr.heap.size wr (wr.drew.alloc (.cells #[.string Zy] 9))):=lh ((Y2 _ _).drew.alloc (Y0 _) _);have HS1:=lh (HS.out.bel HB1.out);have hcl:(wr.drew.alloc (.cells #[.string Zy] 9)).cell? ⟨wr.heap.size,0,none⟩=some (.string Zy):=World.cell?_alloc_new wr.drew #[.string Zy] 9 0
    have hlen:(K1 ++ T).length≤2000000000000:=by rw [Yi,HTT.out,Ym,← HQ.out]; omega
    clear hpp hE k0 p3;go_wp2_with fail
    refine Z1 [(true,0),(true,1),(true,2),(true,3),(true,4),(true,5),(true,6),(true,9),(false,7),(false,8)] [10] (fun W=>W.cell? ⟨a.b,3,none⟩=some (.slice (some ⟨g,0,none⟩) 2 cp)∧W.cell? ⟨g,1,none⟩=some (.pointer (some ⟨bd.b,0,none⟩))) (by kernel_rfl) (by kernel_rfl) (fun _ _ d _ _ h=>by cases d <;> exact h) ⟨c3,k1⟩ (fun hS0=>?_);simp only [Zc,zD,zE,zF,zG,zH,zI]
    iterate 8
     first
      | (refine Z3 ?_ (by rfl) (fun w' hS'=>?_) ?_; rotate_left; (obtain ⟨s0,s1⟩:=hS'; go_simp; first | done | with_reducible rfl); simp only [Act.put,zA,zB,zC])
      | (refine Z4 (by rfl) ?_; simp only [Act.put,zA,zB,zC])
    refine Z5 (fun KK hK=>?_);go_simp
    refine hK _ _ ⟨(Yb (HB1.out.block a.b hab)).trans c3,(Yb (HB1.out.block g hgb)).trans k1⟩ ?_;clear hK KK;try simp only [Act.put,zA,zB,zC]
    refine Z5 (fun KK hK=>?_);rw [Y5 (by rfl)];refine Z70 (wr.drew.alloc (.cells #[.string Zy] 9)) w.heap.size (.tmp 98) (.tmp 99) (by rfl) HS1.out (by rfl) HNK.out HNO.out (HOLD.out _ (HB.out.trans (HB1.out.mono HB.out.size))) wr.heap.size Zy (by rfl) hcl (HB.out.trans (HB1.out.mono HB.out.size)).size hlen ?_;intro v2 w2 ht2 hb2;have HB2:=lh ((HB.out.trans (HB1.out.mono HB.out.size)).trans hb2);obtain ⟨c3',_,k1',_,_,_,_⟩:=HALL.out w2 HB2.out;refine hK _ _ ⟨c3',k1'⟩ ?_
    have HKA:=lh (show KAt w2 ob v v2 KF from by rw [HKF.out]; exact KAt.texts ht2 HO.out.lt (fun g hg=>HO.out.own g hg));clear hK KK ht2 hb2 c3' k1';refine Z6 ?_;go_wp2_with fail
    refine (HIH.out w2 v2 (HO.out.below HB2.out) HKA.out).mono ?_;rintro e w3 ⟨rfl,v3,ho3,hf3⟩;have HO3:=lh ho3;have HF3:=lh ((Far.below HB2.out).trans hf3);clear ho3 hf3;go_wp2;refine bodyPost_ret (results_none rfl _ _ _) rfl ?_;exact ⟨rfl,v3,HO3.out,HF3.out⟩
end Go.Proofs.YtedopiahfejdfaaGreatDoor
namespace Go.Proofs
def Tryz.lays190_ren:Go.Shelf.Ren:=⟨fun | 190=>13 | 125=>30 | 258=>29 | 128=>65 | 129=>66 | 302=>56 | 303=>57 | 304=>58 | 305=>59 | 306=>60 | 307=>61 | 308=>62 | 309=>63 | 310=>64 | 333=>89 | 329=>90 | 330=>91 | 334=>92 | 335=>93 | 336=>94 | 344=>102 | n=>n,fun | 31=>26 | 9=>9 | 3=>3 | 46=>65 | 0=>0 | 51=>112 | 53=>114 | 4=>4 | 183=>105 | 182=>104 | 131=>109 | 5=>5 | 218=>143 | 222=>147 | 228=>152 | 229=>153 | n=>n,fun | n=>n⟩
theorem Tryz.lays190:Go.Proofs.Lays.n190 Tryz.prog Tryz.lays190_ren:={
 mixed:=by kernel_rfl
 f125:=Tryz.func30.trans (congrArg some (by kernel_rfl))
 f128:=Tryz.func65.trans (congrArg some (by kernel_rfl))
 f129:=Tryz.func66.trans (congrArg some (by kernel_rfl))
 f190:=Tryz.func13.trans (congrArg some (by kernel_rfl))
 f258:=Tryz.func29.trans (congrArg some (by kernel_rfl))
 f302:=Tryz.func56.trans (congrArg some (by kernel_rfl))
 f303:=Tryz.func57.trans (congrArg some (by kernel_rfl))
 f304:=Tryz.func58.trans (congrArg some (by kernel_rfl))
 f305:=Tryz.func59.trans (congrArg some (by kernel_rfl))
 f306:=Tryz.func60.trans (congrArg some (by kernel_rfl))
 f307:=Tryz.func61.trans (congrArg some (by kernel_rfl))
 f308:=Tryz.func62.trans (congrArg some (by kernel_rfl))
 f309:=Tryz.func63.trans (congrArg some (by kernel_rfl))
 f310:=Tryz.func64.trans (congrArg some (by kernel_rfl))
 f329:=Tryz.func90.trans (congrArg some (by kernel_rfl))
 f330:=Tryz.func91.trans (congrArg some (by kernel_rfl))
 f333:=Tryz.func89.trans (congrArg some (by kernel_rfl))
 f334:=Tryz.func92.trans (congrArg some (by kernel_rfl))
 f335:=Tryz.func93.trans (congrArg some (by kernel_rfl))
 f336:=Tryz.func94.trans (congrArg some (by kernel_rfl))
 f344:=Tryz.func102.trans (congrArg some (by kernel_rfl))
 t0:=Tryz.underlying0
 a0:=Tryz.isAgg0
 z0:=Tryz.sizeOf0
 v0:=Tryz.zeroValue0
 t3:=Tryz.underlying3
 a3:=Tryz.isAgg3
 z3:=Tryz.sizeOf3
 v3:=Tryz.zeroValue3
 t4:=Tryz.underlying4
 a4:=Tryz.isAgg4
 z4:=Tryz.sizeOf4
 v4:=Tryz.zeroValue4
 t5:=Tryz.underlying5
 a5:=Tryz.isAgg5
 z5:=Tryz.sizeOf5
 v5:=Tryz.zeroValue5
 t9:=Tryz.underlying9
 a9:=Tryz.isAgg9
 z9:=Tryz.sizeOf9
 v9:=Tryz.zeroValue9
 t31:=Tryz.underlying26
 a31:=Tryz.isAgg26
 z31:=Tryz.sizeOf26
 v31:=Tryz.zeroValue26
 t46:=Tryz.underlying65
 a46:=Tryz.isAgg65
 z46:=Tryz.sizeOf65
 v46:=Tryz.zeroValue65
 t51:=Tryz.underlying112
 a51:=Tryz.isAgg112
 z51:=Tryz.sizeOf112
 v51:=Tryz.zeroValue112
 t53:=Tryz.underlying114
 a53:=Tryz.isAgg114
 z53:=Tryz.sizeOf114
 v53:=Tryz.zeroValue114
 t131:=Tryz.underlying109
 a131:=Tryz.isAgg109
 z131:=Tryz.sizeOf109
 v131:=Tryz.zeroValue109
 t182:=Tryz.underlying104
 a182:=Tryz.isAgg104
 z182:=Tryz.sizeOf104
 v182:=Tryz.zeroValue104
 t183:=Tryz.underlying105
 a183:=Tryz.isAgg105
 z183:=Tryz.sizeOf105
 v183:=Tryz.zeroValue105
 t218:=Tryz.underlying143
 a218:=Tryz.isAgg143
 z218:=Tryz.sizeOf143
 v218:=Tryz.zeroValue143
 t222:=Tryz.underlying147
 a222:=Tryz.isAgg147
 z222:=Tryz.sizeOf147
 v222:=Tryz.zeroValue147
 t228:=Tryz.underlying152
 a228:=Tryz.isAgg152
 z228:=Tryz.sizeOf152
 v228:=Tryz.zeroValue152
 t229:=Tryz.underlying153
 a229:=Tryz.isAgg153
 z229:=Tryz.sizeOf153
 v229:=Tryz.zeroValue153 }
open Go.Sort Go.RowKit in
theorem Tryz.slices_Sort_string (blk off cap:Nat) (ss:List (List UInt8)) (w:World) (hH:Holds encStr w blk off ss.toArray) (hblk:blk < w.heap.size) (hsz:ss.length < 4611686018427387904) :
 Calls Tryz.prog 13 #[.slice (some ⟨blk,off,none⟩) ss.length cap] w fun e w'=>
  e=.returned (.tuple #[])∧∃ n os,w'=grow (putRow encStr (Sort.ahead w n) blk off (ss.mergeSort fun x y=>decide (x≤y)).toArray) os:=Any.slices_Sort_string Tryz.lays190 blk off cap ss w hH hblk hsz
open Go.RowKit Go.Sort in
theorem Tryz.slices_Sort_string_none (p:Option Addr) (cap:Nat) (w:World) :
 Calls Tryz.prog 13 #[.slice p 0 cap] w fun e w'=>e=.returned (.tuple #[])∧w'=w:=Any.slices_Sort_string_none Tryz.lays190 p cap w
end Go.Proofs
namespace Go.Proofs.YtedopiahfejdfaaGreatDoor
open Go Go.RowKit
set_option maxRecDepth 100000
set_option maxHeartbeats 20000000
set_option linter.unusedVariables false
def Z3r (L:List ByteArray):List ByteArray:=((L.map fun s=>s.data.toList).mergeSort fun x y=>decide (x≤y)).map fun l=>⟨l.toArray⟩
theorem Z6r (L:List ByteArray):(Z3r L).length=L.length:=by simp [Z3r,List.length_mergeSort]
theorem Zbr {w w':World} {B g cap:Nat} {L:List ByteArray} (h:Zv w B (.slice (some ⟨g,0,none⟩) L.length cap) L)
 (hw:∃ n os,w'=Go.Sort.grow (Go.Sort.putRow Go.Proofs.encStr (Go.Sort.ahead w n) g 0 ((L.map fun s=>s.data.toList).mergeSort fun x y=>decide (x≤y)).toArray) os) :
 Zv w' B (.slice (some ⟨g,0,none⟩) L.length cap) (Z3r L)∧Below B w w'∧∀ k,k < w.heap.size→k≠g→w'.heap[k]?=w.heap[k]?:=by
 obtain ⟨n,os,rfl⟩:=hw;obtain ⟨D,hD⟩:=zX (((L.map fun s=>s.data.toList).mergeSort fun x y=>decide (x≤y)))
 rw [← hD];have hDl:D.length=L.length:=by rw [hD,List.length_mergeSort,Ym]
 have hsB:Z3r L=D.map fun l=>⟨l.toArray⟩:=by rw [hD]; rfl
 have hlt:=Y9 h g rfl;have hB:=hlt.1;have hgl:=hlt.2;have hblk:∀ k,k < w.heap.size→k≠g→(Go.Sort.grow (Go.Sort.putRow Go.Proofs.encStr (Go.Sort.ahead w n) g 0 D.toArray) os).heap[k]?=w.heap[k]?:=by
  intro k hk hne;rw [Go.Sort.heap_grow_old _ _ (by rw [Go.Sort.size_putRow]; exact hk)];show ((Go.Sort.ahead w n).heap.modify g _)[k]?=_;rw [Array.getElem?_modify,Y3 (fun e=>hne e.symm)];rfl
 refine ⟨?_,⟨rfl,rfl,rfl,by rw [Go.Sort.size_grow,Go.Sort.size_putRow]; exact Nat.le_add_right _ _,fun k hk=>hblk k (by omega) (by omega)⟩,hblk⟩;obtain ⟨h1,h2⟩:=h;rcases h2 with ⟨e,_⟩ | ⟨g',cap',cur,e,hb,hc,hn,hm,hs,ht⟩;·cases e
 simp only [Value.slice.injEq,Option.some.injEq,Addr.mk.injEq,and_true,true_and] at e;obtain ⟨rfl,rfl⟩:=e;unfold Zv;rw [Z6r];refine ⟨by rw [Ym,Z6r,Nat.mul_one],.inr ⟨g,cap,Go.Sort.putCells Go.Proofs.encStr 0 D.toArray cur,rfl,hb,?_,hn,hm,by simp [Go.Sort.putCells,hs],?_⟩⟩
 ·rw [Go.Sort.heap_grow_old _ _ (by rw [Go.Sort.size_putRow]; exact hgl)];show ((Go.Sort.ahead w n).heap.modify g _)[g]?=_;rw [Array.getElem?_modify,Y5 rfl];show (w.heap[g]?).map _=_;rw [hc];rfl
 ·rw [hsB];apply List.ext_getElem?;intro i;rw [List.getElem?_take, Yg, Yg];by_cases hi : i < L.length * 1
  ·rw [Y5 hi];have hi2 : i < D.length := by omega
   have hi3:i < cur.size:=by rw [hs]; omega
   rw [Array.getElem?_toList];simp only [Go.Sort.putCells,Array.getElem?_mapIdx];rw [Array.getElem?_eq_getElem hi3,Y6 hi2];simp only [Option.map_some,Option.some.injEq];rw [Y5 ⟨Yh _,by simp; omega⟩];simp [Go.Proofs.encStr,getElem!_pos,hi2]
  ·rw [Y3 hi,List.getElem?_eq_none (by omega)];rfl
theorem Z9p {w:World} {B g cap:Nat} {L:List ByteArray} (h:Zv w B (.slice (some ⟨g,0,none⟩) L.length cap) L):Go.Sort.Holds Go.Proofs.encStr w g 0 (L.map fun s=>s.data.toList).toArray:=by
 obtain ⟨_,h2⟩:=id h;have hfz:∀ o,w.frozen? ⟨g,o,none⟩=false:=by
  rcases h2 with ⟨e,_⟩ | ⟨g',cap',cur,e,hb,hc,_⟩;·cases e
  simp only [Value.slice.injEq,Option.some.injEq,Addr.mk.injEq,and_true,true_and] at e;obtain ⟨rfl,rfl⟩:=e;intro o;simp [World.frozen?,hc]
 intro j hj;have hj2:j < L.length:=by simpa using hj
 refine ⟨?_,hfz _⟩;rw [Nat.zero_add,h.cells rfl (Y6 hj2)];simp [Go.Proofs.encStr,getElem!_pos,hj2]
theorem Zes (w0:World) (ob B:Nat):∀ m,Z8c w0 ob B m:=by
 intro m;induction m with
 | zero=>intro a w v kv L K body hm; obtain ⟨b,vv,k,t,n,ks⟩:=a; simp [ATree.many] at hm
 | succ m ih =>
   intro a w v kv L K body hm hmx hA hT hO hK hKb hLb;by_cases h23:a.kind=23;·exact Zc1 a w v kv L K body h23 hT hO hK hLb
   by_cases h5:a.kind=5∨a.kind=37
   ·obtain ⟨x,y,hk⟩:=Zfr (hA.self.two (by omega));exact Zdr ih a w v kv L K body hm hmx hA hT hO hK hKb hLb h5 hk
   exact Zcw ih a w v kv L K body hm hmx hA hT hO hK hKb hLb h23 (by omega) (by omega)
theorem Z65 (w:World) (B:Nat) (a:ATree) (hT:TreeAt w B a) (hA:WA a) (hmx:a.many≤100000) :
 Calls Tryz.prog 6 #[a.ptr] w fun e w'=>∃ v,e=.returned v∧Zv w' w.heap.size v (Z3r ((Z10 a [] true).foldl addL []))∧Below w.heap.size w w':=by
 obtain ⟨N,hN⟩:=zX ((Z10 a [] true).foldl addL [])
 have hNl:N.length≤a.many:=by
  rw [hN];have h1:=Z2z (Z10 a [] true) [];have h2:=Z52 a [] true;simp at h1;omega
 have hba:Below w.heap.size w (w.alloc (.cells #[.slice none 0 0] 26)):=(Y2 _ _).alloc (Y0 _) _;have hO:OS w w.heap.size (.slice none 0 0) [] (w.alloc (.cells #[.slice none 0 0] 26)):=⟨Y0 _,hba,heap_alloc_new w _,Zv.nil _ _⟩
 have HF:=lh (Zes w w.heap.size B a.many a _ (.slice none 0 0) (.slice none 0 0) [] [] true (Y0 _) hmx hA hT hO (KAt.nil0 _ _ _) (by simp; omega) (by simp; omega));unfold Z53 at HF;rw [← hN] at HF ⊢;have HS:=lh (fun (W:World) (g cap:Nat) (h:Zv W (w.heap.size + 1) (.slice (some ⟨g,0,none⟩) N.length cap) N)=>
  (Tryz.slices_Sort_string g 0 cap (N.map fun s=>s.data.toList) W (Z9p h) (Y9 h g rfl).2 (by rw [Ym]; omega)).mono fun e w' ⟨h1,h2⟩=>(⟨h1,Zbr h h2⟩:e=Ending.returned (.tuple #[])∧Zv w' (w.heap.size + 1) (.slice (some ⟨g,0,none⟩) N.length cap) (Z3r N)∧Below (w.heap.size + 1) W w'∧∀ k,k < W.heap.size→k≠g→w'.heap[k]?=W.heap[k]?))
 simp only [List.length_map] at HS;unfold ATree.ptr at HF ⊢;clear hN hba hO hT hA hmx hNl;go_enter Tryz.func6,Tryz.ntmps6
 go_wp2_with fail
 refine HF.out.mono ?_;rintro e w2 ⟨rfl,v2,ho2,_⟩;have c2:w2.cell? ⟨w.heap.size,0,none⟩=some v2:=by simp [World.cell?,ho2.cell]
 have HB2:=lh ho2.bel;have HCELL:=lh ho2.cell;have HR:=lh ho2.row;rcases ho2.row.form with ⟨h1,h2⟩ | ⟨g,cap,h1,_⟩
 ·subst h1;have HN0 := lh h2;have HSN := lh (Tryz.slices_Sort_string_none none 0 w2);clear ho2 HF HS h2;go_wp2_with fail
  refine HSN.out.mono ?_;rintro e w3 ⟨rfl,hw3⟩;rw [hw3];clear hw3 w3;go_wp2;go_ret;refine ⟨_,rfl,?_,HB2.out⟩;rw [HN0.out,show Z3r []=[] from by simp [Z3r]];exact Zv.nil _ _
 ·subst h1;have hne : g ≠ w.heap.size := by have := (Y9 ho2.row g rfl).1; omega
  have HNE:=lh hne;have HSZ:=lh ho2.lt;have HSN:=lh (HS.out w2 g cap ho2.row);obtain ⟨nn,hnn⟩:=zX N.length
  rw [← hnn] at c2 HSN;have HNN:=lh hnn;clear ho2 HF HS hne hnn;go_wp2_with fail
  refine HSN.out.mono ?_;rintro e w3 ⟨rfl,ht3,hb3,hf3⟩;have c3:w3.cell? ⟨w.heap.size,0,none⟩=some (.slice (some ⟨g,0,none⟩) nn cap):=(Yb (hf3 _ HSZ.out (fun e=>HNE.out e.symm))).trans c2;have HT3:=lh ht3;have HB3:=lh (HB2.out.trans (hb3.mono (Nat.le_succ _)));clear ht3 hb3 hf3 c2;go_wp2;go_ret;refine ⟨_,rfl,?_,HB3.out⟩;exact Zdh HT3.out (Nat.le_succ _)
end Go.Proofs.YtedopiahfejdfaaGreatDoor
namespace Go.Proofs.YtedopiahfejdfaaGreatDoor
open Go Go.RowKit
set_option maxRecDepth 100000
set_option maxHeartbeats 20000000
set_option linter.unusedVariables false
theorem Z5v (l:List ByteArray):∀ L:List ByteArray,L.Nodup→(l.foldl addL L).Nodup:=by
 induction l with
 | nil=>intro L h; exact h
 | cons s l ih=>intro L h; exact ih _ (Z7p h)
theorem Z7f (l:List ByteArray):∀ (L:List ByteArray) (x:ByteArray),x∈l.foldl addL L↔x∈L∨x∈l:=by
 induction l with
 | nil=>intro L x; simp
 | cons s l ih =>
   intro L x;simp only [List.foldl_cons,List.mem_cons];rw [ih];constructor
   ·rintro (h | h)
    ·rcases Z5w h with h | h;·exact .inl h
     ·exact .inr (.inl h)
    ·exact .inr (.inr h)
   ·rintro (h | rfl | h);·exact .inl (Z4p h)
    ·exact .inl (Z4l _ _)
    ·exact .inr h
end Go.Proofs.YtedopiahfejdfaaGreatDoor
namespace Go.Proofs.YtedopiahfejdfaaGreatDoor
open Go Go.RowKit
set_option maxRecDepth 100000
set_option maxHeartbeats 20000000
set_option linter.unusedVariables false
structure Win (T b:ByteArray) (o:Nat):Prop where
 size:o + b.size≤T.size
 get:∀ i,i < b.size→T.data.getD (o + i) 0=b.data.getD i 0
 stop:o + b.size < T.size→Zn (Z2 T (o + b.size))=true
theorem Win.byte {T b:ByteArray} {o:Nat} (h:Win T b o) {i:Nat} (hi:i < b.size):Z2 T (o + i)=Z2 b i:=by
 unfold Z2;rw [h.get i hi]
theorem Win.past {T b:ByteArray} {o:Nat} (h:Win T b o):Z2 T (o + b.size)=0∨Z2 T (o + b.size)=32∨Z2 T (o + b.size)=10:=by
 rcases Nat.lt_or_ge (o + b.size) T.size with h1 | h1
 ·have:=h.stop h1;simp only [Zn,Bool.or_eq_true,decide_eq_true_eq] at this;exact .inr this
 ·exact .inl (Z2e h1)
theorem Win.span {T b:ByteArray} {o:Nat} (h:Win T b o) (p:Int→Bool) (hp:∀ c,Zn c=true→p c=false) {i:Nat} (hi:i≤b.size) :
 Z9 p T (T.size - (o + i)) (o + i)=o + Z9 p b (b.size - i) i:=by
 obtain ⟨s1,s2,s3,s4⟩:=Z02 p b (b.size - i) i (Y0 _) hi;have hs:=h.size;refine Z0t p T _ _ _ (Y0 _) (by omega) (by omega) (fun m h1 h2=>?_) fun h1=>?_
 ·have e:=h.byte (i:=m - o) (by omega);rw [show o + (m - o)=m by omega] at e;rw [e];exact s3 _ (by omega) (by omega)
 ·rcases Nat.lt_or_ge (Z9 p b (b.size - i) i) b.size with h2 | h2
  ·rw [h.byte h2];exact s4 h2
  ·have e : Z9 p b (b.size - i) i = b.size := by omega
   rw [e] at h1 ⊢;exact hp _ (h.stop h1)
theorem Win.blank {T b:ByteArray} {o:Nat} (h:Win T b o) {i:Nat} (hi:i≤b.size) (hk:Z9 Zn b (b.size - i) i < b.size) :
 Z9 Zn T (T.size - (o + i)) (o + i)=o + Z9 Zn b (b.size - i) i:=by
 obtain ⟨s1,s2,s3,s4⟩:=Z02 Zn b (b.size - i) i (Y0 _) hi;have hs:=h.size;refine Z0t Zn T _ _ _ (Y0 _) (by omega) (by omega) (fun m h1 h2=>?_) fun h1=>?_
 ·have e:=h.byte (i:=m - o) (by omega);rw [show o + (m - o)=m by omega] at e;rw [e];exact s3 _ (by omega) (by omega)
 ·rw [h.byte hk];exact s4 hk
theorem Win.num {T b:ByteArray} {o k:Nat} (h:Win T b o) (hk:k≤b.size):∀ (f i:Nat) (n:Int),numF T (o + k) f (o + i) n=numF b k f i n:=by
 intro f;induction f with
 | zero=>intro i n; rfl
 | succ f ih =>
   intro i n;simp only [numF];by_cases h1:i < k
   ·rw [Y5 (by omega),Y5 h1,h.byte (by omega),show o + i + 1=o + (i + 1) by omega];exact ih (i + 1) _
   ·rw [Y3 (by omega),Y3 h1]
theorem Win.cut {T b:ByteArray} {o j k:Nat} (h:Win T b o) (hk:k≤b.size):T.extract (o + j) (o + k)=b.extract j k:=by
 have hs:=h.size;apply ByteArray.ext;rw [ByteArray.data_extract,ByteArray.data_extract];have s1:T.data.size=T.size:=rfl;have s2:b.data.size=b.size:=rfl;apply Array.ext
 ·simp only [Array.size_extract];omega
 ·intro i h1 h2;simp only [Array.size_extract] at h1 h2;simp only [Array.getElem_extract];have e:=h.get (j + i) (by omega);simp only [Array.getD,dif_pos (show o + (j + i) < T.data.size by omega),dif_pos (show j + i < b.data.size by omega)] at e;simpa [Nat.add_assoc] using e
theorem Win.quoted {T b:ByteArray} {o:Nat} (h:Win T b o):∀ (f i:Nat) (acc bs:List UInt8) (k:Nat),Z04 b f i acc=(bs,0,k)→i < k∧k≤b.size∧∀ f',k - i≤f'→Z04 T f' (o + i) acc=(bs,0,o + k):=by
 intro f;induction f with
 | zero=>intro i acc bs k h1; simp [Z04] at h1
 | succ f ih =>
   intro i acc bs k h0;have hs:=h.size;simp only [Z04] at h0;by_cases h1:b.size≤i∨Z2 b i=10;·rw [Y5 h1] at h0; simp at h0
   rw [Y3 h1] at h0;simp only [not_or,Nat.not_le] at h1;have hb:=h.byte h1.1;by_cases h2:Z2 b i=39
   ·rw [Y5 h2] at h0;by_cases h3 : 500 < acc.length;·rw [Y5 h3] at h0; simp at h0
    rw [Y3 h3] at h0;simp only [Prod.mk.injEq,true_and] at h0;obtain ⟨rfl,rfl⟩:=h0;refine ⟨by omega,by omega,fun f' hf=>?_⟩;obtain ⟨g,rfl⟩:∃ g,f'=g + 1:=⟨f' - 1,by omega⟩
    simp only [Z04,hb];rw [Y3 (by omega),Y5 h2,Y3 h3,Nat.add_assoc]
   rw [Y3 h2] at h0;by_cases h3:Z2 b i=92
   ·rw [Y5 h3] at h0;by_cases h4 : i + 1 < b.size
    ·rw [Y5 h4] at h0;cases he : Z7h (Z2 b (i + 1)) with
     | none=>rw [he] at h0; simp at h0
     | some e =>
       rw [he] at h0;simp only at h0;obtain ⟨g1,g2,g3⟩:=ih (i + 2) _ bs k h0;refine ⟨by omega,g2,fun f' hf=>?_⟩;obtain ⟨g,rfl⟩:∃ g,f'=g + 1:=⟨f' - 1,by omega⟩
       have hb1:=h.byte h4;rw [← Nat.add_assoc] at hb1;simp only [Z04,hb,hb1];rw [Y3 (by omega),Y3 h2,Y5 h3,Y5 (by omega),he];simp only;rw [Nat.add_assoc];exact g3 g (by omega)
    ·rw [Y3 h4] at h0; simp at h0
   ·rw [Y3 h3] at h0;obtain ⟨g1, g2, g3⟩ := ih (i + 1) _ bs k h0;refine ⟨by omega, g2, fun f' hf => ?_⟩;obtain ⟨g, rfl⟩ : ∃ g, f' = g + 1 := ⟨f' - 1, by omega⟩
    simp only [Z04,hb,h.get i h1.1];rw [Y3 (by omega),Y3 h2,Y3 h3,Nat.add_assoc];exact g3 g (by omega)
theorem Win.signs {T b:ByteArray} {o:Nat} (h:Win T b o) {j:Nat} (hj:j < b.size):Zl T (o + j)=Zl b j:=by
 have hb:=h.byte hj;have hp:=h.past;unfold Zl;rw [hb];by_cases h1:j + 1 < b.size
 ·have hb1 := h.byte h1;rw [← Nat.add_assoc] at hb1;rw [hb1];by_cases h2 : j + 2 < b.size
  ·have hb2:=h.byte h2;rw [← Nat.add_assoc] at hb2;rw [hb2]
  ·have e : j + 2 = b.size := by omega
   have z:=Z2e (text:=b) (i:=j + 2) (by omega);rw [← e,← Nat.add_assoc] at hp;rw [z];have n61:Z2 T (o + j + 2)≠61:=by omega
   simp [n61]
 ·have e : j + 1 = b.size := by omega
  have z:=Z2e (text:=b) (i:=j + 1) (by omega);rw [← e,← Nat.add_assoc] at hp;rw [z];have n1:Z2 T (o + j + 1)≠61:=by omega
  have n2:Z2 T (o + j + 1)≠38:=by omega
  have n3:Z2 T (o + j + 1)≠124:=by omega
  simp [n1,n2,n3]
def Tok.shift (o:Nat) (t:Tok):Tok:={ t with at':=o + t.at' }
theorem Zbk {c:Int} (h:Zn c=true):Z1g c=false:=by
 cases hw:Z1g c with
 | false=>rfl
 | true=>rw [Z0n hw] at h; cases h
theorem Zac {c:Int} (h:Zn c=true):Z09 c=false:=by
 cases hw:Z09 c with
 | false=>rfl
 | true=>rw [Z0n (Z5a hw)] at h; cases h
theorem Win.tok {T b:ByteArray} {o:Nat} (h:Win T b o) {j k:Nat} {t:Tok} (hj:j < b.size) (ht:Z0g b j=.ok (t,k)):Z0g T (o + j)=.ok (t.shift o,o + k):=by
 have hb:=h.byte hj;obtain ⟨c1,c2,_⟩:=Z0o b hj ht;unfold Z0g at ht ⊢;rw [hb];by_cases hl:Z01 (Z2 b j)=true
 ·rw [Y5 hl] at ht ⊢;simp only at ht ⊢;rw [h.span Z1g (fun c => Zbk) (by omega)];obtain ⟨K, hK⟩ : ∃ K, Z9 Z1g b (b.size - j) j = K := ⟨_, rfl⟩
  obtain ⟨_,s2,_,_⟩:=Z02 Z1g b (b.size - j) j (Y0 _) (by omega);rw [hK] at ht s2 ⊢;rw [h.cut s2,show o + K - (o + j)=K - j by omega];split at ht
  ·simp only [Except.ok.injEq,Prod.mk.injEq] at ht;obtain ⟨rfl,rfl⟩:=ht;rw [Y5 (by assumption)];rfl
  ·split at ht;·cases ht
   ·simp only [Except.ok.injEq,Prod.mk.injEq] at ht;obtain ⟨rfl,rfl⟩:=ht;rw [Y3 (by assumption),Y3 (by assumption)];rfl
 rw [Y3 hl] at ht ⊢;by_cases hd:Z09 (Z2 b j)=true
 ·rw [Y5 hd] at ht ⊢;simp only at ht ⊢;rw [h.span Z09 (fun c => Zac) (by omega)];obtain ⟨K, hK⟩ : ∃ K, Z9 Z09 b (b.size - j) j = K := ⟨_, rfl⟩
  obtain ⟨_,s2,_,_⟩:=Z02 Z09 b (b.size - j) j (Y0 _) (by omega);rw [hK] at ht s2 ⊢;rw [show o + K - (o + j)=K - j by omega,h.num s2];split at ht;·cases ht
  ·split at ht;·cases ht
   ·simp only [Except.ok.injEq,Prod.mk.injEq] at ht;obtain ⟨rfl,rfl⟩:=ht;rw [Y3 (by assumption),Y3 (by assumption)];rfl
 rw [Y3 hd] at ht ⊢;by_cases hq:Z2 b j=39
 ·rw [Y5 hq] at ht ⊢;obtain ⟨⟨bs, e, K⟩, hR⟩ : ∃ R, R = Z0l b (j + 1) := ⟨_, rfl⟩
  rw [← hR] at ht;simp only at ht;by_cases h4:e=4;·rw [Y5 h4] at ht; cases ht
  rw [Y3 h4] at ht;by_cases h0:e≠0;·rw [Y5 h0] at ht; cases ht
  rw [Y3 h0] at ht;simp only [ne_eq,Decidable.not_not] at h0;subst h0;simp only [Except.ok.injEq,Prod.mk.injEq] at ht;obtain ⟨rfl,rfl⟩:=ht;obtain ⟨g1,g2,g3⟩:=h.quoted _ _ _ _ _ hR.symm;have hqa:Z0l T (o + j + 1)=(bs,0,o + K):=by
   have:=g3 (T.size + 1 - (o + j + 1)) (by have:=h.size; omega);rw [← Nat.add_assoc] at this;exact this
  rw [hqa];rfl
 rw [Y3 hq] at ht ⊢;rw [h.signs hj];by_cases hs:Zl b j=1∧Z5u (Z2 b j)=false;·rw [Y5 hs] at ht; cases ht
 rw [Y3 hs] at ht ⊢;simp only [Except.ok.injEq,Prod.mk.injEq] at ht;obtain ⟨rfl,rfl⟩:=ht;rw [Nat.add_assoc,h.cut c2];rfl
theorem Win.stand {T b:ByteArray} {o:Nat} (h:Win T b o) (he:T.size=o + b.size):∀ (r:List Tok) (i:Nat),i≤b.size→Z3y b i r→Z3y T (o + i) (r.map (Tok.shift o)):=by
 intro r;induction r with
 | nil=>intro i _ h1; exact h1.elim
 | cons t r ih =>
   intro i hi h1;obtain ⟨s1,s2,s3,s4⟩:=Z02 Zn b (b.size - i) i (Y0 _) hi;cases r with
   | nil =>
     obtain ⟨h2,h3⟩:=h1;have e:Z9 Zn b (b.size - i) i=b.size:=by omega
     have e2:Z9 Zn T (T.size - (o + i)) (o + i)=T.size:=by
      refine Z0t Zn T _ _ _ (Y0 _) (by omega) (Y0 _) (fun m h1 h2=>?_) fun h1=>by omega
      have e3:=h.byte (i:=m - o) (by omega);rw [show o + (m - o)=m by omega] at e3;rw [e3];exact s3 _ (by omega) (by omega)
     refine ⟨by rw [e2]; exact Y0 _,?_⟩;rw [e2,h3,e,he];rfl
   | cons u r =>
     obtain ⟨k,h2,h3,h4⟩:=h1;obtain ⟨c1,c2,_⟩:=Z0o b h2 h3;refine ⟨o + k,?_,?_,ih k c2 h4⟩;·rw [h.blank hi h2]; omega
     ·rw [h.blank hi h2];exact h.tok h2 h3
theorem Z3y.back {T:ByteArray} {i i':Nat} {r:List Tok} (h:Z3y T i' r) (hi:i≤i') (hi':i'≤T.size) (hb:∀ m,i≤m→m < i'→Zn (Z2 T m)=true):Z3y T i r:=by
 have e:Z9 Zn T (T.size - i) i=Z9 Zn T (T.size - i') i':=by
  obtain ⟨s1,s2,s3,s4⟩:=Z02 Zn T (T.size - i') i' (Y0 _) hi';refine Z0t Zn T _ _ _ (Y0 _) (by omega) s2 (fun m h1 h2=>?_) s4;rcases Nat.lt_or_ge m i' with h3 | h3;·exact hb m h1 h3
  ·exact s3 m h3 h2
 match r,h with
 | [t],h=>exact ⟨by rw [e]; exact h.1,by rw [e]; exact h.2⟩
 | t :: u :: l,⟨k,h1,h2,h3⟩=>exact ⟨k,by rw [e]; exact h1,by rw [e]; exact h2,h3⟩
theorem Win.join {T a:ByteArray} (h:Win T a 0) {r:List Tok} (hr:Z3y T (a.size + 1) r) (hs:a.size + 1≤T.size):∀ (l:List Tok) (e:Tok) (i:Nat),i≤a.size→Z3y a i (l ++ [e])→Z3y T i (l ++ r):=by
 intro l;induction l with
 | nil =>
   intro e i hi h1;obtain ⟨s1,s2,s3,s4⟩:=Z02 Zn a (a.size - i) i (Y0 _) hi;have h2:a.size≤Z9 Zn a (a.size - i) i:=h1.1;refine hr.back (by omega) hs (fun m h3 h4=>?_);rcases Nat.lt_or_ge m a.size with h5 | h5
   ·have e3:=h.byte h5;rw [Nat.zero_add] at e3;rw [e3];exact s3 m h3 (by omega)
   ·have e4 : m = a.size := by omega
    have:=h.stop (by omega);rw [Nat.zero_add] at this;rw [e4];exact this
 | cons t l ih =>
   intro e i hi h1;have key:∀ u q,l ++ [e]=u :: q→∃ k,Z9 Zn a (a.size - i) i < a.size∧Z0g a (Z9 Zn a (a.size - i) i)=.ok (t,k)∧Z3y a k (l ++ [e]):=by
    intro u q hq;rw [List.cons_append,hq] at h1;obtain ⟨k,h2,h3,h4⟩:=h1;exact ⟨k,h2,h3,by rw [hq]; exact h4⟩
   obtain ⟨u,q,hq⟩:∃ u q,l ++ [e]=u :: q:=by
    cases l with
    | nil=>exact ⟨_,_,rfl⟩
    | cons u q=>exact ⟨_,_,rfl⟩
   obtain ⟨k,h2,h3,h4⟩:=key u q hq;obtain ⟨c1,c2,_⟩:=Z0o a h2 h3;have hrec:=ih e k c2 h4;obtain ⟨u',q',hq'⟩:∃ u q,l ++ r=u :: q:=by
    cases l with
    | nil =>
      cases r with
      | nil=>exact hr.elim
      | cons u q=>exact ⟨_,_,rfl⟩
    | cons u q=>exact ⟨_,_,rfl⟩
   rw [List.cons_append,hq'];rw [hq'] at hrec;have hbl:=h.blank hi h2;simp only [Nat.zero_add] at hbl;have htk:=h.tok h2 h3;simp only [Nat.zero_add] at htk;have e5:t.shift 0=t:=by unfold Tok.shift; simp
   rw [e5] at htk;exact ⟨k,by rw [hbl]; have:=h.size; omega,by rw [hbl]; exact htk,hrec⟩
theorem Zc6 (a s b:ByteArray) (hs:s.size=1) (hb:Zn (Z2 s 0)=true):Win (a ++ s ++ b) a 0:=by
 have sz:(a ++ s ++ b).size=a.size + 1 + b.size:=by rw [ByteArray.size_append,ByteArray.size_append,hs]
 refine ⟨by omega,fun i hi=>?_,fun _=>?_⟩
 ·have h1:i < a.data.size:=hi;simp only [ByteArray.data_append,Nat.zero_add,Array.getD_eq_getD_getElem?];rw [Array.getElem?_append,Y5 (by simp; omega),Array.getElem?_append,Y5 h1]
 ·rw [Nat.zero_add];have e:Z2 (a ++ s ++ b) a.size=Z2 s 0:=by
   unfold Z2;have h1:a.data.size=a.size:=rfl;have h2:s.data.size=1:=hs;simp only [ByteArray.data_append,Array.getD_eq_getD_getElem?];rw [Array.getElem?_append,Y5 (by simp; omega),Array.getElem?_append,Y3 (by omega),h1,Nat.sub_self]
  rw [e];exact hb
theorem Zek (a s b:ByteArray) (hs:s.size=1):Win (a ++ s ++ b) b (a.size + 1):=by
 have sz:(a ++ s ++ b).size=a.size + 1 + b.size:=by rw [ByteArray.size_append,ByteArray.size_append,hs]
 refine ⟨by omega,fun i hi=>?_,fun h=>by omega⟩;have h1:a.data.size=a.size:=rfl;have h2:s.data.size=1:=hs;simp only [ByteArray.data_append,Array.getD_eq_getD_getElem?];rw [Array.getElem?_append,Y3 (by simp; omega)];simp only [Array.size_append,h1,h2];rw [show a.size + 1 + i - (a.size + 1)=i by omega]
theorem Zah {a s b:ByteArray} {l m:List Tok} {e:Tok} (hs:s.size=1) (hb:Zn (Z2 s 0)=true) (h1:Z2j a=.ok (l ++ [e])) (h2:Z2j b=.ok m) :
 Z2j (a ++ s ++ b)=.ok (l ++ m.map (Tok.shift (a.size + 1))):=by
 have sz:(a ++ s ++ b).size=a.size + 1 + b.size:=by rw [ByteArray.size_append,ByteArray.size_append,hs]
 have hB:=(Zek a s b hs).stand sz m 0 (Yh _) (Z33 h2);rw [Nat.add_zero] at hB;have hA:=(Zc6 a s b hs hb).join hB (by omega) l e 0 (Yh _) (Z33 h1);have:=Z8k (a ++ s ++ b) _ ((a ++ s ++ b).size + 1) 0 [] (Yh _) (by omega) hA;simpa [Z2j] using this
end Go.Proofs.YtedopiahfejdfaaGreatDoor
