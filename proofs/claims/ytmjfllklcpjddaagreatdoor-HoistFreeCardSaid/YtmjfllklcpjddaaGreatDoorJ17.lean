/- Package hoist: free, at a function. -/
import Derived.Test.YtmjfllklcpjddaaGreatDoorJ16
import Derived.Maps.RangeRun
namespace Go.Proofs.YtmjfllklcpjddaaGreatDoor
open Go Go.RowKit
set_option maxRecDepth 100000
set_option maxHeartbeats 20000000
set_option linter.unusedVariables false
set_option linter.unusedSimpArgs false
def KS (w:World) (B:Nat) (ao:Option Addr) (n:Nat) (K:List ByteArray) (v:Value) (K':List ByteArray):Prop:=(v=.slice ao n n∧K'=K)∨Zp w B v K'
theorem KS.bel {w w':World} {B n:Nat} {ao:Option Addr} {K K':List ByteArray} {v:Value} (h:KS w B ao n K v K') (g:Below w.heap.size w w'):KS w' B ao n K v K':=h.imp id fun h=>h.bel g
theorem Zan {w:World} {B B':Nat} {e:TypeId} {s n:Nat} {v:Value} {xs:List Value} (h:w.ownsRow B' e s v n xs) (hb:B≤B'):w.ownsRow B e s v n xs:=by
 refine ⟨h.1,?_⟩;rcases h.2 with h2 | ⟨g,cap,cur,h1,h3,h4⟩;·exact .inl h2
 ·exact .inr ⟨g,cap,cur,h1,Ya hb h3,h4⟩
theorem Zbx (w:World) (B:Nat) (ty:TypeId) {ao:Option Addr} {n:Nat} {K K':List ByteArray} {v:Value} (h:KS w B ao n K v K') (hn:n=K.length) (h0:ao=none→n=0) (hc:∀ b,ao=some b→∀ (j:Nat) u,(K.map Value.string)[j]?=some u→w.cell? (b.add j)=some u)
 (g:Nat) (str:ByteArray) (hg:w.cell? ⟨g,0,none⟩=some (.string str)) (hB:B≤w.heap.size) (hl:K'.length≤2000000000000) :
 ∃ v2 w2,(Builtin.append_ #[26,26] ty #[v,.slice (some ⟨g,0,none⟩) 1 1]).run Tryz.prog w=.ok v2 w2∧Zp w2 B v2 (K' ++ [str])∧Below B w w2:=by
 obtain ⟨i0,hi,hz0,hz1,hz2⟩:=info_parts Tryz.infoStr;have hnews:∀ (j:Nat) u,[Value.string str][j]?=some u→w.cell? ((⟨g,0,none⟩:Addr).add j)=some u:=by
  intro j u hu;rw [Z57];cases j with
  | zero=>simp at hu; subst hu; exact hg
  | succ j=>simp at hu
 have h1c:∀ u∈[Value.string str],u.oneCell'=true:=by intro u hu; simp at hu; subst hu; rfl
 have own:∀ n' xs,w.ownsRow B 9 1 v n' xs→n'=K'.length→xs=K'.map Value.string→∃ v2 w2,(Builtin.append_ #[26,26] ty #[v,.slice (some ⟨g,0,none⟩) 1 1]).run Tryz.prog w=.ok v2 w2∧Zp w2 B v2 (K' ++ [str])∧Below B w w2:=by
  intro n' xs ho e1 e2;obtain ⟨v',w',hrun,r1,r2,_⟩:=run_append_own (P:=Tryz.prog) w B 26 ty 9 i0 (.string ByteArray.empty) 1 16 Tryz.underlying26 hi hz0 hz1 hz2 rfl (by decide) v n' xs ho ⟨g,0,none⟩ 1 1 [.string str] rfl hnews h1c (by unfold maxLen; omega) (by omega) hB;exact ⟨v',w',hrun,Z51 (N:=[str]) (by rw [e2] at r1; exact r1) (by rw [e1]; rfl),(Y8 _ _).grown r2 hB fun j hj=>(Yh ho j hj).1⟩
 rcases h with ⟨rfl,rfl⟩ | h
 ·cases ao with
  | none =>
    obtain rfl:=h0 rfl;have e:K'=[]:=List.eq_nil_of_length_eq_zero hn.symm;exact own 0 [] (World.ownsRow_nil w _ _ _) (by rw [e]; rfl) (by rw [e]; rfl)
  | some b =>
    obtain ⟨v',w',hrun,r1,r2⟩:=run_append_arg_grows (P:=Tryz.prog) w 26 ty 9 i0 (.string ByteArray.empty) 1 16 Tryz.underlying26 hi hz0 hz1 hz2 rfl (by decide) b n n (K'.map Value.string) (by rw [Yv,hn,Nat.mul_one]) (hc b rfl) ⟨g,0,none⟩ 1 1 [.string str] rfl hnews (by omega) (by unfold maxLen; omega) (by omega);exact ⟨v',w',hrun,Z51 (N:=[str]) (Zan r1 hB) (by rw [hn]; rfl),(Z5c r2).mono hB⟩
 ·exact own _ _ h rfl rfl
theorem Z91 (w:World) (B:Nat) {o:Oper} {a:Act} {KK:Act→World→Prop} {Q:Exit→Act→World→Prop} (s x:Operand)
 (hop:o.op=Op.call { callee:=Callee.builtin Builtin.append,args:=#[s,x],argTypes:=#[26,26] })
 {ao:Option Addr} {n:Nat} {K K':List ByteArray} {v:Value} (h:KS w B ao n K v K') (hs:a.eval s=v) (hn:n=K.length) (h0:ao=none→n=0) (hc:∀ b,ao=some b→∀ (j:Nat) u,(K.map Value.string)[j]?=some u→w.cell? (b.add j)=some u)
 (g:Nat) (str:ByteArray) (hx:a.eval x=.slice (some ⟨g,0,none⟩) 1 1) (hg:w.cell? ⟨g,0,none⟩=some (.string str)) (hB:B≤w.heap.size) (hl:K'.length≤2000000000000)
 (hK:∀ v2 w2,Zp w2 B v2 (K' ++ [str])→Below B w w2→KK (a.put o.dst v2) w2):o.wp Tryz.prog a w KK Q:=by
 obtain ⟨v2,w2,hrun,h1,h2⟩:=Zbx w B o.type h hn h0 hc g str hg hB hl;unfold Oper.wp;simp [execOp,hop,resolve,invoke,builtin,hs,hx,hrun,Result.andThen];exact hK v2 w2 h1 h2
theorem Z5p (w:World) (B:Nat) {ops:Array Oper} {rest:List Oper} {o:Oper} {a:Act} {Q:Exit→Act→World→Prop} (hgd:o.guard=none) (s x:Operand)
 (hop:o.op=Op.call { callee:=Callee.builtin Builtin.append,args:=#[s,x],argTypes:=#[26,26] })
 {ao:Option Addr} {n:Nat} {K K':List ByteArray} {v:Value} (h:KS w B ao n K v K') (hs:a.eval s=v) (hn:n=K.length) (h0:ao=none→n=0) (hc:∀ b,ao=some b→∀ (j:Nat) u,(K.map Value.string)[j]?=some u→w.cell? (b.add j)=some u)
 (g:Nat) (str:ByteArray) (hx:a.eval x=.slice (some ⟨g,0,none⟩) 1 1) (hg:w.cell? ⟨g,0,none⟩=some (.string str)) (hB:B≤w.heap.size) (hl:K'.length≤2000000000000)
 (hK:∀ v2 w2,Zp w2 B v2 (K' ++ [str])→Below B w w2→wpList Tryz.prog ops Q rest (a.put o.dst v2) w2):wpList Tryz.prog ops Q (o :: rest) a w:=
 wpList_plain hgd fun KK hK'=>Z91 w B s x hop h hs hn h0 hc g str hx hg hB hl fun v2 w2 h1 h2=>hK' _ _ (hK v2 w2 h1 h2)
theorem Zja {w:World} {B:Nat} {a ps bd:ATree} (hT:TreeAt w B a) (hk:a.kids=[ps,bd]) :
 ∃ g cp p2 cp2, 2 ≤ cp ∧ cp ≤ 9223372036854775807 ∧ ps.kids.length ≤ cp2 ∧ cp2 ≤ 9223372036854775807 ∧ ∀ W, Below w.heap.size w W → W.cell? ⟨a.b, 3, none⟩ = some (.slice (some ⟨g, 0, none⟩) 2 cp) ∧ W.cell? ⟨g, 0, none⟩ = some (.pointer (some ⟨ps.b, 0, none⟩)) ∧ W.cell? ⟨g, 1, none⟩ = some (.pointer (some ⟨bd.b, 0, none⟩)) ∧
   W.cell? ⟨ps.b,3,none⟩=some (.slice p2 ps.kids.length cp2)∧W.cell? ⟨a.b,0,none⟩=some (.int .i64 a.kind)∧W.cell? ⟨a.b,1,none⟩=some (.string a.text)∧∀ j y,ps.kids[j]?=some y→∃ gg,p2=some ⟨gg,0,none⟩∧W.cell? ⟨gg,j,none⟩=some (.pointer (some ⟨y.b,0,none⟩))∧W.cell? ⟨y.b,1,none⟩=some (.string y.text):=by
 obtain ⟨g,cp,hv,hge,hmx⟩:∃ g cp,a.v=.slice (some ⟨g,0,none⟩) 2 cp∧2≤cp∧cp≤maxLen:=by
  obtain ⟨p,cp,hv,hge,hmx⟩:=hT.vOf;rw [hk] at hv hge;rcases Za hT.rowOf with ⟨_,h2⟩ | ⟨g,cap,h1,_⟩;·rw [hk] at h2; simp at h2
  ·have h3:=h1;rw [hv] at h3; simp only [Value.slice.injEq] at h3;refine ⟨g,cp,?_,hge,hmx⟩;rw [hv,h3.1]; rfl
 have mp:ps∈a.kids:=by rw [hk]; simp
 obtain ⟨p2,cp2,hv2,hge2,hmx2⟩:=(hT.kid mp).vOf;unfold maxLen at hmx hmx2;refine ⟨g,cp,p2,cp2,hge,hmx,hge2,hmx2,fun W q=>?_⟩;have hT:=hT.bel q;have hP:=hT.kid mp;have hrow:=hT.rowOf;refine ⟨by rw [← hv]; exact hT.c3,Zl hrow (g:=g) (by rw [hv]; rfl) (i:=0) (x:=ps.ptr) (by rw [hk]; rfl),Zl hrow (g:=g) (by rw [hv]; rfl) (i:=1) (x:=bd.ptr) (by rw [hk]; rfl),by rw [← hv2]; exact hP.c3,hT.c0,hT.c1,fun j y hy=>?_⟩;have hr2:=hP.rowOf;rcases Za hr2 with ⟨_,h2⟩ | ⟨gg,cap,h1,_⟩;·have:=(List.getElem?_eq_some_iff.1 hy).1; omega
 have hgg:p2=some ⟨gg,0,none⟩:=by
  rw [hv2] at h1; simp only [Value.slice.injEq] at h1; exact h1.1
 subst hgg;exact ⟨gg,rfl,Zl hr2 (g:=gg) (by rw [hv2]; rfl) (i:=j) (x:=y.ptr) (by rw [Yo,hy]; rfl),(hP.kid (Yl hy)).c1⟩
theorem Zhk {w0:World} {ob B m:Nat} (ih:Zax w0 ob B m) (a:ATree) (w:World) (v kv:Value) (L K:List ByteArray) (body:Bool) (hm:a.many≤m + 1) (hmx:a.many≤100000) (hA:WA a) (hT:TreeAt w0 B a) (hO:OS w0 ob v L w) (hK:KAt w ob v kv K) (hKb:K.length + a.many * 1000000≤1000000000000) (hLb:L.length + a.many≤1000000000)
 {ps bd:ATree} (h1:a.kind=5∨a.kind=37) (hk:a.kids=[ps,bd]) :
 Calls Tryz.prog 11 #[a.ptr,kv,.bool body,.pointer (some ⟨ob,0,none⟩)] w (Z77 w0 ob v L (Z3t a K body) w):=by
 have hTw:=hT.bel hO.bel;have mp:ps∈a.kids:=by rw [hk]; simp
 have mb:bd∈a.kids:=by rw [hk]; simp
 have hbm:bd.many < a.many:=Z1t mb;have hpm:ps.many < a.many:=Z1t mp;have hql:=Z22 ps;have hdef:Z3t a K body=Z3t bd (Zbw K a.kind a.text ps ++ [Zs]) true:=by
  obtain ⟨b,vv,k,t,n,ks⟩:=a;simp only [ATree.kind] at h1;simp only [ATree.kids] at hk;subst hk;rw [Z3t.eq_def];simp only [];rw [Y9 (by omega),Y9 (by omega),Yb h1];rfl
 rw [hdef];obtain ⟨g,cp,p2,cp2,hge,hcp,hge2,hcp2,hall⟩:=Zja hTw hk;obtain ⟨KF,hKF⟩:=zX (Zbw K a.kind a.text ps ++ [Zs])
 rw [← hKF];have hkl:(Zbw K a.kind a.text ps).length≤K.length + 100001:=by
  unfold Zbw;rw [Yq,Yv];split <;> simp <;> omega
 have HIH:=lh (fun (W:World) (kv2:Value) (o1:OS w0 ob v L W) (k1:KAt W ob v kv2 KF)=>
  ih bd W v kv2 L KF true (by omega) (by omega) (hA.kid mb) (hT.kid mb) o1 k1 (by rw [hKF,Yq]; simp; omega) (by omega))
 obtain ⟨ao,kc,hkv,hK0,hclip,hn0,hcells⟩:=hK.clip;subst hkv;have HK0:=lh hK0;have HO:=lh hO;have HCLIP:=lh hclip;obtain ⟨tx,htx⟩:=zX a.text
 obtain ⟨kd,hkd⟩:=zX a.kind
 rw [← htx] at hall hKF;rw [← hkd] at hall h1 hKF;obtain ⟨K1,hK1⟩:=zX (if kd=37∧tx≠ByteArray.empty then K ++ [tx] else K)
 obtain ⟨T,hTT⟩:=zX (ps.kids.map ATree.text)
 have hKF2:KF=K1 ++ T ++ [Zs]:=by rw [hKF,hK1,hTT]; rfl
 have HKF:=lh hKF2;have HTT:=lh hTT;obtain ⟨nK,hnK⟩:=zX K.length
 rw [← hnK] at HK0 HCLIP hn0 hKb ⊢;have HNK:=lh hnK;obtain ⟨q,hq⟩:=zX ps.kids.length
 rw [← hq] at hall hge2 hql;have HQ:=lh hq;have HNO:=lh hn0;have HOLD:=lh (fun (W:World) (q:Below w.heap.size w W) (b:Addr) (hb:ao=some b) (j:Nat) (u:Value) (hu:(K.map Value.string)[j]?=some u)=>show W.cell? (b.add j)=some u from by
  obtain ⟨s,hs,rfl⟩:=Zav hu;obtain ⟨ao2,cp2,e1,_,_,_,e5⟩:=HK0.out;simp only [Value.slice.injEq] at e1;obtain ⟨g,e6,hg,_,_,hc⟩:=e5 b (by rw [← e1.1]; exact hb);rw [e6,Z57];exact (Yj (q.block g hg)).trans (hc j s hs))
 have HALL:=lh hall;have hKb2:nK≤1000000000000:=by omega
 have hq1:q≤100000:=by omega
 have hT1:K1.length≤nK + 1:=by rw [hK1,hnK]; split <;> simp
 have HK1:=lh hK1;obtain ⟨_,_,_,_,c0,c1,_⟩:=hall w (Y8 _ _);unfold ATree.ptr at HIH ⊢;clear ih hA hT hO hK hKb hLb hTw mp mb hbm hpm hql hdef hK0 hclip hcells htx hkd hnK hq hn0 hall hm hmx hk hkl hKF hKF2 hTT hK1;have hcs:(kd=5∧K1=K)∨(kd=37∧(tx.toList == [])=true∧K1=K)∨(kd=37∧(tx.toList == [])=false∧K1=K ++ [tx]):=by
  rw [← show ByteArray.empty.toList=[] from by kernel_rfl,Z3h];rcases h1 with h | h;·exact .inl ⟨h,by rw [HK1.out,Y9 (by omega)]⟩
  ·by_cases e : tx = ByteArray.empty;·exact .inr (.inl ⟨h, Z2x.2 e, by rw [HK1.out, Y9 (fun h => h.2 e)]⟩)
   ·exact .inr (.inr ⟨h,by simp [Z0n,e],by rw [HK1.out,Yb ⟨h,e⟩]⟩)
 clear h1;rcases hcs with ⟨rfl,hE⟩ | ⟨rfl,hne3,hE⟩ | ⟨rfl,hne3,hE⟩
 iterate 2
  focus
   have HKS0:=lh (show KS w w.heap.size ao nK K (.slice ao nK nK) K1 from .inl ⟨rfl,hE⟩);clear hE;have HB0:=lh (Y8 w.heap.size w);go_enter Tryz.func11,Tryz.ntmps11
   go_wp2_with fail
   refine HCLIP.out.mono ?_;rintro e w' ⟨rfl,hww⟩;rw [hww];clear hww w';obtain ⟨c3,k0,k1,p3,_,_,_⟩:=HALL.out w (Y8 _ _);go_wp2_with fail
   refine Z28 fun wS hwS=>?_;have HKS:=lh (show KS wS w.heap.size ao nK K _ K1 from by rw [hwS]; exact HKS0.out);have HBS:=lh (show Below w.heap.size w wS from by rw [hwS]; exact HB0.out);clear hwS HKS0 HB0
  rotate_left
 focus
  have HB1:Hid (Below w.heap.size w (w.alloc (.cells #[.string tx] 9))):=lh ((Y8 _ _).alloc (Y5 _) _);have HKS0:=lh (show KS (w.alloc (.cells #[.string tx] 9)) w.heap.size ao nK K (.slice ao nK nK) K from .inl ⟨rfl,rfl⟩);have hcl:(w.alloc (.cells #[.string tx] 9)).cell? ⟨w.heap.size,0,none⟩=some (.string tx):=by simp
  have HKE:=lh hE;have hlK:K.length≤2000000000000:=by have:=HNK.out; omega
  clear hE;go_enter Tryz.func11,Tryz.ntmps11
  go_wp2_with fail
  refine HCLIP.out.mono ?_;rintro e w' ⟨rfl,hww⟩;rw [hww];clear hww w';go_wp2_with (at_builtin; (refine Z5p (w.alloc (.cells #[.string tx] 9)) w.heap.size rfl (.tmp 63) (.tmp 68) rfl HKS0.out rfl HNK.out HNO.out (HOLD.out _ HB1.out) w.heap.size tx rfl hcl HB1.out.size hlK ?_); intro v2 w2 ht2 hb2; have HT2:=lh ht2; have HB2:=lh (HB1.out.trans hb2); clear ht2 hb2; obtain ⟨c3,k0,k1,p3,_,_,_⟩:=HALL.out w2 HB2.out)
  refine Z28 fun wS hwS=>?_;have HKS:=lh (show KS wS w.heap.size ao nK K _ K1 from by rw [hwS,HKE.out]; exact .inr HT2.out);have HBS:=lh (show Below w.heap.size w wS from by rw [hwS]; exact HB2.out);clear hwS
 rotate_left
 all_goals
  go_loopw [1,80] (fun v i wr=>∃ (k:Nat) (v':Value),v'=v∧k≤q∧i=.int .i64 k∧Hid (KS wr w.heap.size ao nK K v' (K1 ++ T.take k))∧Hid (Below w.heap.size w wr)) (fun _ i _=>q - (intOf i).toNat)
  case atStart=>exact ⟨0,_,rfl,Yp _,rfl,lh (by simpa using HKS.out),HBS⟩
  case round=>
   obtain ⟨k,v',rfl,hk,rfl,HS,HB⟩:=hrel;obtain ⟨c3,k0,k1,p3,_,_,hpp⟩:=HALL.out wr HB.out;by_cases hkn:k < q
   ·obtain ⟨x, hx⟩ : ∃ x, ps.kids[k]? = some x := ⟨_, Yd (by rw [← HQ.out]; exact hkn)⟩
    obtain ⟨gg,rfl,cx,x1⟩:=hpp k x hx;have HB1:Hid (Below w.heap.size w (wr.alloc (.cells #[.string x.text] 9))):=lh (HB.out.alloc HB.out.size _);have HS1:Hid (KS (wr.alloc (.cells #[.string x.text] 9)) w.heap.size ao nK K v' (K1 ++ T.take k)):=lh (HS.out.bel ((Y8 _ _).alloc (Y5 _) _));have hcl:(wr.alloc (.cells #[.string x.text] 9)).cell? ⟨wr.heap.size,0,none⟩=some (.string x.text):=by simp
    have hlen:(K1 ++ T.take k).length≤2000000000000:=by rw [Yq,List.length_take]; omega
    have HTK:=lh (show K1 ++ T.take k ++ [x.text]=K1 ++ T.take (k + 1) from by
     have hTk:T[k]?=some x.text:=by rw [HTT.out,Yo,hx]; rfl
     obtain ⟨hkl,hke⟩:=List.getElem?_eq_some_iff.1 hTk;rw [List.take_succ_eq_append_getElem hkl,hke,List.append_assoc])
    clear hpp hx c3 k0 k1 p3;go_wp2_with (at_builtin; (refine Z5p (wr.alloc (.cells #[.string x.text] 9)) w.heap.size rfl (.tmp 84) (.tmp 89) rfl HS1.out rfl HNK.out HNO.out (HOLD.out _ HB1.out) wr.heap.size x.text rfl hcl HB1.out.size hlen ?_); intro v2 w2 ht2 hb2; have HT2:=lh ht2; have HB2:=lh (HB1.out.trans hb2); clear ht2 hb2)
    go_roundw
    case rel=>exact ⟨k + 1,_,rfl,by omega,by go_num,lh (by rw [← HTK.out]; exact .inr HT2.out),HB2⟩
    case measure=>simp [intOf]; omega
   ·have hk2 : k = q := by omega
    subst hk2;have hE:K1 ++ T.take k=K1 ++ T:=by rw [Ym (by rw [HTT.out,Yv,← HQ.out]; exact Y5 _)]
    rw [hE] at HS;have hab:a.b < wr.heap.size:=World.block_lt_of_cell? wr ⟨a.b,3,none⟩ c3;have hgb:g < wr.heap.size:=World.block_lt_of_cell? wr ⟨g,1,none⟩ k1;have HB1:Hid (Below wr.heap.size wr (wr.drew.alloc (.cells #[.string Zs] 9))):=lh ((Y8 _ _).drew.alloc (Y5 _) _);have HS1:=lh (HS.out.bel HB1.out);have hcl:(wr.drew.alloc (.cells #[.string Zs] 9)).cell? ⟨wr.heap.size,0,none⟩=some (.string Zs):=World.cell?_alloc_new wr.drew #[.string Zs] 9 0
    have hlen:(K1 ++ T).length≤2000000000000:=by rw [Yq,HTT.out,Yv,← HQ.out]; omega
    clear hpp hE k0 p3;go_wp2_with fail
    refine Z1 [(true,0),(true,1),(true,2),(true,3),(true,4),(true,5),(true,6),(true,9),(false,7),(false,8)] [10] (fun W=>W.cell? ⟨a.b,3,none⟩=some (.slice (some ⟨g,0,none⟩) 2 cp)∧W.cell? ⟨g,1,none⟩=some (.pointer (some ⟨bd.b,0,none⟩))) (by kernel_rfl) (by kernel_rfl) (fun _ _ d _ _ h=>by cases d <;> exact h) ⟨c3,k1⟩ (fun hS0=>?_);simp only [Zf,zD,zE,zF,zG,zH,zI]
    iterate 8
     first
      | (refine Z2 ?_ (by rfl) (fun w' hS'=>?_) ?_; rotate_left; (obtain ⟨s0,s1⟩:=hS'; go_simp; first | done | with_reducible rfl); simp only [Act.put,zA,zB,zC])
      | (refine Z3 (by rfl) ?_; simp only [Act.put,zA,zB,zC])
    refine Z5 (fun KK hK=>?_);go_simp
    refine hK _ _ ⟨(Yj (HB1.out.block a.b hab)).trans c3,(Yj (HB1.out.block g hgb)).trans k1⟩ ?_;clear hK KK;try simp only [Act.put,zA,zB,zC]
    refine Z5 (fun KK hK=>?_);rw [Yb (by rfl)];refine Z91 (wr.drew.alloc (.cells #[.string Zs] 9)) w.heap.size (.tmp 98) (.tmp 99) (by rfl) HS1.out (by rfl) HNK.out HNO.out (HOLD.out _ (HB.out.trans (HB1.out.mono HB.out.size))) wr.heap.size Zs (by rfl) hcl (HB.out.trans (HB1.out.mono HB.out.size)).size hlen ?_;intro v2 w2 ht2 hb2;have HB2:=lh ((HB.out.trans (HB1.out.mono HB.out.size)).trans hb2);obtain ⟨c3',_,k1',_,_,_,_⟩:=HALL.out w2 HB2.out;refine hK _ _ ⟨c3',k1'⟩ ?_
    have HKA:=lh (show KAt w2 ob v v2 KF from by rw [HKF.out]; exact KAt.texts ht2 HO.out.lt (fun g hg=>HO.out.own g hg));clear hK KK ht2 hb2 c3' k1';refine Z6 ?_;go_wp2_with fail
    refine (HIH.out w2 v2 (HO.out.below HB2.out) HKA.out).mono ?_;rintro e w3 ⟨rfl,v3,ho3,hf3⟩;have HO3:=lh ho3;have HF3:=lh ((Far.below HB2.out).trans hf3);clear ho3 hf3;go_wp2;refine bodyPost_ret (results_none rfl _ _ _) rfl ?_;exact ⟨rfl,v3,HO3.out,HF3.out⟩
end Go.Proofs.YtmjfllklcpjddaaGreatDoor
namespace Go.Proofs.YtmjfllklcpjddaaGreatDoor
open Go Go.RowKit
set_option maxRecDepth 100000
set_option maxHeartbeats 20000000
set_option linter.unusedVariables false
theorem TreeAt.two {w:World} {B:Nat} {x p b:ATree} (h:TreeAt w B x) (hk:x.kids=[p,b]):∃ g cp,w.cell? ⟨x.b,3,none⟩=some (.slice (some ⟨g,0,none⟩) 2 cp)∧w.cell? ⟨g,0,none⟩=some (.pointer (some ⟨p.b,0,none⟩))∧w.cell? ⟨g,1,none⟩=some (.pointer (some ⟨b.b,0,none⟩))∧2≤cp∧TreeAt w B p∧TreeAt w B b:=by
 have h3:=h.c3;have hr:Z0x w B x.v x.kids:=h.rowOf;rw [hk] at hr;rcases hr.form with ⟨_,h2⟩ | ⟨g,cap,h1,h2,_⟩;·cases h2
 ·rw [h1] at h3;exact ⟨g,cap,h3,hr.cell (b:=g) (by rw [h1]; rfl) (j:=0) rfl,hr.cell (b:=g) (by rw [h1]; rfl) (j:=1) rfl,h2,h.kid (by rw [hk]; simp),h.kid (by rw [hk]; simp)⟩
theorem Ziq {x p b:ATree} (hk:x.kids=[p,b]):p.many + b.many < x.many:=by
 obtain ⟨bb,v,k,t,n,ks⟩:=x;simp only [ATree.kids] at hk;subst hk;simp only [ATree.many,Z0w];omega
theorem Zdi (w:World) (B0:Nat) (x p b:ATree) (hT:TreeAt w B0 x) (hk:x.kids=[p,b]) (hmx:x.many≤100000) :
 Calls Tryz.prog 17 #[x.ptr] w fun e w'=>∃ v,e=.returned v∧Zp w' w.heap.size v (Z0o [] p.kids)∧Below w.heap.size w w':=by
 obtain ⟨g,cp,c3,c4,c5,hcp,hP,hB⟩:=hT.two hk;have hmp:p.kids.length≤100000:=by have h1:=Ziq hk; have h2:=Z22 p; omega
 have p3:=hP.c3;have hR:Z0x w B0 p.v p.kids:=hP.rowOf;obtain ⟨q,cq,hv,hqe,hqm⟩:=hP.vOf;rw [hv] at p3 hR;have HR:=lh hR;have HP:=lh hP;obtain ⟨m,hm⟩:=zX p.kids.length
 rw [← hm] at p3 HR hqe hmp;have HM:=lh hm;unfold maxLen at hqm;unfold ATree.ptr;clear hP hB hR hv hm hT hk hmx c5;go_enter Tryz.func17,Tryz.ntmps17
 go_wp2_with fail
 go_loopw [3,16] (fun v i wr=>∃ (k:Nat) (v':Value),v'=v∧k≤m∧i=.int .i64 k∧Hid (Zp wr w.heap.size v' (Z0o [] (p.kids.take k)))∧Hid (Below w.heap.size w wr)) (fun _ i _=>m - (intOf i).toNat)
 case atStart=>exact ⟨0,_,rfl,Yp _,rfl,lh (Zp.nil _ _),lh (Y8 _ _)⟩
 case round=>
  obtain ⟨k,v,rfl,hk,rfl,TX,HB⟩:=hrel;by_cases hkn:k < m
  ·obtain ⟨x, hx⟩ : ∃ x, p.kids[k]? = some x := ⟨_, Yd (by rw [← HM.out]; exact hkn)⟩
   have NO:=HR.out.bel HB.out;obtain ⟨g0,hp⟩:∃ g,q=some ⟨g,0,none⟩:=by
    rcases NO.form with ⟨_,h2⟩ | ⟨g,cap,h1,_⟩;·rw [h2] at hx; simp at hx
    ·simp only [Value.slice.injEq] at h1; exact ⟨g,h1.1⟩
   subst hp;have cx:=NO.cell rfl hx;have x1:=((HP.out.bel HB.out).kid (Yl hx)).c1;have HST:=lh (Z55 (l:=[]) hx);have hlm:(Z0o [] (p.kids.take k)).length < 1099511627776:=by
    have h1:=Z1m [] (p.kids.take k);have h2:(p.kids.take k).length≤p.kids.length:=by rw [List.length_take]; omega
    have h3:=HM.out;simp only [List.length_nil] at h1;omega
   have HA:=lh (Z4l wr w.heap.size v _ x.text TX.out HB.out.size hlm);clear NO hx hlm c3 c4 p3;go_wp2_with fail
   refine HA.out.mono ?_;rintro e w1 ⟨v1,rfl,ht,hb⟩;rw [← HST.out] at ht;have TX1:=lh ht;have HB1:=lh (HB.out.trans (hb.mono HB.out.size));clear ht hb HA;go_wp2;go_roundw
   case rel=>exact ⟨k + 1,_,rfl,by omega,by go_num,TX1,HB1⟩
   case measure=>simp [intOf]; omega
  ·have hk2 : k = m := by omega
   subst hk2;have hend:=TX.out;rw [Ym (by rw [← HM.out]; exact Y5 _)] at hend;have TE:=lh hend;clear hend TX c3 c4 p3;go_wp2;go_ret;exact ⟨_,rfl,TE.out,HB.out⟩
end Go.Proofs.YtmjfllklcpjddaaGreatDoor
namespace Go.Proofs.YtmjfllklcpjddaaGreatDoor
open Go Go.RowKit Go.ChangeMaps Go.MapKept
set_option maxRecDepth 100000
set_option maxHeartbeats 20000000
set_option linter.unusedVariables false
def SMap (w:World) (b:Nat) (g:ByteArray→Option Value):Prop:=
 ∃ es clock,w.heap[b]?=some (.map es clock)∧Stamped es clock∧(∀ x∈es.toList,IsKey .string x.key)∧∀ s v,g s=some v↔∃ x∈es.toList,x.key=.string s∧x.val=v
theorem SMap.made (w:World):SMap (w.alloc (.map #[] 0)) w.heap.size fun _=>none:=
 ⟨#[],0,(heap_alloc w _).1,stamped_empty 0,by simp,fun s v=>by simp⟩
theorem SMap.lt {w:World} {b:Nat} {g:ByteArray→Option Value} (h:SMap w b g):b < w.heap.size:=by
 obtain ⟨es,clock,hb,_⟩:=h;exact (Y6.1 hb).1
theorem SMap.kept {w w':World} {b:Nat} {g:ByteArray→Option Value} (h:SMap w b g) (hk:w'.heap[b]?=w.heap[b]?):SMap w' b g:=by
 obtain ⟨es,clock,hb,r⟩:=h;exact ⟨es,clock,hk.trans hb,r⟩
theorem SMap.bel {w w':World} {b:Nat} {g:ByteArray→Option Value} (h:SMap w b g) (k:Below w.heap.size w w'):SMap w' b g:=h.kept (k.block b h.lt)
theorem SMap.lookup {w:World} {b:Nat} {g:ByteArray→Option Value} (h:SMap w b g) {t e:TypeId} (ht:Tryz.prog.underlying t=some (.map 9 e)) {z:Value} (hz:(zeroValue e).run Tryz.prog w=.ok z w) (s:ByteArray) :
 (Instr.lookup t (.map (some b)) (.string s) false).run Tryz.prog w=.ok ((g s).getD z) w:=by
 obtain ⟨es,clock,hb,hst,hks,hg⟩:=h;have hk:IsKey .string (.string s):=trivial;unfold Instr.lookup;rcases findNow_spec hk es.toList 0 hks with ⟨h1,h2⟩ | ⟨j,e0,h1,h2,h3⟩
 ·have hn:g s=none:=by
   cases hgs:g s with
   | none=>rfl
   | some v =>
     obtain ⟨x,hx,h4,_⟩:=(hg s v).1 hgs;exact absurd h4 (h2 x hx)
  simp [run_underlying ht,Go.MapKept.run_getObj_map hb,run_checkKey Tryz.underlying9 hk,run_findKey Tryz.underlying9 h1,hz,hn,Result.andThen]
 ·have hn:g s=some e0.val:=(hg s _).2 ⟨e0,Yl h2,h3,rfl⟩;simp [run_underlying ht,Go.MapKept.run_getObj_map hb,run_checkKey Tryz.underlying9 hk,run_findKey Tryz.underlying9 h1,hn,Result.andThen]
theorem SMap.update {w:World} {b:Nat} {g:ByteArray→Option Value} (h:SMap w b g) {t e:TypeId} (ht:Tryz.prog.underlying t=some (.map 9 e)) (s:ByteArray) (v:Value) :
 ∃ w',(Instr.mapUpdate t (.map (some b)) (.string s) v).run Tryz.prog w=.ok () w'∧SMap w' b (fun x=>if x=s then some v else g x)∧w.grownBy w' (some b):=by
 obtain ⟨es,clock,hb,hst,hks,hg⟩:=h;have hk:IsKey .string (.string s):=trivial;rcases findNow_spec hk es.toList 0 hks with ⟨h1,h2⟩ | ⟨j,e0,h1,h2,h3⟩
 ·refine ⟨setBlock w b (.map (es.push ⟨.string s, v, clock⟩) (clock + 1)), ?_, ⟨_, _, heap_setBlock_same hb _, stamped_push hst h2, ?_, ?_⟩, ⟨rfl, rfl, rfl, by simp [setBlock], fun i _ hi => heap_setBlock_other hb _ (fun e => hi (by rw [e]))⟩⟩
  ·unfold Instr.mapUpdate;simp [run_underlying ht,Go.MapKept.run_getObj_map hb,run_checkKey Tryz.underlying9 hk,run_findKey Tryz.underlying9 h1,Go.MapKept.run_setObj_map _ hb,Result.andThen,setBlock]
  ·intro x hx;rw [Array.toList_push, List.mem_append, List.mem_singleton] at hx;rcases hx with hx | rfl;·exact hks x hx
   ·exact hk
  ·intro t v2;simp only [Array.toList_push, List.mem_append, List.mem_singleton];by_cases hts : t = s
   ·subst hts;rw [Yb rfl];constructor
    ·intro e;exact ⟨_,.inr rfl,rfl,Yk e⟩
    ·rintro ⟨x, hx | rfl, h4, h5⟩;·exact absurd h4 (h2 x hx)
     ·exact congrArg some h5
   ·rw [Y9 hts, hg];constructor
    ·rintro ⟨x,hx,h4⟩;exact ⟨x,.inl hx,h4⟩
    ·rintro ⟨x, hx | rfl, h4, h5⟩;·exact ⟨x, hx, h4, h5⟩
     ·exact absurd (Value.string.inj h4).symm hts
 ·rw [Nat.zero_add] at h1;have h2' : es[j]? = some e0 := by simpa using h2
  obtain ⟨f,hf⟩:∃ f:MapEntry→MapEntry,f=fun x=>{ x with key:=.string s,val:=v }:=⟨_,rfl⟩
  have hat:∀ i,(es.modify j f)[i]?=if j=i then (es[i]?).map f else es[i]?:=fun i=>by rw [Array.getElem?_modify]
  have hmem:∀ x,x∈(es.modify j f).toList↔∃ i,(if j=i then (es[i]?).map f else es[i]?)=some x:=fun x=>by
   rw [Array.mem_toList_iff,Array.mem_iff_getElem?];simp only [hat]
  have hkeyj:∀ e',es[j]?=some e'→(f e').key=e'.key:=fun e' he'=>by rw [h2'] at he'; cases he'; rw [hf]; exact h3.symm
  have hone:∀ i x,es[i]?=some x→x.key=.string s→i=j:=fun i x hi hx=>by
   have hnd:=hst.2.2;have hi':(es.toList.map (·.key))[i]?=some (.string s):=by rw [Yo,Array.getElem?_toList,hi,Option.map_some,hx]
   have hj':(es.toList.map (·.key))[j]?=some (.string s):=by rw [Yo,Array.getElem?_toList,h2',Option.map_some,h3]
   exact (List.getElem?_inj (List.getElem?_eq_some_iff.1 hi').1 hnd).1 (hi'.trans hj'.symm)
  refine ⟨setBlock w b (.map (es.modify j f) clock),?_,⟨_,_,heap_setBlock_same hb _,stamped_modify hst _ _ (fun _ _=>by rw [hf]) (fun e' _ he'=>hkeyj e' he'),?_,?_⟩,⟨rfl,rfl,rfl,by simp [setBlock],fun i _ hi=>heap_setBlock_other hb _ (fun e=>hi (by rw [e]))⟩⟩
  ·unfold Instr.mapUpdate;simp [run_underlying ht,Go.MapKept.run_getObj_map hb,run_checkKey Tryz.underlying9 hk,run_findKey Tryz.underlying9 h1,h2',h3,run_keyThatStays hk,Go.MapKept.run_setObj_map _ hb,Result.andThen,setBlock,hf]
  ·intro x hx;obtain ⟨i, hi⟩ := (hmem x).1 hx;by_cases hij : j = i
   ·rw [Yb hij] at hi;obtain ⟨y,_,rfl⟩:=Option.map_eq_some_iff.1 hi;rw [hf];exact hk
   ·rw [Y9 hij] at hi;exact hks x (Array.mem_toList_iff.2 (Array.mem_of_getElem? hi))
  ·intro t v2;show (if t = s then some v else g t) = some v2 ↔ _;by_cases hts : t = s
   ·subst hts;rw [Yb rfl];constructor
    ·intro e;refine ⟨f e0,(hmem _).2 ⟨j,by rw [Yb rfl,h2']; rfl⟩,by rw [hf],by rw [hf]; exact Yk e⟩
    ·rintro ⟨x, hx, h4, h5⟩;obtain ⟨i, hi⟩ := (hmem x).1 hx;by_cases hij : j = i
     ·rw [Yb hij] at hi;obtain ⟨y,_,rfl⟩:=Option.map_eq_some_iff.1 hi;rw [hf] at h5;exact congrArg some h5
     ·rw [Y9 hij] at hi;exact absurd (hone i x hi h4).symm hij
   ·rw [Y9 hts, hg];constructor
    ·rintro ⟨x,hx,h4,h5⟩;obtain ⟨i,hi⟩:=List.getElem?_of_mem hx;rw [Array.getElem?_toList] at hi;have hij:¬ j=i:=fun e=>by
      subst e;rw [h2'] at hi;cases hi;rw [h3] at h4;exact hts (Value.string.inj h4).symm
     exact ⟨x,(hmem x).2 ⟨i,by rw [Y9 hij]; exact hi⟩,h4,h5⟩
    ·rintro ⟨x, hx, h4, h5⟩;obtain ⟨i, hi⟩ := (hmem x).1 hx;by_cases hij : j = i
     ·rw [Yb hij] at hi;obtain ⟨y,_,rfl⟩:=Option.map_eq_some_iff.1 hi;rw [hf] at h4;exact absurd (Value.string.inj h4).symm hts
     ·rw [Y9 hij] at hi;exact ⟨x,Array.mem_toList_iff.2 (Array.mem_of_getElem? hi),h4,h5⟩
def hasV (l:List ByteArray) (s:ByteArray):Option Value:=if Lib.containsS l s then some (.bool true) else none
theorem Zjf (l:List ByteArray) (s:ByteArray):(fun x=>if x=s then some (Value.bool true) else hasV l x)=hasV (l ++ [s]):=by
 funext x
 unfold hasV;have e:Lib.containsS (l ++ [s]) x=(Lib.containsS l x || decide (x=s)):=by
  rw [Bool.eq_iff_iff,Lib.containsS_iff,Bool.or_eq_true,Lib.containsS_iff,decide_eq_true_eq];simp
 rw [e];by_cases h:x=s;·rw [Yb h,decide_eq_true h,Bool.or_true,Yb rfl]
 ·rw [Y9 h,decide_eq_false h,Bool.or_false]
end Go.Proofs.YtmjfllklcpjddaaGreatDoor
