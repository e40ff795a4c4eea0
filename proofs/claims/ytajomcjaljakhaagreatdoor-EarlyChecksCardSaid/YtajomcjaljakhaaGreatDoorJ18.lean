/- The document's Early: its walk: a function. -/
import Derived.Test.YtajomcjaljakhaaGreatDoorJ17
namespace Go.Proofs.YtajomcjaljakhaaGreatDoor
open Go Go.RowKit
set_option maxRecDepth 100000
set_option maxHeartbeats 20000000
set_option linter.unusedVariables false
theorem Zmb {a ps bd:ATree} (h:FT a.tree) (hk:a.kids=[ps,bd]) (h1:a.kind=5∨a.kind=37):Z0r bd=Zp bd.text Z03:=by
 obtain ⟨b,v,k,t,n,ks⟩:=a;simp only [ATree.tree] at h;simp only [ATree.kids] at hk;subst hk;obtain ⟨p,q,e,h6⟩:=h.1 (by simpa [ATree.kind] using h1);simp only [Z0o,List.cons.injEq,and_true] at e;obtain ⟨b2,v2,k2,t2,n2,ks2⟩:=bd;rw [← e.2] at h6;simp only [ATree.tree,Tree.kind] at h6;simp [Z0r,ATree.kind,h6]
theorem Zio {ks:List ATree} {l:List ByteArray} {x:ByteArray}:x∈Z19 l ks↔x∈l∨x∈ks.map ATree.text:=by
 induction ks generalizing l with
 | nil=>simp [Z19]
 | cons k ks ih =>
   show x∈Z19 (addL l k.text) ks↔_;rw [ih];constructor
   ·rintro (h | h)
    ·rcases Zdy h with h | h;·exact .inl h
     ·exact .inr (by simp [h])
    ·exact .inr (by simp at h ⊢; exact .inr h)
   ·rintro (h | h);·exact .inl (Zcd h)
    ·simp only [List.map_cons, List.mem_cons] at h;rcases h with rfl | h;·exact .inl (Zbj _ _)
     ·exact .inr h
theorem Zjj (ks:List ATree) (s:ByteArray):Lib.containsS (Z19 [] ks) s=Lib.containsS (ks.map ATree.text) s:=by
 rw [Bool.eq_iff_iff,Lib.containsS_iff,Lib.containsS_iff,Zio];simp
theorem Zbu {st:Bool} {T:List ByteArray} {k:Nat} {s:ByteArray} (h:T[k]?=some s):Z2o st (T.take k) (T.drop k)=if Z0x st s then 5 else if st && Lib.containsS (T.take k) s then 9 else Z2o st (T.take (k + 1)) (T.drop (k + 1)):=by
 obtain ⟨hk,he⟩:=List.getElem?_eq_some_iff.1 h;rw [List.drop_eq_getElem_cons hk,List.take_succ_eq_append_getElem hk,he];rfl
theorem Zeu (st:Bool) (t:ByteArray) (ps:List ByteArray) (bd:ATree) (K:Int):(if Z6q st t ps bd≠0 then Z6q st t ps bd else K) =
 if Z0x st t then 5 else if Z2o st [] ps≠0 then Z2o st [] ps else if (Z51 bd).any (fun s=>Lib.containsS ps s) then 9 else if Z2n bd true then 9 else K:=by
 unfold Z6q;by_cases h1:Z0x st t=true;·simp only [if_pos h1]; rfl
 simp only [if_neg h1];by_cases h2:Z2o st [] ps≠0;·simp only [if_pos h2]
 simp only [if_neg h2];by_cases h3:(Z51 bd).any (fun s=>Lib.containsS ps s)=true;·simp only [if_pos h3]; rfl
 simp only [if_neg h3];by_cases h4:Z2n bd true=true;·simp only [if_pos h4]; rfl
 simp only [if_neg h4];rfl
theorem Zh5 {T:List ByteArray} {j:Nat} {s t:ByteArray} (h:T[j]?=some s):Lib.containsS (T.take (j + 1)) t=(Lib.containsS (T.take j) t || Zp s t):=by
 obtain ⟨hk,he⟩:=List.getElem?_eq_some_iff.1 h;rw [Bool.eq_iff_iff,Bool.or_eq_true,Lib.containsS_iff,Lib.containsS_iff,Z0z,List.take_succ_eq_append_getElem hk,he,List.mem_append,List.mem_singleton];exact or_congr Iff.rfl eq_comm
theorem Zki {T:List ByteArray} {j k:Nat} {s:ByteArray} (h:T[j]?=some s) (hj:j < k):Lib.containsS (T.take k) s=true:=by
 rw [Lib.containsS_iff];exact Yl (i:=j) (by rw [List.getElem?_take_of_lt hj]; exact h)
def YF (kb sb ab:Nat) (a ps bd:ATree) (tx:ByteArray) (g cp:Nat) (p2:Option Addr) (q cp2:Nat) (pb:Option Addr) (nb cpb:Nat) (W:World):Prop:=
 W.cell? ⟨a.b,1,none⟩=some (.string tx)∧W.cell? ⟨a.b,3,none⟩=some (.slice (some ⟨g,0,none⟩) 2 cp)∧W.cell? ⟨g,0,none⟩=some (.pointer (some ⟨ps.b,0,none⟩))∧W.cell? ⟨g,1,none⟩=some (.pointer (some ⟨bd.b,0,none⟩)) ∧
 W.cell? ⟨ps.b,3,none⟩=some (.slice p2 q cp2)∧W.cell? ⟨bd.b,3,none⟩=some (.slice pb nb cpb)∧W.cell? ⟨sb,0,none⟩=some (.func (.func 16) #[] #[])∧W.cell? ⟨ab,0,none⟩=some (.func (.func 17) #[] #[.pointer (some ⟨kb,0,none⟩)])
theorem YIn.func {sb kb ab B m:Nat} {a ps bd:ATree} {w:World} (h:YIn sb kb ab B m a w) (hk:a.kids=[ps,bd]) :
 ∃ g cp p2 cp2 pb cpb, 2 ≤ cp ∧ cp ≤ 9223372036854775807 ∧ ps.kids.length ≤ cp2 ∧ cp2 ≤ 9223372036854775807 ∧ bd.v = .slice pb bd.kids.length cpb ∧
   ∀ W, Below w.heap.size w W → YF kb sb ab a ps bd a.text g cp p2 ps.kids.length cp2 pb bd.kids.length cpb W ∧ TreeAt W B a ∧ TreeAt W B bd ∧ EAt W sb kb ab ∧
     ∀ j y,ps.kids[j]?=some y→∃ gg,p2=some ⟨gg,0,none⟩∧W.cell? ⟨gg,j,none⟩=some (.pointer (some ⟨y.b,0,none⟩))∧W.cell? ⟨y.b,1,none⟩=some (.string y.text)∧y.b < W.heap.size:=by
 obtain ⟨g,hp⟩:∃ g,∃ cp,a.v=.slice (some ⟨g,0,none⟩) 2 cp∧2≤cp∧cp≤maxLen:=by
  obtain ⟨p,cp,hv,hge,hmx⟩:=h.t.vOf;rw [hk] at hv hge;rcases Zb h.t.rowOf with ⟨_,h2⟩ | ⟨g,cap,h1,_⟩;·rw [hk] at h2; simp at h2
  ·have h3:=h1;rw [hv] at h3; simp only [Value.slice.injEq] at h3;refine ⟨g,cp,?_,hge,hmx⟩;rw [hv,h3.1]; rfl
 obtain ⟨cp,hv,hge,hmx⟩:=hp;have mp:ps∈a.kids:=by rw [hk]; simp
 have mb:bd∈a.kids:=by rw [hk]; simp
 obtain ⟨p2,cp2,hv2,hge2,hmx2⟩:=(h.t.kid mp).vOf;obtain ⟨pb,cpb,hvb,_,_⟩:=(h.t.kid mb).vOf;unfold maxLen at hmx hmx2;refine ⟨g,cp,p2,cp2,pb,cpb,hge,hmx,hge2,hmx2,hvb,fun W q=>?_⟩;have hT:=h.t.bel q;have hP:=hT.kid mp;have hB:=hT.kid mb;have hE:=h.e.bel q;have hrow:=hT.rowOf
 refine ⟨⟨hT.c1,by rw [← hv]; exact hT.c3,Zi hrow (g:=g) (by rw [hv]; rfl) (i:=0) (x:=ps.ptr) (by rw [hk]; rfl),Zi hrow (g:=g) (by rw [hv]; rfl) (i:=1) (x:=bd.ptr) (by rw [hk]; rfl),by rw [← hv2]; exact hP.c3,by rw [← hvb]; exact hB.c3,hE.cells.1,hE.cells.2.2⟩,hT,hB,hE,fun j y hy=>?_⟩;have hr2:=hP.rowOf;rcases Zb hr2 with ⟨_,h2⟩ | ⟨gg,cap,h1,_⟩;·have:=(List.getElem?_eq_some_iff.1 hy).1; omega
 have hgg:p2=some ⟨gg,0,none⟩:=by
  rw [hv2] at h1; simp only [Value.slice.injEq] at h1; exact h1.1
 subst hgg;have hY:=hP.kid (Yl hy);exact ⟨gg,rfl,Zi hr2 (g:=gg) (by rw [hv2]; rfl) (i:=j) (x:=y.ptr) (by rw [Yo,hy]; rfl),hY.c1,hY.lt⟩
theorem Zla {sb kb ab B m:Nat} (hK:Z8c sb kb ab B m) (a:ATree) (w:World) (st ins:Bool) (h:YIn sb kb ab B m a w) {ps bd:ATree} (h1:a.kind=5∨a.kind=37) (hk:a.kids=[ps,bd]):Z5n sb ab a w st ins:=by
 have hdef:Z0p a st ins=if Z6q (st || Z0r bd) a.text (ps.kids.map ATree.text) bd≠0 then Z6q (st || Z0r bd) a.text (ps.kids.map ATree.text) bd else Z1c bd.kids (st || Z0r bd) true:=by
  obtain ⟨b,v,k,t,n,ks⟩:=a;simp only [ATree.kind] at h1;simp only [ATree.kids] at hk;subst hk;obtain ⟨b2,v2,k2,t2,n2,ks2⟩:=bd;rw [Z0p.eq_def];have e:¬ (k=2∨k=3∨k=4∨k=13):=by omega
  simp only [e,h1,if_false,if_true];rfl
 rw [Zeu,Zmb h.ft hk h1] at hdef;unfold Z5n;have mp:ps∈a.kids:=by rw [hk]; simp
 have mb:bd∈a.kids:=by rw [hk]; simp
 have hbm:bd.many < a.many:=Z2l mb;have hpm:ps.many < a.many:=Z2l mp;have hmm:=h.m;have hmx:=h.mx;have hql:=Z35 ps;have hqb:=Z35 bd;obtain ⟨g,cp,p2,cp2,pb,cpb,hge,hcp,hge2,hcp2,hvb,hall⟩:=h.func hk;have c0:=h.t.c0;have HPA:=lh (fun W (q:TreeAt W B a)=>Zd0 W B a ps bd q hk h.mx);have HST:=lh (fun W (q:TreeAt W B bd)=>Z9a W B bd q);have HTW:=lh (fun W (q:TreeAt W B bd)=>Z98 W B bd true q (by omega));have hL:=fun W (q:TreeAt W B bd)=>Z9t W B bd q (by omega)
 have HSP:=lh (fun (W:World) (s:ByteArray) (V S:Bool) (e:V=S)=>show Calls Tryz.prog 16 #[.string s,.bool V] W fun e w'=>e=.returned (.bool (Z0x S s))∧w'=W from by rw [e]; exact Z5h W S s);have HKI:=lh (fun (W:World) (V S:Bool) (e:V=S) (q:TreeAt W B bd) (r:EAt W sb kb ab)=>show Calls Tryz.prog 17 #[.slice pb bd.kids.length cpb,.bool V,.bool true,.pointer (some ⟨kb,0,none⟩)] W fun e w'=>e=.returned (.int .i64 (Z1c bd.kids S true))∧Below W.heap.size W w' from by
  rw [e];exact hK bd W S true pb cpb (by omega) (by omega) (fun k hk2=>⟨Ze6 (Ze6 h.wt mb) hk2,Ze9 (Ze9 h.ft mb) hk2⟩) q hvb r)
 obtain ⟨code,hcode⟩:=zX (Z0p a st ins)
 rw [← hcode];rw [hdef] at hcode;obtain ⟨ib,hib⟩:=zX (Zp bd.text Z03)
 rw [← hib] at HST hcode;obtain ⟨S,hS⟩:=zX ((st || ib))
 rw [← hS] at hcode;obtain ⟨tx,htx⟩:=zX a.text
 rw [← htx] at hall hcode;obtain ⟨T,hTT⟩:=zX (ps.kids.map ATree.text)
 have hHA:=fun s=>Zjj ps.kids s;rw [← hTT] at hcode;simp only [← hTT] at hHA;obtain ⟨P,hP⟩:=zX (bd.kids.filter Z2g)
 have hlT:Z51 bd=P.map ATree.text:=by rw [hP]; rfl
 rw [hlT] at hcode;have hPk:∀ x,x∈P→x∈bd.kids:=fun x hx=>by rw [hP] at hx; exact (List.mem_filter.1 hx).1
 simp only [← hP] at hL;have HL:=lh hL;have HPK:=lh hPk;have HHA:=lh hHA;have HTT:=lh hTT;obtain ⟨RP,hRP⟩:=zX (Z2o S [] T)
 obtain ⟨LB,hLB⟩:=zX ((P.map ATree.text).any (fun s=>Lib.containsS T s))
 obtain ⟨SB,hSB⟩:=zX (Z2n bd true)
 rw [← hRP,← hLB,← hSB] at hcode;rw [← hSB] at HTW;have HCODE:=lh hcode;have HRP:=lh hRP;have HLB:=lh hLB;obtain ⟨q,hq⟩:=zX ps.kids.length
 obtain ⟨nb,hnb⟩:=zX bd.kids.length
 rw [← hq] at hall hge2 hql;rw [← hnb] at hall HKI;have HQ:=lh hq;have HALL:=lh hall;obtain ⟨⟨c1,c3,k0,k1,p3,b3,s0,a0⟩,_,hTb,_,_⟩:=hall w (Y8 _ _);obtain ⟨kd,hkd⟩:=zX a.kind
 rw [← hkd] at c0 h1;have hq1:q≤9223372036854775807:=by omega
 have HTB:=lh hTb;unfold ATree.ptr at HPA HST HTW HL ⊢;clear hK h hk hdef mp mb hbm hpm hmm hmx hql hqb hvb hall hcode hib htx hTT hHA hP hlT hPk hL hRP hLB hSB hq hnb hTb hkd;cases st;rw [Bool.false_or] at hS;have HS:=lh hS.symm;rotate_left
 rw [Bool.true_or] at hS;have HS:=lh hS.symm;rotate_left
 all_goals clear hS
 rcases h1 with rfl | rfl;go_enter Tryz.func18,Tryz.ntmps18
 go_wp2_with fail
 refine (HST.out w HTB.out).mono ?_;rintro e w' ⟨rfl,hww⟩;rw [hww];clear hww w';go_wp2_with fail
 rotate_left
 go_enter Tryz.func18,Tryz.ntmps18
 go_wp2_with fail
 refine (HST.out w HTB.out).mono ?_;rintro e w' ⟨rfl,hww⟩;rw [hww];clear hww w';go_wp2_with fail
 rotate_left
 rcases h1 with rfl | rfl;go_enter Tryz.func18,Tryz.ntmps18
 go_wp2_with fail
 rotate_left
 go_enter Tryz.func18,Tryz.ntmps18
 go_wp2_with fail
 rotate_left
 all_goals
  clear HST c0;refine Z0 [(true,0),(true,1),(true,2),(true,3),(true,4),(true,5)] [6] (fun W=>W.cell? ⟨sb,0,none⟩=some (.func (.func 16) #[] #[])∧W.cell? ⟨a.b,1,none⟩=some (.string tx)) (by kernel_rfl) (by kernel_rfl) (fun _ _ d _ _ h=>by cases d <;> exact h) ⟨s0,c1⟩ (fun hS0=>?_);simp only [Za,zD,zE,zF,zG,zH,zI]
  iterate 6
   first
    | (refine Z1 ?_ (by rfl) (fun w' hS'=>?_) ?_; rotate_left; (obtain ⟨s0,s1⟩:=hS'; go_simp; first | done | with_reducible rfl); simp only [Act.put,zA,zB,zC])
    | (refine Z2 (by rfl) ?_; simp only [Act.put,zA,zB,zC])
  refine Z4 ?_;go_wp2_with fail
  refine (HSP.out _ tx _ _ HS.out).mono ?_;rintro e w2 ⟨rfl,hw2⟩;rw [hw2];clear hw2 w2;obtain ⟨bf,hbf⟩:=zX (Z0x S tx)
  rw [← hbf] at HCODE ⊢;clear hbf;have c3d:w.drew.cell? ⟨a.b,3,none⟩=some (.slice (some ⟨g,0,none⟩) 2 cp):=c3;have k0d:w.drew.cell? ⟨g,0,none⟩=some (.pointer (some ⟨ps.b,0,none⟩)):=k0;have p3d:w.drew.cell? ⟨ps.b,3,none⟩=some (.slice p2 q cp2):=p3;clear c1 c3 k0 k1 p3 b3 s0 a0;cases bf;rotate_left
  ·go_wp2;go_ret;exact ⟨by rw [HCODE.out]; rfl,(Y8 w.heap.size w).drew⟩
  go_wp2_with fail
  go_loopw [51] (fun i wr=>∃ (k:Nat),k≤q∧i=.int .i64 k∧Hid (Below w.heap.size w wr)∧Hid (Z2o S (T.take k) (T.drop k)=RP)) (fun i _=>q - (intOf i).toNat)
  case atStart=>exact ⟨0,Yp _,rfl,lh (Y8 w.heap.size w).drew,lh HRP.out.symm⟩
  case round=>
   obtain ⟨k,hk,rfl,HB,HR⟩:=hrel;obtain ⟨⟨c1,c3,k0,k1,p3,b3,s0,a0⟩,hTa,hTbd,hE,hpp⟩:=HALL.out _ HB.out;have HTA:=lh hTa;have HTBD:=lh hTbd;have HPP:=lh hpp;clear hTa hTbd hE hpp;by_cases hkn:k < q
   ·obtain ⟨x, hx⟩ : ∃ x, ps.kids[k]? = some x := ⟨_, Yd (by rw [← HQ.out]; exact hkn)⟩
    obtain ⟨gg,rfl,cx,x1,hxl⟩:=HPP.out k x hx;have hTk:T[k]?=some x.text:=by rw [HTT.out,Yo,hx]; rfl
    have hstep:=Zbu (st:=S) hTk;rw [HR.out] at hstep;obtain ⟨ty,hty⟩:=zX x.text
    rw [← hty] at x1 hstep;obtain ⟨bp,hbp⟩:=zX (Z0x S ty)
    rw [← hbp] at hstep;have HBP:=lh hbp;have STEP:=lh hstep;have HX:=lh hx;have HTY:=lh hty;clear hx hTk hstep hty hbp HR k1 b3 a0 c1;go_wp2_with fail
    refine Z0 [(true,0),(true,1),(true,2),(true,3),(true,4),(true,5)] [6] (fun W=>W.cell? ⟨sb,0,none⟩=some (.func (.func 16) #[] #[])∧W.cell? ⟨x.b,1,none⟩=some (.string ty)) (by kernel_rfl) (by kernel_rfl) (fun _ _ d _ _ h=>by cases d <;> exact h) ⟨s0,x1⟩ (fun hS0=>?_);simp only [Za,zD,zE,zF,zG,zH,zI]
    iterate 6
     first
      | (refine Z1 ?_ (by rfl) (fun w' hS'=>?_) ?_; rotate_left; (obtain ⟨s0,s1⟩:=hS'; go_simp; first | done | with_reducible rfl); simp only [Act.put,zA,zB,zC])
      | (refine Z2 (by rfl) ?_; simp only [Act.put,zA,zB,zC])
    refine Z4 ?_;go_wp2_with fail
    refine (HSP.out _ ty _ _ HS.out).mono ?_;rintro e w2 ⟨rfl,hw2⟩;rw [hw2,← HBP.out];clear hw2 w2 HBP;have c3d:wr.drew.cell? ⟨a.b,3,none⟩=some (.slice (some ⟨g,0,none⟩) 2 cp):=c3;have k0d:wr.drew.cell? ⟨g,0,none⟩=some (.pointer (some ⟨ps.b,0,none⟩)):=k0;have p3d:wr.drew.cell? ⟨ps.b,3,none⟩=some (.slice (some ⟨gg,0,none⟩) q cp2):=p3;clear c3 k0 p3 s0 cx x1;obtain ⟨wq,hwq⟩:=zX wr
    subst hwq;cases bp;rotate_left
    ·go_wp2;go_ret;refine ⟨?_,HB.out.drew⟩;have h1:=STEP.out;simp only [if_true] at h1;rw [HCODE.out,h1];rfl
    have hkc:k≤cp2:=by omega
    have hkc2:(k:Int)≤(cp2:Int):=by omega
    go_wp2_with fail
    go_loopw [75] (fun i wr=>∃ (j:Nat),j≤k∧i=.int .i64 j∧Hid (Below w.heap.size w wr)∧Hid ((S && Lib.containsS (T.take j) ty)=false)) (fun i _=>k - (intOf i).toNat)
    case atStart=>exact ⟨0,Yp _,rfl,lh HB.out.drew,lh (by rw [List.take_zero]; cases S <;> rfl)⟩
    case round=>
     obtain ⟨j,hj,rfl,HB2,HR2⟩:=hrel;obtain ⟨_,_,_,_,hpp2⟩:=HALL.out _ HB2.out;by_cases hjk:j < k
     ·obtain ⟨y, hy⟩ : ∃ y, ps.kids[j]? = some y := ⟨_, Yd (by rw [← HQ.out]; omega)⟩
      obtain ⟨g2,e2,cy,y1,_⟩:=hpp2 j y hy;cases e2;obtain ⟨g3,e3,_,x1,_⟩:=hpp2 k x HX.out;cases e3;obtain ⟨tz,htz⟩:=zX y.text
      have hTj:T[j]?=some tz:=by rw [HTT.out,Yo,hy,htz]; rfl
      rw [← htz] at y1;rw [← HTY.out] at x1;have HTJ:=lh hTj;clear hTj htz hpp2 hy;cases S
      ·have e := HS.out;cases e
       all_goals
        go_wp2_with fail
        refine Z0 [(true,0),(true,1),(true,2),(true,3),(true,4),(true,5),(true,6),(true,7),(true,8),(true,9)] [10,11] (fun W=>W.cell? ⟨y.b,1,none⟩=some (.string tz)∧W.cell? ⟨x.b,1,none⟩=some (.string ty)) (by kernel_rfl) (by kernel_rfl) (fun _ _ d _ _ h=>by cases d <;> exact h) ⟨y1,x1⟩ (fun hS0=>?_);simp only [Za,zD,zE,zF,zG,zH,zI]
        iterate 10
         first
          | (refine Z1 ?_ (by rfl) (fun w' hS'=>?_) ?_; rotate_left; (obtain ⟨s0,s1⟩:=hS'; go_simp; first | done | with_reducible rfl); simp only [Act.put,zA,zB,zC])
          | (refine Z2 (by rfl) ?_; simp only [Act.put,zA,zB,zC])
        refine Z4 ?_;go_wp2;go_roundw
        case rel=>exact ⟨j + 1,by omega,by go_num,lh HB2.out.drew,lh rfl⟩
        case measure=>simp [intOf]; omega
      ·have e := HS.out;cases e;obtain ⟨eb, heb⟩ := zX (Zp tz ty)
       have hq:(tz.toList == ty.toList)=eb:=by rw [Z1w,heb]
       have HEB:=lh heb;clear heb;cases eb
       ·go_wp2_with fail
        refine Z0 [(true,0),(true,1),(true,2),(true,3),(true,4),(true,5),(true,6),(true,7),(true,8),(true,9)] [10,11] (fun W=>W.cell? ⟨y.b,1,none⟩=some (.string tz)∧W.cell? ⟨x.b,1,none⟩=some (.string ty)) (by kernel_rfl) (by kernel_rfl) (fun _ _ d _ _ h=>by cases d <;> exact h) ⟨y1,x1⟩ (fun hS0=>?_);simp only [Za,zD,zE,zF,zG,zH,zI]
        iterate 10
         first
          | (refine Z1 ?_ (by rfl) (fun w' hS'=>?_) ?_; rotate_left; (obtain ⟨s0,s1⟩:=hS'; go_simp; first | done | with_reducible rfl); simp only [Act.put,zA,zB,zC])
          | (refine Z2 (by rfl) ?_; simp only [Act.put,zA,zB,zC])
        refine Z4 ?_;go_wp2;go_roundw
        case rel=>exact ⟨j + 1,by omega,by go_num,lh HB2.out.drew,lh (by
         have h1:=HR2.out;rw [Bool.true_and] at h1 ⊢;rw [Zh5 HTJ.out,h1,← HEB.out];rfl)⟩
        case measure=>simp [intOf]; omega
       ·go_wp2_with fail
        refine Z0 [(true,0),(true,1),(true,2),(true,3),(true,4),(true,5),(true,6),(true,7),(true,8),(true,9)] [10,11] (fun W=>W.cell? ⟨y.b,1,none⟩=some (.string tz)∧W.cell? ⟨x.b,1,none⟩=some (.string ty)) (by kernel_rfl) (by kernel_rfl) (fun _ _ d _ _ h=>by cases d <;> exact h) ⟨y1,x1⟩ (fun hS0=>?_);simp only [Za,zD,zE,zF,zG,zH,zI]
        iterate 10
         first
          | (refine Z1 ?_ (by rfl) (fun w' hS'=>?_) ?_; rotate_left; (obtain ⟨s0,s1⟩:=hS'; go_simp; first | done | with_reducible rfl); simp only [Act.put,zA,zB,zC])
          | (refine Z2 (by rfl) ?_; simp only [Act.put,zA,zB,zC])
        refine Z4 ?_;go_wp2;go_ret;refine ⟨?_,HB2.out.drew⟩;have h1:=STEP.out;rw [← Z0z.1 HEB.out.symm,Zki HTJ.out hjk] at h1;simp only [Bool.false_eq_true,if_false,Bool.and_self,if_true] at h1;rw [HCODE.out,h1];rfl
     ·have hj2 : j = k := by omega
      subst hj2;have h1:=STEP.out;rw [HR2.out] at h1;simp only [Bool.false_eq_true,if_false] at h1;have H1:=lh h1;clear h1 hpp2;go_wp2;go_roundw
      case rel=>exact ⟨j + 1,by omega,by go_num,HB2,lh H1.out.symm⟩
      case measure=>simp [intOf]; omega
   ·have hk2 : k = q := by omega
    subst hk2;have hrp:RP=0:=by
     have:=HR.out;have htl:T.length=k:=by rw [HTT.out,Yv,← HQ.out]
     rw [Ym (by omega),List.drop_of_length_le (by omega)] at this;rw [← this];rfl
    subst hrp;clear HR HRP HPP k0 p3 b3 s0 a0 c1;go_wp2_with fail
    refine (HL.out wr HTBD.out).mono ?_;rintro e w5 ⟨v5,rfl,hn5,hb5⟩;obtain ⟨p5,cp5,rfl,hge5,hmx5,hpp5⟩:=hn5.slice;have HB5:=lh (HB.out.trans (hb5.mono HB.out.size));have N5:=lh hn5;have HPP5:=lh hpp5;obtain ⟨zf,hzf⟩:=zX wr.heap.size
    rw [← hzf] at N5;obtain ⟨m2,hm1⟩:=zX P.length
    have hmq:m2≤9223372036854775807:=by unfold maxLen at hmx5; omega
    rw [← hm1] at hge5 N5 ⊢;have HM1:=lh hm1;clear hn5 hb5 hpp5 hzf hm1 hmx5 HB HTA HTBD c3 k1 HL;go_wp2_with fail
    go_loopw [101] (fun i wr=>∃ (k:Nat),k≤m2∧i=.int .i64 k∧Hid (Z0q wr zf (.slice p5 m2 cp5) P)∧Hid (Below w.heap.size w wr)∧Hid (∀ x∈P.take k,Lib.containsS T x.text=false)) (fun i _=>m2 - (intOf i).toNat)
    case atStart=>exact ⟨0,Yp _,rfl,N5,HB5,lh (by simp)⟩
    case round=>
     obtain ⟨k,hk,rfl,NO,HB,HF⟩:=hrel;clear N5 HB5;obtain ⟨⟨c1,c3,k0,k1,p3,b3,s0,a0⟩,hTa,hTbd,hE,_⟩:=HALL.out _ HB.out;clear c1 k0 p3 s0;by_cases hkn:k < m2
     ·obtain ⟨x, hx⟩ : ∃ x, P[k]? = some x := ⟨_, Yd (by rw [← HM1.out]; exact hkn)⟩
      obtain ⟨g0,hp⟩:=HPP5.out k x hx;subst hp;have cx:=NO.out.cell rfl hx;have x1:=(hTbd.kid (HPK.out x (Yl hx))).c1;obtain ⟨cb,hcb⟩:=zX (Lib.containsS T x.text)
      have HCB:=lh hcb;have HX:=lh hx;obtain ⟨ty,hty⟩:=zX x.text
      rw [← hty] at x1 hcb;have HHY:=lh ((HHA.out ty).trans hcb.symm);have HTA:=lh hTa;have HXB:=lh (hTbd.kid (HPK.out x (Yl hx)));have HTY:=lh hty;clear hx hcb hty hTbd hE c3 k1 b3 a0 hTa;go_wp2_with fail
      refine Z0 [(true,0),(true,2),(true,3),(true,4),(true,5),(false,1)] [6] (fun W=>W.cell? ⟨x.b,1,none⟩=some (.string ty)) (by kernel_rfl) (by kernel_rfl) (fun _ _ d _ _ h=>by cases d <;> exact h) x1 (fun hS0=>?_);simp only [Za,zD,zE,zF,zG,zH,zI]
      iterate 5
       first
        | (refine Z1 ?_ (by rfl) (fun w' hS'=>?_) ?_; rotate_left; (have s0:=hS'; go_simp; first | done | with_reducible rfl); simp only [Act.put,zA,zB,zC])
        | (refine Z2 (by rfl) ?_; simp only [Act.put,zA,zB,zC])
      refine Z6 (fun K hK=>?_);go_simp
      refine (HPA.out wr.drew (HTA.out.keep fun k _ _=>rfl)).mono ?_;rintro e w3 ⟨v3,rfl,ht3,hb3⟩;have hb4:Below wr.heap.size wr w3:=(Y8 wr.heap.size wr).drew.trans hb3;refine hK _ _ (by rw [HTY.out]; exact (HXB.out.bel hb4).c1) ?_;have HB4:=lh (HB.out.trans (hb4.mono HB.out.size));have NO4:=lh (NO.out.bel hb4);have HT3:=lh ht3;clear hK K hb3 hb4 ht3 HXB NO HB;refine Z4 ?_;go_wp2_with fail
      refine (Zde HT3.out ty).mono ?_;rintro e w4 ⟨rfl,hw4⟩;rw [hw4,HHY.out];clear hw4 w4 HHY;cases cb
      ·go_wp2;go_roundw
       case rel=>
        refine ⟨k + 1,by omega,by go_num,NO4,HB4,lh ?_⟩;intro y hy;obtain ⟨hkl,hke⟩:=List.getElem?_eq_some_iff.1 HX.out;rw [List.take_succ_eq_append_getElem hkl,List.mem_append] at hy;rcases hy with hy | hy;·exact HF.out y hy
        ·simp only [List.mem_singleton] at hy;rw [hy,hke];exact HCB.out.symm
       case measure=>simp [intOf]; omega
      ·go_wp2;go_ret;refine ⟨?_,HB4.out⟩;have h1:LB=true:=by
        rw [HLB.out,List.any_eq_true];exact ⟨x.text,List.mem_map.2 ⟨x,Yl HX.out,rfl⟩,HCB.out.symm⟩
       rw [HCODE.out,h1];rfl
     ·have hk2 : k = m2 := by omega
      subst hk2;have h1:LB=false:=by
       rw [HLB.out,List.any_eq_false];intro s hs;obtain ⟨y,hy,rfl⟩:=List.mem_map.1 hs;have:=HF.out y (by rw [Ym (by rw [← HM1.out]; exact Y5 _)]; exact hy);simp [this]
      subst h1;have HTB:=lh hTbd;clear hTbd hTa hE HF NO HLB;go_wp2_with fail
      refine (HTW.out wr HTB.out).mono ?_;rintro e w7 ⟨rfl,hb7⟩;have HB7:=lh (HB.out.trans (hb7.mono HB.out.size));obtain ⟨⟨_,c3,_,k1,_,b3,_,a0⟩,_,hTb7,hE7,_⟩:=HALL.out _ HB7.out;have HTB7:=lh hTb7;have HE7:=lh hE7;clear hb7 hTb7 hE7 HTB HB HTW;cases SB;rotate_left
      ·go_wp2;go_ret;exact ⟨by rw [HCODE.out]; rfl,HB7.out⟩
      go_wp2_with fail
      refine Z0 [(true,0),(true,1),(true,2),(true,3),(true,4),(true,5),(true,6),(true,7),(true,8),(true,9),(true,10)] [11,12] (fun W=>W.cell? ⟨ab,0,none⟩=some (.func (.func 17) #[] #[.pointer (some ⟨kb,0,none⟩)])∧W.cell? ⟨a.b,3,none⟩=some (.slice (some ⟨g,0,none⟩) 2 cp)∧W.cell? ⟨g,1,none⟩=some (.pointer (some ⟨bd.b,0,none⟩))∧W.cell? ⟨bd.b,3,none⟩=some (.slice pb nb cpb)) (by kernel_rfl) (by kernel_rfl) (fun _ _ d _ _ h=>by cases d <;> exact h) ⟨a0,c3,k1,b3⟩ (fun hS0=>?_)
      simp only [Za,zD,zE,zF,zG,zH,zI]
      iterate 11
       first
        | (refine Z1 ?_ (by rfl) (fun w' hS'=>?_) ?_; rotate_left; (obtain ⟨s0,s1,s2,s3⟩:=hS'; go_simp; first | done | with_reducible rfl); simp only [Act.put,zA,zB,zC])
        | (refine Z2 (by rfl) ?_; simp only [Act.put,zA,zB,zC])
      refine Z4 ?_;go_wp2_with fail
      refine (HKI.out w7.drew _ _ HS.out (HTB7.out.keep fun k _ _=>rfl) (HE7.out.bel (Y8 _ _).drew)).mono ?_;rintro e w8 ⟨rfl,hb8⟩;have HB8:Hid (Below w.heap.size w w8):=lh (HB7.out.drew.trans (hb8.mono HB7.out.size));clear hb8;go_wp2;go_ret;exact ⟨by rw [HCODE.out]; rfl,HB8.out⟩
theorem Z9j {l:List ATree} {n:Nat} (h:l.length=n + 1):∃ x r,l=x :: r:=by
 match l,h with
 | x :: r,_=>exact ⟨x,r,rfl⟩
theorem Z7v {l:List ATree} {n:Nat} (h:l.length=n) (hn:2≤n):∃ x r,l=x :: r∧1≤r.length:=by
 match l,h with
 | x :: r,h=>exact ⟨x,r,rfl,by simp at h; omega⟩
 | [],h=>simp at h; omega
theorem Zha (sb kb ab B:Nat):∀ m,Zll sb kb ab B m:=by
 intro m;induction m with
 | zero=>intro a w st ins hm; obtain ⟨b,v,k,t,n,ks⟩:=a; simp [ATree.many] at hm
 | succ m ih =>
   intro a w st ins hm hmx hWT hFT hT hE;have hK:Z8c sb kb ab B m:=Zei ih;have ha:=(Zkf a hWT).self;have h:YIn sb kb ab B m a w:=⟨hm,hmx,hWT,hFT,hT,hE⟩
   by_cases h2:a.kind=2∨a.kind=3∨a.kind=4;·exact Zlp hK a w st ins h h2
   by_cases h13:a.kind=13
   ·obtain ⟨x,r,hk⟩:=Z9j (ha.one (.inl h13));exact Zjb hK a w st ins h h13 hk
   by_cases h5:a.kind=5∨a.kind=37
   ·obtain ⟨x,y,hk⟩:=Zk6 (ha.two (by omega));exact Zla hK a w st ins h h5 hk
   by_cases h6:a.kind=6;·exact Ziv hK a w st ins h h6
   by_cases h7:a.kind=7∨a.kind=8∨a.kind=9
   ·obtain ⟨x,r,hk,hr⟩:∃ x r,a.kids=x :: r∧1≤r.length:=by
     by_cases h:a.kind=7
     ·rcases ha.if' h with h | h;·exact Z7v h (Y5 _)
      ·exact Z7v h (by omega)
     ·exact Z7v (ha.two (by omega)) (Y5 _)
    exact Zjx hK a w st ins h h7 hk hr
   by_cases h10:a.kind=10;·exact Zge hK a w st ins h h10
   by_cases h24:a.kind=24
   ·obtain ⟨x,r,hk⟩:=Z9j (ha.two (by omega));exact Zhx hK a w st ins h h24 hk
   by_cases h34:a.kind=34
   ·obtain ⟨x,r,hk⟩:=Z9j (ha.one (.inr h34));exact Zg8 hK a w st ins h h34 hk
   exact Zjn hK a w st ins h (by omega) (by omega) (by omega) h13 (by omega) (by omega) h6 (by omega) (by omega) (by omega) h10 h24 h34
def Zbv (w:World):World:=((w.alloc (.cells #[.func (.func 16) #[] #[]] 46)).alloc (.cells #[.func (.func 18) #[] #[.pointer (some ⟨w.heap.size,0,none⟩),.pointer (some ⟨w.heap.size + 1 + 1,0,none⟩)]] 30)).alloc (.cells #[.func (.func 17) #[] #[.pointer (some ⟨w.heap.size + 1,0,none⟩)]] 48)
theorem Zct (w:World):Below w.heap.size w (Zbv w)∧EAt (Zbv w) w.heap.size (w.heap.size + 1) (w.heap.size + 1 + 1):=by
 unfold Zbv;obtain ⟨A1,hA1⟩:=zX (w.alloc (.cells #[.func (.func 16) #[] #[]] 46))
 rw [← hA1];obtain ⟨A2,hA2⟩:=zX (A1.alloc (.cells #[.func (.func 18) #[] #[.pointer (some ⟨w.heap.size,0,none⟩),.pointer (some ⟨w.heap.size + 1 + 1,0,none⟩)]] 30))
 rw [← hA2];obtain ⟨A3,hA3⟩:=zX (A2.alloc (.cells #[.func (.func 17) #[] #[.pointer (some ⟨w.heap.size + 1,0,none⟩)]] 48))
 rw [← hA3];have s1:A1.heap.size=w.heap.size + 1:=by rw [hA1]; simp
 have s2:A2.heap.size=w.heap.size + 1 + 1:=by rw [hA2]; simp [s1]
 have old2:∀ k,k < A1.heap.size→A2.heap[k]?=A1.heap[k]?:=fun k hk=>by rw [hA2]; exact heap_alloc_old A1 _ hk
 have old3:∀ k,k < A2.heap.size→A3.heap[k]?=A2.heap[k]?:=fun k hk=>by rw [hA3]; exact heap_alloc_old A2 _ hk
 have b1:=heap_alloc_new w (.cells #[.func (.func 16) #[] #[]] 46);have b2:=heap_alloc_new A1 (.cells #[.func (.func 18) #[] #[.pointer (some ⟨w.heap.size,0,none⟩),.pointer (some ⟨w.heap.size + 1 + 1,0,none⟩)]] 30);have b3:=heap_alloc_new A2 (.cells #[.func (.func 17) #[] #[.pointer (some ⟨w.heap.size + 1,0,none⟩)]] 48);rw [← hA1] at b1;rw [← hA2,s1] at b2;rw [← hA3,s2] at b3;refine ⟨?_,(old3 _ (by omega)).trans ((old2 _ (by omega)).trans b1),(old3 _ (by omega)).trans b2,b3⟩;rw [hA3,hA2,hA1]
 exact (((Y8 _ _).alloc (Y5 _) _).alloc (by simp) _).alloc (by simp; omega) _
theorem Zgl {w:World} {b:Nat} {cs:Array Value} {t:TypeId} (h:w.heap[b]?=some (.cells cs t (0,0))) (o:Nat):w.frozen? ⟨b,o,none⟩=false:=by simp [World.frozen?,h]
theorem Z96 (W:World) (t:TypeId) (fn:Fn) (x y:Array Value):(store ⟨W.heap.size,0,none⟩ (.func fn x y)).run Tryz.prog (W.alloc (.cells #[.nilFunc] t))=.ok () (W.alloc (.cells #[.func fn x y] t)):=by
 have e1:(W.alloc (.cells #[.nilFunc] t)).cell? ⟨W.heap.size,0,none⟩=some .nilFunc:=World.cell?_alloc_new W #[.nilFunc] t 0;have e2:(W.alloc (.cells #[.nilFunc] t)).frozen? ⟨W.heap.size,0,none⟩=false:=Zgl (heap_alloc_new W _) 0;rw [run_store _ _ _ _ _ rfl,e1,e2];simp [World.setCell_alloc_new]
theorem Zcj (W:World) (t:TypeId) (o:Obj) (fn:Fn) (x y:Array Value):(store ⟨W.heap.size,0,none⟩ (.func fn x y)).run Tryz.prog ((W.alloc (.cells #[.nilFunc] t)).alloc o)=.ok () ((W.alloc (.cells #[.func fn x y] t)).alloc o):=by
 have hb:((W.alloc (.cells #[.nilFunc] t)).alloc o).heap[W.heap.size]?=some (.cells #[.nilFunc] t (0,0)):=(heap_alloc_old _ _ (by simp)).trans (heap_alloc_new W _);have e1:((W.alloc (.cells #[.nilFunc] t)).alloc o).cell? ⟨W.heap.size,0,none⟩=some .nilFunc:=by simp [World.cell?,hb]
 have e2:((W.alloc (.cells #[.nilFunc] t)).alloc o).frozen? ⟨W.heap.size,0,none⟩=false:=Zgl hb 0;have e3:=World.setCell_alloc_past (w:=W.alloc (.cells #[.nilFunc] t)) o W.heap.size 0 (.func fn x y) (by simp);rw [run_store _ _ _ _ _ rfl,e1,e2,e3];simp [World.setCell_alloc_new]
theorem Zhn (w:World) (B:Nat) (a:ATree) (st ins:Bool) (hT:TreeAt w B a) (hWT:WT a.tree) (hFT:FT a.tree) (h1:a.kind=1) (hmx:a.many≤100000) :
 Calls Tryz.prog 7 #[a.ptr,.bool st,.bool ins] w fun e w'=>e=.returned (.int .i64 (Z5r a st ins))∧Below w.heap.size w w':=by
 have hst:Z0r a=Zp a.text Z03:=by simp [Z0r,h1]
 obtain ⟨p,cp,hv,hge,hcp⟩:=hT.vOf;have HTW:=lh (fun W (h:TreeAt W B a)=>Z98 W B a true h hmx);have HST:=lh (fun W (h:TreeAt W B a)=>Z9a W B a h);have HK:=lh (fun (sb kb ab:Nat) (W:World) (S:Bool) (t:TreeAt W B a) (e:EAt W sb kb ab)=>Zei (Zha sb kb ab B a.many) a W S ins p cp (by omega) hmx (fun k hk=>⟨Ze6 hWT hk,Ze9 hFT hk⟩) t hv e);obtain ⟨code,hcode⟩:=zX (Z5r a st ins)
 rw [← hcode];unfold Z5r at hcode;rw [hst] at hcode;obtain ⟨ib,hib⟩:=zX (Zp a.text Z03)
 obtain ⟨SB,hSB⟩:=zX (Z2n a true)
 rw [← hib] at hcode HST;rw [← hSB] at hcode HTW;have HCODE:=lh hcode;have HT:=lh hT;obtain ⟨hbel,heat⟩:=Zct w;have hc3:∀ W,TreeAt W B a→W.cell? ⟨a.b,3,none⟩=some (.slice p a.kids.length cp):=fun W h=>by have:=h.c3; rwa [hv] at this
 obtain ⟨n,hn⟩:=zX a.kids.length
 rw [← hn] at HK hc3;have HC3:=lh hc3;have HBEL:=lh hbel;have HEAT:=lh heat;clear hT hWT hFT h1 hmx hst hv hge hcp hcode hib hSB hbel heat hc3 hn;unfold ATree.ptr at HTW HST ⊢;have hmf:∀ (fn:Fn) (first cap:Array Value) (w:World),(Instr.makeFunc fn first cap).run Tryz.prog w=.ok (.func fn first cap) w:=fun _ _ _ _=>rfl;obtain ⟨W3,hW3⟩:=zX (Zbv w)
 rw [← hW3] at HBEL HEAT;unfold Zbv at hW3;have HW3:=lh hW3;have r1:=Z96 w 46 (.func 16) #[] #[];have r2:=Z96 ((w.alloc (.cells #[.func (.func 16) #[] #[]] 46)).alloc (.cells #[.nilFunc] 30)) 48 (.func 17) #[] #[.pointer (some ⟨w.heap.size + 1,0,none⟩)];rw [World.size_alloc,World.size_alloc] at r2;have r3:=Zcj (w.alloc (.cells #[.func (.func 16) #[] #[]] 46)) 30 (.cells #[.func (.func 17) #[] #[.pointer (some ⟨w.heap.size + 1,0,none⟩)]] 48) (.func 18) #[] #[.pointer (some ⟨w.heap.size,0,none⟩),.pointer (some ⟨w.heap.size + 1 + 1,0,none⟩)];rw [World.size_alloc] at r3;clear hW3
 go_enter Tryz.func7,Tryz.ntmps7
 go_wp2_with fail
 rw [← HW3.out];refine (HTW.out W3 (HT.out.bel HBEL.out)).mono ?_;rintro e w4 ⟨rfl,hb4⟩;have HB4:=lh (HBEL.out.trans (hb4.mono HBEL.out.size));have HE4:=lh (HEAT.out.bel hb4);have HT4:=lh (HT.out.bel HB4.out);have a0:=HE4.out.cells.2.2;have c3:=HC3.out w4 HT4.out;clear hb4 r1 r2 r3 HTW;cases SB;rotate_left
 ·go_wp2;go_ret;exact ⟨by rw [HCODE.out]; rfl,HB4.out⟩
 cases st
 ·go_wp2_with fail
  refine Z0 [(true,0),(true,1),(true,2),(true,3),(true,4),(true,5),(true,6),(true,7),(true,10),(false,8),(true,9)] [11,12] (fun W=>W.cell? ⟨w.heap.size + 1 + 1,0,none⟩=some (.func (.func 17) #[] #[.pointer (some ⟨w.heap.size + 1,0,none⟩)])∧W.cell? ⟨a.b,3,none⟩=some (.slice p n cp)) (by kernel_rfl) (by kernel_rfl) (fun _ _ d _ _ h=>by cases d <;> exact h) ⟨a0,c3⟩ (fun hS0=>?_);simp only [Za,zD,zE,zF,zG,zH,zI]
  iterate 9
   first
    | (refine Z1 ?_ (by rfl) (fun w' hS'=>?_) ?_; rotate_left; (obtain ⟨s0,s1⟩:=hS'; go_simp; first | done | with_reducible rfl); simp only [Act.put,zA,zB,zC])
    | (refine Z2 (by rfl) ?_; simp only [Act.put,zA,zB,zC])
  refine Z6 (fun K hK=>?_);go_simp
  refine (HST.out w4.drew (HT4.out.keep fun k _ _=>rfl)).mono ?_;rintro e w5 ⟨rfl,hw5⟩;rw [hw5];clear hw5 w5;refine hK _ _ ⟨a0,c3⟩ ?_;clear hK K
  iterate 1
   first
    | (refine Z1 ?_ (by rfl) (fun w' hS'=>?_) ?_; rotate_left; (obtain ⟨s0,s1⟩:=hS'; go_simp; first | done | with_reducible rfl); simp only [Act.put,zA,zB,zC])
    | (refine Z2 (by rfl) ?_; simp only [Act.put,zA,zB,zC])
  refine Z4 ?_;go_wp2_with fail
  refine (HK.out _ _ _ w4.drew ib (HT4.out.keep fun k _ _=>rfl) (HE4.out.bel (Y8 _ _).drew)).mono ?_;rintro e w8 ⟨rfl,hb8⟩;have HB8:Hid (Below w.heap.size w w8):=lh (HB4.out.drew.trans (hb8.mono HB4.out.size));clear hb8;go_wp2;go_ret;exact ⟨by rw [HCODE.out]; rfl,HB8.out⟩
 ·go_wp2_with fail
  refine Z0 [(true,0),(true,1),(true,2),(true,3),(true,4),(true,5),(true,6),(true,7),(true,10),(false,8),(true,9)] [11,12] (fun W=>W.cell? ⟨w.heap.size + 1 + 1,0,none⟩=some (.func (.func 17) #[] #[.pointer (some ⟨w.heap.size + 1,0,none⟩)])∧W.cell? ⟨a.b,3,none⟩=some (.slice p n cp)) (by kernel_rfl) (by kernel_rfl) (fun _ _ d _ _ h=>by cases d <;> exact h) ⟨a0,c3⟩ (fun hS0=>?_);simp only [Za,zD,zE,zF,zG,zH,zI]
  iterate 9
   first
    | (refine Z1 ?_ (by rfl) (fun w' hS'=>?_) ?_; rotate_left; (obtain ⟨s0,s1⟩:=hS'; go_simp; first | done | with_reducible rfl); simp only [Act.put,zA,zB,zC])
    | (refine Z2 (by rfl) ?_; simp only [Act.put,zA,zB,zC])
  refine Z6 (fun K hK=>?_);go_simp
  refine hK _ _ ⟨a0,c3⟩ ?_;clear hK K
  iterate 1
   first
    | (refine Z1 ?_ (by rfl) (fun w' hS'=>?_) ?_; rotate_left; (obtain ⟨s0,s1⟩:=hS'; go_simp; first | done | with_reducible rfl); simp only [Act.put,zA,zB,zC])
    | (refine Z2 (by rfl) ?_; simp only [Act.put,zA,zB,zC])
  refine Z4 ?_;go_wp2_with fail
  refine (HK.out _ _ _ w4.drew true (HT4.out.keep fun k _ _=>rfl) (HE4.out.bel (Y8 _ _).drew)).mono ?_;rintro e w8 ⟨rfl,hb8⟩;have HB8:Hid (Below w.heap.size w w8):=lh (HB4.out.drew.trans (hb8.mono HB4.out.size));clear hb8;go_wp2;go_ret;exact ⟨by rw [HCODE.out]; rfl,HB8.out⟩
theorem Z2y {a b:ATree} (h:a.tree=b.tree):a.kind=b.kind∧a.text=b.text∧a.n=b.n∧Z0o a.kids=Z0o b.kids:=by
 cases a; cases b;simp only [ATree.tree,Tree.mk.injEq] at h;exact h
theorem Zhe {l m:List ATree} (h:Z0o l=Z0o m):l.length=m.length:=by
 have:=congrArg List.length h;rwa [Z25,Z25,Yv,Yv] at this
theorem Zj3 {l m:List ATree} {k:Nat} {x y:ATree} (h:Z0o l=Z0o m) (hx:l[k]?=some x) (hy:m[k]?=some y):x.tree=y.tree:=by
 rw [Z25,Z25] at h;have:=congrArg (fun r=>r[k]?) h;simp only [List.getElem?_map,hx,hy,Option.map_some,Option.some.injEq] at this;exact this
theorem Ziw (n0:Nat):∀ (a b:ATree),a.many≤n0→a.many≤100000→a.tree=b.tree→∀ (w:World) (B1 B2:Nat),TreeAt w B1 a→TreeAt w B2 b →
 Calls Tryz.prog 10 #[a.ptr,b.ptr] w fun e w'=>e=.returned (.bool true)∧Below w.heap.size w w':=by
 induction n0 with
 | zero=>intro a b h; cases a; simp [ATree.many] at h
 | succ n0 ih=>
 intro a b hn hmx hab w B1 B2 hT1 hT2;have HIH:=lh ih;obtain ⟨e1,e2,e3,e4⟩:=Z2y hab;have e5:=Zhe e4;obtain ⟨p,cp,hv,hge,hgm⟩:=hT1.vOf;obtain ⟨q,cq,hw,hhe,hhm⟩:=hT2.vOf;have a0:=hT1.c0;have a1:=hT1.c1;have a3:=hT1.c3;have b0:=hT2.c0;have b1:=hT2.c1;have b3:=hT2.c3;have a2:w.cell? ⟨a.b,2,none⟩=some (.int .i64 a.n):=by simp [World.cell?,hT1.blkOf]
 have b2:w.cell? ⟨b.b,2,none⟩=some (.int .i64 b.n):=by simp [World.cell?,hT2.blkOf]
 rw [← e1] at b0;rw [← e2] at b1;rw [← e3] at b2;rw [hv] at a3;rw [hw,← e5] at b3;rw [← e5] at hhe;have hkm:=Z35 a;have hlen:a.kids.length≤100000:=by omega
 have HT1:=lh hT1;have HT2:=lh hT2;have HV:=lh hv;have HW:=lh hw;have HE4:=lh e4;have HNN:=lh hn;have HMX:=lh hmx;unfold ATree.ptr;obtain ⟨n,hnn⟩:=zX a.kids.length
 rw [← hnn] at a3 b3 hge hhe hlen e5;have HN:=lh hnn;have HN2:=lh e5;obtain ⟨kd,hkd⟩:=zX a.kind
 obtain ⟨tx,htx⟩:=zX a.text
 obtain ⟨nn,hnv⟩:=zX a.n
 rw [← hkd] at a0 b0;rw [← htx] at a1 b1;rw [← hnv] at a2 b2;have hkk:(kd == kd)=true:=beq_self_eq_true _;have htt:(tx.toList == tx.toList)=true:=beq_self_eq_true _;have hvv:(nn == nn)=true:=beq_self_eq_true _;have hll:((n:Int) == (n:Int))=true:=beq_self_eq_true _;clear hab hn hmx e1 e2 e3 e4 e5 hv hw hkm hnn hkd htx hnv hT1 hT2 ih;go_enter Tryz.func10,Tryz.ntmps10
 go_wp2_with fail
 refine Z0 [(true,0),(true,1),(true,2),(true,3),(true,4),(true,5),(true,6),(true,7),(true,8),(true,9),(true,10),(true,11),(true,12),(true,13),(true,14),(true,15),(true,16),(true,17),(true,18),(true,19),(true,20),(true,21),(true,22),(true,23),(true,24),(true,25),(true,26),(true,27),(true,28),(true,29),(true,30),(true,31),(true,32),(true,33),(true,34),(true,35),(true,36),(true,37),(true,38),(true,39),(true,40),(true,41)] [42,43] (fun W=>W.cell? ⟨a.b,0,none⟩=some (.int .i64 kd)∧W.cell? ⟨b.b,0,none⟩=some (.int .i64 kd)∧W.cell? ⟨a.b,1,none⟩=some (.string tx)∧W.cell? ⟨b.b,1,none⟩=some (.string tx)∧W.cell? ⟨a.b,2,none⟩=some (.int .i64 nn)∧W.cell? ⟨b.b,2,none⟩=some (.int .i64 nn)∧W.cell? ⟨a.b,3,none⟩=some (.slice p n cp)∧W.cell? ⟨b.b,3,none⟩=some (.slice q n cq)) (by kernel_rfl) (by kernel_rfl) (fun _ _ d _ _ h=>by cases d <;> exact h) ⟨a0,b0,a1,b1,a2,b2,a3,b3⟩ (fun hS0=>?_)
 simp only [Za,zD,zE,zF,zG,zH,zI]
 iterate 42
  first
   | (refine Z1 ?_ (by rfl) (fun w' hS'=>?_) ?_; rotate_left; (obtain ⟨s0,s1,s2,s3,s4,s5,s6,s7⟩:=hS'; go_simp; first | done | with_reducible rfl); simp only [Act.put,zA,zB,zC])
   | (refine Z2 (by rfl) ?_; simp only [Act.put,zA,zB,zC])
 refine Z4 ?_;go_wp2_with fail
 go_loopw [64] (fun i wr=>∃ (k:Nat),k≤n∧i=.int .i64 k∧Hid (Below w.heap.size w wr)) (fun i _=>n - (intOf i).toNat)
 case atStart=>exact ⟨0,Yp _,rfl,lh (by repeat (first | exact Y8 _ _ | refine Below.drew ?_))⟩
 case round=>
  obtain ⟨k,hk,rfl,HB⟩:=hrel;by_cases hkn:k < n
  ·obtain ⟨x, hx⟩ : ∃ x, a.kids[k]? = some x := ⟨_, Yd (by rw [← HN.out]; exact hkn)⟩
   obtain ⟨y,hy⟩:∃ y,b.kids[k]?=some y:=⟨_,Yd (by rw [← HN2.out]; exact hkn)⟩
   have hTa:=HT1.out.bel HB.out;have hTb:=HT2.out.bel HB.out;have hra:=hTa.rowOf;have hrb:=hTb.rowOf;rcases Zb hra with ⟨_,h2⟩ | ⟨g0,cap0,hv0,_⟩;·rw [← HN.out] at h2; omega
   rcases Zb hrb with ⟨_,h2⟩ | ⟨g1,cap1,hv1,_⟩;·rw [← HN2.out] at h2; omega
   have hp:p=some ⟨g0,0,none⟩:=by
    have:=HV.out.symm.trans hv0;simp only [Value.slice.injEq] at this;exact this.1
   have hq:q=some ⟨g1,0,none⟩:=by
    have:=HW.out.symm.trans hv1;simp only [Value.slice.injEq] at this;exact this.1
   subst hp hq;have cx:=Zi hra (g:=g0) (by rw [hv0]; rfl) (i:=k) (x:=x.ptr) (by rw [Yo,hx]; rfl);have cy:=Zi hrb (g:=g1) (by rw [hv1]; rfl) (i:=k) (x:=y.ptr) (by rw [Yo,hy]; rfl);unfold ATree.ptr at cx cy;have j3:wr.cell? ⟨a.b,3,none⟩=some (.slice (some ⟨g0,0,none⟩) n cp):=(Yj (HB.out.block a.b HT1.out.lt)).trans a3;have l3:wr.cell? ⟨b.b,3,none⟩=some (.slice (some ⟨g1,0,none⟩) n cq):=(Yj (HB.out.block b.b HT2.out.lt)).trans b3;have hxm:=Z2l (Yl hx)
   have HC:=lh (fun (W:World) (hW:Below wr.heap.size wr W)=>HIH.out x y (by have:=HNN.out; omega) (by have:=HMX.out; omega) (Zj3 HE4.out hx hy) W B1 B2 ((hTa.kid (Yl hx)).bel hW) ((hTb.kid (Yl hy)).bel hW));unfold ATree.ptr at HC;clear hTa hTb hra hrb hv0 hv1 hx hy hxm a0 a1 a2 a3 b0 b1 b2 b3;go_wp2_with fail
   refine Z0 [(true,0),(true,1),(true,2),(true,3),(true,4),(true,5),(true,6),(true,7),(true,8),(true,9),(true,10),(true,11),(true,12),(true,13)] [14,15] (fun W=>W.cell? ⟨a.b,3,none⟩=some (.slice (some ⟨g0,0,none⟩) n cp)∧W.cell? ⟨b.b,3,none⟩=some (.slice (some ⟨g1,0,none⟩) n cq)∧W.cell? ⟨g0,k,none⟩=some (.pointer (some ⟨x.b,0,none⟩))∧W.cell? ⟨g1,k,none⟩=some (.pointer (some ⟨y.b,0,none⟩))) (by kernel_rfl) (by kernel_rfl) (fun _ _ d _ _ h=>by cases d <;> exact h) ⟨j3,l3,cx,cy⟩ (fun hS0=>?_)
   simp only [Za,zD,zE,zF,zG,zH,zI]
   iterate 14
    first
     | (refine Z1 ?_ (by rfl) (fun w' hS'=>?_) ?_; rotate_left; (obtain ⟨s0,s1,s2,s3⟩:=hS'; go_simp; first | done | with_reducible rfl); simp only [Act.put,zA,zB,zC])
     | (refine Z2 (by rfl) ?_; simp only [Act.put,zA,zB,zC])
   refine Z4 ?_;go_wp2_with fail
   refine (HC.out _ (by repeat (first | exact Y8 _ _ | refine Below.drew ?_))).mono ?_;rintro e w1 ⟨rfl,hb1⟩;have HB1:=lh (show Below w.heap.size w w1 from HB.out.trans (Below.mono (show Below wr.heap.size wr w1 from ((Y8 wr.heap.size wr).drew).trans hb1) HB.out.size));clear hb1 HC;go_wp2;go_roundw
   case rel=>exact ⟨k + 1,by omega,by go_num,HB1⟩
   case measure=>simp [intOf]; omega
  ·have hk2 : k = n := by omega
   subst hk2;go_wp2;go_ret;exact ⟨rfl,HB.out⟩
mutual
theorem Z94:∀ a:ATree,(a.subs.map ATree.b).Sublist a.blocks
 | .mk b v k t n ks => by
   simp only [ATree.subs,List.map_cons,ATree.b,ATree.blocks];exact List.Sublist.cons_cons _ ((Z86 ks).trans (by first | exact List.Sublist.refl _ | exact List.sublist_append_right _ _))
theorem Z86:∀ l:List ATree,((Z1r l).map ATree.b).Sublist (Zv l)
 | []=>by simp [Z1r]
 | a :: l => by
   simp only [Z1r,Zv,List.map_append];exact List.Sublist.append (Z94 a) (Z86 l)
end
theorem Got.apart {w w':World} {B:Nat} {a:ATree} {t:Tree} (h:Got w B w' a t):(a.subs.map ATree.b).Nodup:=h.nodup.sublist (Z94 a)
def Zgk (l:List (Nat×Nat)):Prop:=∀ (i:Nat) (x:Nat×Nat),l[i]?=some x→x.2=i
theorem Zgk.push {l:List (Nat×Nat)} (h:Zgk l) (b:Nat):Zgk (l ++ [(b,l.length)]):=by
 intro i x hx;rcases Nat.lt_or_ge i l.length with hi | hi
 ·rw [List.getElem?_append_left hi] at hx;exact h i x hx
 ·rw [List.getElem?_append_right hi] at hx;cases hd : i - l.length with
  | zero =>
    rw [hd] at hx;simp only [List.getElem?_cons_zero,Option.some.injEq] at hx;rw [← hx];simp only;omega
  | succ n=>rw [hd] at hx; simp at hx
mutual
theorem Zf7:∀ (a b:ATree),a.tree=b.tree→∀ l,Z5d Z27 a l=Z5d Z27 b l
 | .mk b1 v1 k1 t1 n1 ks1, .mk b2 v2 k2 t2 n2 ks2, h, l => by
   simp only [ATree.tree,Tree.mk.injEq] at h;obtain ⟨rfl,rfl,_,h⟩:=h;rw [Z6a,Z6a];have e1:Z31 (.mk b1 v1 k1 t1 n1 ks1)=Z31 (.mk b2 v2 k1 t1 n2 ks2):=rfl;have e2:ownV (.mk b1 v1 k1 t1 n1 ks1) l=ownV (.mk b2 v2 k1 t1 n2 ks2) l:=rfl;rw [e1,e2];simp only [ATree.kids];rw [Z6u ks1 ks2 h]
theorem Z6u:∀ (l1 l2:List ATree),Z0o l1=Z0o l2→∀ l,Z1v Z27 l1 l=Z1v Z27 l2 l
 | [],[],_,l=>rfl
 | [],_ :: _,h,_=>by simp [Z0o] at h
 | _ :: _,[],h,_=>by simp [Z0o] at h
 | a :: l1, b :: l2, h, l => by
   simp only [Z0o,List.cons.injEq] at h;simp only [Z1v];rw [Zf7 a b h.1,Z6u l1 l2 h.2]
end
theorem Zak {a b:ATree} (h:a.tree=b.tree):Z3w a=Z3w b:=Z6u _ _ (Z2y h).2.2.2 _
theorem Z39 (p:ATree→Bool) (hp:∀ a b:ATree,a.kind=b.kind→p a=p b):∀ (l1 l2:List ATree),Z0o l1=Z0o l2→(l1.filter p).map ATree.text=(l2.filter p).map ATree.text
 | [],[],_=>rfl
 | [],_ :: _,h=>by simp [Z0o] at h
 | _ :: _,[],h=>by simp [Z0o] at h
 | a :: l1, b :: l2, h => by
   simp only [Z0o,List.cons.injEq] at h;have ih:=Z39 p hp l1 l2 h.2;obtain ⟨e1,e2,_,_⟩:=Z2y h.1;have e3:=hp a b e1;simp only [List.filter_cons];rw [e3];split;·simp only [List.map_cons,ih,e2]
   ·exact ih
theorem Z8z (a b:ATree) (h:a.kind=b.kind):Z1i a=Z1i b:=by unfold Z1i; rw [h]
theorem Z7u (a b:ATree) (h:a.kind=b.kind):Z2g a=Z2g b:=by unfold Z2g; rw [h]
theorem Z73 (l:List ByteArray) (ks:List ATree):Z19 l ks=(ks.map ATree.text).foldl addL l:=by
 unfold Z19;rw [List.foldl_map]
theorem Zdw {a b:ATree} (h:a.tree=b.tree) (body:Bool):Z3y body a=Z3y body b:=by
 have hk:=(Z2y h).2.2.2;unfold Z3y;rw [Z73,Z73,Z73,Z73,Z39 Z1i Z8z _ _ hk,Z39 Z2g Z7u _ _ hk,Zak h]
theorem Z0q.parts {w:World} {B:Nat} {v:Value} {l:List ATree} (h:Z0q w B v l):∃ p cp,v=.slice p l.length cp∧l.length≤cp∧cp≤9223372036854775807:=by
 rcases h.form with ⟨h1,h2⟩ | ⟨g,cap,h1,h2,h3⟩;·exact ⟨none,0,by rw [h1,h2]; rfl,by rw [h2]; exact Y5 _,by omega⟩
 ·unfold maxLen at h3; exact ⟨_,_,h1,h2,by omega⟩
theorem Z04.parts {w:World} {B:Nat} {v:Value} {l:List ByteArray} (h:Z04 w B v l):∃ p cp,v=.slice p l.length cp∧l.length≤cp∧cp≤9223372036854775807:=by
 rcases h.form with ⟨h1,h2⟩ | ⟨g,cap,h1,h2,h3⟩;·exact ⟨none,0,by rw [h1,h2]; rfl,by rw [h2]; exact Y5 _,by omega⟩
 ·unfold maxLen at h3; exact ⟨_,_,h1,h2,by omega⟩
end Go.Proofs.YtajomcjaljakhaaGreatDoor
