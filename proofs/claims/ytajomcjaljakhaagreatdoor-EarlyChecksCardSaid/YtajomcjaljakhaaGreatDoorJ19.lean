/- Package early, plain: two programs of one form have the same thing wro -/
import Derived.Test.YtajomcjaljakhaaGreatDoorJ18
namespace Go.Proofs.YtajomcjaljakhaaGreatDoor
open Go Go.RowKit
set_option maxRecDepth 100000
set_option maxHeartbeats 20000000
set_option linter.unusedVariables false
theorem Z6t {a b:ATree} (h:a.tree=b.tree) (body:Bool):Z2n a body=Z2n b body:=by
 have hk:=(Z2y h).2.2.2;have e1:Z51 a=Z51 b:=Z39 Z2g Z7u _ _ hk;have e2:Z87 a=Z87 b:=Z39 Z1i Z8z _ _ hk;unfold Z2n;rw [e1,e2,Zak h]
theorem Zdx:∀ (l m:List ATree),Z0o l=Z0o m→l.any (fun x=>!Z40 x)=m.any (fun x=>!Z40 x)
 | [],[],_=>rfl
 | [],_ :: _,h=>by simp [Z0o] at h
 | _ :: _,[],h=>by simp [Z0o] at h
 | a :: l, b :: m, h => by
   simp only [Z0o,List.cons.injEq] at h;have e:Z40 a=Z40 b:=by unfold Z40; rw [(Z2y h.1).1]
   simp only [List.any_cons,e,Zdx l m h.2]
theorem Zfh (l m:List ATree) (h:Z0o l=Z0o m):l.map ATree.text=m.map ATree.text:=by
 have:=Z39 (fun _=>true) (fun _ _ _=>rfl) _ _ h;rwa [List.filter_eq_self.2 (fun _ _=>rfl),List.filter_eq_self.2 (fun _ _=>rfl)] at this
theorem Z64 {m:Nat} (ih:∀ (a b:ATree) (st ins:Bool),a.many≤m→a.tree=b.tree→Z0p a st ins=Z0p b st ins) :
 ∀ (l1 l2:List ATree) (st ins:Bool),Z1q l1≤m→Z0o l1=Z0o l2→Z1c l1 st ins=Z1c l2 st ins
 | [],[],_,_,_,_=>rfl
 | [],_ :: _,_,_,_,h=>by simp [Z0o] at h
 | _ :: _,[],_,_,_,h=>by simp [Z0o] at h
 | a :: l1, b :: l2, st, ins, hm, h => by
   simp only [Z0o,List.cons.injEq] at h;simp only [Z1q] at hm;unfold Z1c;rw [ih a b st ins (by omega) h.1,Z64 ih l1 l2 st ins (by omega) h.2]
theorem Zan:∀ (m:Nat) (a b:ATree) (st ins:Bool),a.many≤m→a.tree=b.tree→Z0p a st ins=Z0p b st ins
 | 0,a,_,_,_,h,_=>by cases a; simp [ATree.many] at h
 | m + 1, .mk b1 v1 k t n1 ks1, .mk b2 v2 k2 t2 n2 ks2, st, ins, hm, h => by
   have ih:=Zan m;have hs:=Z6t h false;simp only [ATree.tree,Tree.mk.injEq] at h;obtain ⟨rfl,rfl,_,h4⟩:=h;have hmk:Z1q ks1≤m:=by simp only [ATree.many] at hm; omega
   have HK:=Z64 ih ks1 ks2 st ins hmk h4;rw [Z0p.eq_def,Z0p.eq_def];simp only [];rw [HK,hs];clear HK hs;match ks1,ks2,hmk,h4 with
   | [],[],_,_=>rfl
   | [],_ :: _,_,h=>simp [Z0o] at h
   | _ :: _,[],_,h=>simp [Z0o] at h
   | x :: r, y :: s, hmk, h4 =>
     simp only [Z0o,List.cons.injEq] at h4;obtain ⟨e1,e2,_,e4⟩:=Z2y h4.1;have e5:=Zdx r s h4.2;simp only [List.drop_succ_cons,List.drop_zero];simp only [Zdw h4.1 false,e5,e1,e2];match r,s,hmk,h4.2 with
     | [],[],_,_=>rfl
     | [],_ :: _,_,h=>simp [Z0o] at h
     | _ :: _,[],_,h=>simp [Z0o] at h
     | .mk c1 w1 kc tc nc lc :: r, .mk c2 w2 kd td nd ld :: s, hmk, h5 =>
       simp only [Z0o,List.cons.injEq] at h5;have hb:=h5.1;have hsb:=Z6t hb true;have hl:Z51 (.mk c1 w1 kc tc nc lc)=Z51 (.mk c2 w2 kd td nd ld):=Z39 Z2g Z7u _ _ (Z2y hb).2.2.2;simp only [ATree.tree,Tree.mk.injEq] at hb;obtain ⟨rfl,rfl,_,e6⟩:=hb;have hst:Z0r (.mk c1 w1 kc tc nc lc)=Z0r (.mk c2 w2 kc tc nd ld):=rfl;simp only [Z1q,ATree.many] at hmk;have HK2:=fun st ins=>Z64 ih lc ld st ins (by omega) e6;simp only [];unfold Z6q;simp only [hst,hsb,hl,HK2,Zfh _ _ e4]
theorem Zdl {a b:ATree} (h:a.tree=b.tree) (st ins:Bool):Z5r a st ins=Z5r b st ins:=by
 obtain ⟨e1,e2,_,e4⟩:=Z2y h;have hst:Z0r a=Z0r b:=by unfold Z0r; rw [e1,e2]
 unfold Z5r;rw [Z6t h true,hst,Z64 (Zan (Z1q a.kids)) _ _ _ _ (Y5 _) e4]
theorem Zdb {st:Bool} {T:List ByteArray} {k:Nat} {s:ByteArray} (h:T[k]?=some s):Z2o st (T.take k) (T.drop k)=if Z0x st s then 5 else if st && Lib.containsS (T.take k) s then 9 else Z2o st (T.take (k + 1)) (T.drop (k + 1)):=by
 obtain ⟨hk,he⟩:=List.getElem?_eq_some_iff.1 h;rw [List.drop_eq_getElem_cons hk,List.take_succ_eq_append_getElem hk,he];rfl
theorem Zgm (st:Bool) (t:ByteArray) (ps:List ByteArray) (bd:ATree) (K:Int):(if Z6q st t ps bd≠0 then Z6q st t ps bd else K) =
 if Z0x st t then 5 else if Z2o st [] ps≠0 then Z2o st [] ps else if (Z51 bd).any (fun s=>Lib.containsS ps s) then 9 else if Z2n bd true then 9 else K:=by
 unfold Z6q;by_cases h1:Z0x st t=true;·simp only [if_pos h1]; rfl
 simp only [if_neg h1];by_cases h2:Z2o st [] ps≠0;·simp only [if_pos h2]
 simp only [if_neg h2];by_cases h3:(Z51 bd).any (fun s=>Lib.containsS ps s)=true;·simp only [if_pos h3]; rfl
 simp only [if_neg h3];by_cases h4:Z2n bd true=true;·simp only [if_pos h4]; rfl
 simp only [if_neg h4];rfl
theorem Zhj {B m:Nat} (hK:Z8b B m) (a:ATree) (w:World) (st ins:Bool) (hm:a.many≤m + 1) (hbig:a.many < 274877906944) (hT:TreeAt w B a) (ps bd:ATree) (hk:a.kids=[ps,bd]) (hok:∀ k∈bd.kids,WA k) :
 Calls Tryz.prog 86 #[.agg #[.bool st,.bool ins],a.ptr] w fun e w'=>e=.returned (.int .i64 (if Z6q (st || Z0r bd) a.text (ps.kids.map ATree.text) bd≠0 then Z6q (st || Z0r bd) a.text (ps.kids.map ATree.text) bd else Z1c bd.kids (st || Z0r bd) true))∧Below w.heap.size w w':=by
 rw [Zgm];obtain ⟨i0,hi,hz0,hz1,hz2⟩:=info_parts Tryz.infoStr;have hmem:ps∈a.kids∧bd∈a.kids:=by rw [hk]; simp
 have hmany:a.many=ps.many + bd.many + 1:=by
  obtain ⟨b,v,k,t,n,ks⟩:=a;simp only [ATree.kids] at hk;subst hk;simp only [ATree.many,Z1q];omega
 obtain ⟨p,cp,hv,hge,hmx⟩:=hT.vOf;have hrow:=hT.rowOf;obtain ⟨g,hp⟩:∃ g,p=some ⟨g,0,none⟩:=by
  rcases Zb hrow with ⟨_,h2⟩ | ⟨g,cap,h1,_⟩;·rw [hk] at h2; simp at h2
  ·rw [hv] at h1; simp only [Value.slice.injEq] at h1; exact ⟨g,h1.1⟩
 subst hp;have c3:w.cell? ⟨a.b,3,none⟩=some (.slice (some ⟨g,0,none⟩) 2 cp):=by rw [show (2:Nat)=a.kids.length by rw [hk]; rfl,← hv]; exact hT.c3
 have cx:=Zi hrow (g:=g) (by rw [hv]; rfl) (i:=0) (x:=ps.ptr) (by rw [hk]; rfl);have cy:=Zi hrow (g:=g) (by rw [hv]; rfl) (i:=1) (x:=bd.ptr) (by rw [hk]; rfl);have hge2:2≤cp:=by rw [hk] at hge; exact hge
 unfold maxLen at hmx;have hlg:=(Yh hrow g (by rw [hv]; rfl)).2;have hTp:=hT.kid hmem.1;have hTb:=hT.kid hmem.2;obtain ⟨p2,cp2,hv2,hge3,hmx2⟩:=hTp.vOf;have p3:w.cell? ⟨ps.b,3,none⟩=some (.slice p2 ps.kids.length cp2):=by rw [← hv2]; exact hTp.c3
 have c1:=hT.c1;have hkl:=Z95 ps;have hkl2:=Z95 bd;have hlen2:ps.kids.length≤9223372036854775807:=by unfold maxLen at hmx2; omega
 have hql:ps.kids.length < 274877906944:=by omega
 have hqb:bd.kids.length < 274877906944:=by omega
 have HV2:=lh hv2;obtain ⟨tx,htx⟩:=zX a.text
 rw [← htx] at c1 ⊢;have HST:=lh (fun wr (h:TreeAt wr B bd)=>Za6 wr B bd h);obtain ⟨ib,hib⟩:=zX (Z0r bd)
 rw [← hib] at HST ⊢;obtain ⟨sb,hsb⟩:=zX ((st || ib))
 rw [← hsb];clear hib;obtain ⟨T,hTT⟩:=zX (ps.kids.map ATree.text)
 rw [← hTT];obtain ⟨P,hP⟩:=zX (bd.kids.filter Z2g)
 have hlT:Z51 bd=P.map ATree.text:=by rw [hP]; rfl
 rw [hlT];have hPk:∀ x,x∈P→x∈bd.kids:=fun x hx=>by rw [hP] at hx; exact (List.mem_filter.1 hx).1
 have hPl:P.length≤bd.kids.length:=by rw [hP]; exact List.length_filter_le _ _
 have hL:=fun W (h:TreeAt W B bd)=>Z8f W B bd h (by omega);simp only [← hP] at hL;have HL:=lh hL;have HPK:=lh hPk;have HBN:=lh (fun W s=>Z63 W sb true s);have HSC:=lh (fun W (h:TreeAt W B bd)=>Z9s W B bd sb true true h (by omega));have HKI:=lh (fun W (h:TreeAt W B bd)=>hK bd W sb true (by omega) hok (by omega) h);obtain ⟨bf,hbf⟩:=zX (Z0x sb tx)
 obtain ⟨RP,hRP⟩:=zX (Z2o sb [] T)
 obtain ⟨LB,hLB⟩:=zX ((P.map ATree.text).any (fun s=>Lib.containsS T s))
 obtain ⟨SB,hSB⟩:=zX (Z2n bd true)
 obtain ⟨RK,hRK⟩:=zX (Z1c bd.kids sb true)
 rw [← hbf,← hRP,← hLB,← hSB,← hRK];rw [← hSB] at HSC;rw [← hRK] at HKI;obtain ⟨code,hcode⟩:∃ c:Int,c=if bf then 5 else if RP≠0 then RP else if LB then 9 else if SB then 9 else RK:=⟨_,rfl⟩
 rw [← hcode];have HCODE:=lh hcode;have HBF:=lh hbf;have HRP:=lh hRP;have HLB:=lh hLB;have HTT:=lh hTT;have hall:∀ W,Below w.heap.size w W→W.cell? ⟨a.b,3,none⟩=some (.slice (some ⟨g,0,none⟩) 2 cp)∧W.cell? ⟨g,0,none⟩=some ps.ptr∧W.cell? ⟨g,1,none⟩=some bd.ptr∧W.cell? ⟨ps.b,3,none⟩=some (.slice p2 ps.kids.length cp2)∧W.cell? ⟨a.b,1,none⟩=some (.string tx)∧TreeAt W B ps∧TreeAt W B bd:=fun W h=>
  ⟨(Yj (h.block a.b hT.lt)).trans c3,(Yj (h.block g hlg)).trans cx,(Yj (h.block g hlg)).trans cy,(Yj (h.block ps.b hTp.lt)).trans p3,(Yj (h.block a.b hT.lt)).trans c1,hTp.bel h,hTb.bel h⟩
 have hba:Below w.heap.size w (w.alloc (.cells #[.bool st,.bool ins] 43)):=(Y8 _ _).alloc (Y5 _) _;have hbx:Below w.heap.size w (w.alloc (.cells #[.bool sb,.bool true] 43)):=(Y8 _ _).alloc (Y5 _) _;obtain ⟨k3,_,ky,_⟩:=hall _ hba;have HALL:=lh hall;have HBA:=lh hba;unfold ATree.ptr at HKI HSC HL HALL ky HST ⊢;obtain ⟨q,hq⟩:=zX ps.kids.length
 rw [← hq] at HALL hlen2 hge3 hql;have HQ:=lh hq;clear hK hT hm hbig hk hok hmem hmany hv hge hrow c3 cx cy hTp hTb hv2 p3 c1 hkl hkl2 htx hTT hP hlT hPk hL hbf hRP hLB hSB hRK hcode hall hba hq;cases st;rw [Bool.false_or] at hsb;subst hsb;go_enter Tryz.func86,Tryz.ntmps86
 go_wp2_with fail
 refine (HST.out _ (HALL.out _ HBA.out).2.2.2.2.2.2).mono ?_;rintro e w' ⟨rfl,hww⟩;rw [hww];clear hww w' HST;go_wp2_with fail
 rotate_left
 rw [Bool.true_or] at hsb;have HSB:=lh hsb;clear hsb HST;go_enter Tryz.func86,Tryz.ntmps86
 go_wp2_with fail
 rw [show (w.alloc (.cells #[.bool true,.bool true] 43))=w.alloc (.cells #[.bool sb,.bool true] 43) from by rw [HSB.out]];clear HSB
 all_goals
  have d0:(w.alloc (.cells #[.bool sb,.bool true] 43)).cell? ⟨w.heap.size,0,none⟩=some (.bool sb):=by simp
  have d1:(w.alloc (.cells #[.bool sb,.bool true] 43)).cell? ⟨w.heap.size,1,none⟩=some (.bool true):=by simp
  have hsz:(w.alloc (.cells #[.bool sb,.bool true] 43)).heap.size=w.heap.size + 1:=by simp
  obtain ⟨w1,hw1⟩:=zX (w.alloc (.cells #[.bool sb,.bool true] 43))
  rw [← hw1] at d0 d1 hsz hbx ⊢;obtain ⟨_,_,_,_,c1,_,_⟩:=HALL.out _ hbx;have hall1:∀ W,Below w1.heap.size w1 W→W.cell? ⟨w.heap.size,0,none⟩=some (.bool sb)∧W.cell? ⟨w.heap.size,1,none⟩=some (.bool true)∧Below w.heap.size w W∧w1.heap.size≤W.heap.size:=fun W h=>
   ⟨(Yj (h.block w.heap.size (by omega))).trans d0,(Yj (h.block w.heap.size (by omega))).trans d1,hbx.trans (h.mono hbx.size),h.size⟩
  have H1:=lh hall1;have HBX:=lh hbx;have HW1:=lh hw1;clear hall1 hbx hw1 k3 ky;refine Z0 [(true,0),(true,1),(true,2),(true,3),(true,4)] [5] (fun W=>W.cell? ⟨w.heap.size,0,none⟩=some (.bool sb)∧W.cell? ⟨w.heap.size,1,none⟩=some (.bool true)∧W.cell? ⟨a.b,1,none⟩=some (.string tx)) (by kernel_rfl) (by kernel_rfl) (fun _ _ d _ _ h=>by cases d <;> exact h) ⟨d0,d1,c1⟩ (fun hS0=>?_);simp only [Za,zD,zE,zF,zG,zH,zI]
  iterate 5
   first
    | (refine Z1 ?_ (by rfl) (fun w' hS'=>?_) ?_; rotate_left; (obtain ⟨s0,s1,s2⟩:=hS'; go_simp; first | done | with_reducible rfl); simp only [Act.put,zA,zB,zC])
    | (refine Z2 (by rfl) ?_; simp only [Act.put,zA,zB,zC])
  refine Z4 ?_;go_wp2_with fail
  refine (HBN.out w1.drew tx).mono ?_;rintro e w2 ⟨rfl,hb2⟩;rw [← HBF.out];have HB2:Hid (Below w1.heap.size w1 w2):=lh ((Y8 w1.heap.size w1).drew.trans hb2);clear hb2 HBF d0 d1 c1;obtain ⟨x0,x1,hbw2,hs2⟩:=H1.out _ HB2.out;obtain ⟨k3,kx,ky,k4,_,_,_⟩:=HALL.out _ hbw2;have HBW2:=lh hbw2;clear hbw2;cases bf;rotate_left
  ·go_wp2;go_ret;exact ⟨by rw [HCODE.out]; rfl,HBW2.out⟩
  go_wp2_with fail
  go_loopw [5,40] (fun v i wr=>∃ (k:Nat) (v':Value),v'=v∧k≤q∧i=.int .i64 k∧Hid (Z04 wr w1.heap.size v' (T.take k))∧Hid (Below w1.heap.size w1 wr)∧Hid (Z2o sb (T.take k) (T.drop k)=RP)) (fun _ i _=>q - (intOf i).toNat)
  case atStart=>exact ⟨0,_,rfl,Yp _,rfl,lh (Z04.nil _ _),HB2,lh HRP.out.symm⟩
  case round=>
   obtain ⟨k,v,rfl,hk,rfl,TX,HB,HR⟩:=hrel;clear HB2 HBW2;obtain ⟨y0,y1,hbw,hsw⟩:=H1.out _ HB.out;obtain ⟨k3,kx,ky,k4,_,hTps,hTbd⟩:=HALL.out _ hbw;have HBW:=lh hbw;by_cases hkn:k < q
   ·obtain ⟨x, hx⟩ : ∃ x, ps.kids[k]? = some x := ⟨_, Yd (by rw [← HQ.out]; exact hkn)⟩
    have hrow:=hTps.rowOf;rcases Zb hrow with ⟨_,h2⟩ | ⟨g0,cap0,hv0,_⟩;·rw [← HQ.out] at h2; omega
    have hp:p2=some ⟨g0,0,none⟩:=by
     have:=HV2.out.symm.trans hv0;simp only [Value.slice.injEq] at this;exact this.1
    subst hp;have cx:=Zi hrow (g:=g0) (by rw [hv0]; rfl) (i:=k) (x:=x.ptr) (by rw [Yo,hx]; rfl);unfold ATree.ptr at cx;have hTx:=hTps.kid (Yl hx);have c1:=hTx.c1;have hxl:=hTx.lt;have hTk:T[k]?=some x.text:=by rw [HTT.out,Yo,hx]; rfl
    have hstep:=Zdb (st:=sb) hTk;rw [HR.out] at hstep;have htl:(T.take k).length=k:=by rw [List.length_take,HTT.out,Yv,← HQ.out]; omega
    have htk:T.take k ++ [x.text]=T.take (k + 1):=by
     obtain ⟨hkl,hke⟩:=List.getElem?_eq_some_iff.1 hTk;rw [List.take_succ_eq_append_getElem hkl,hke]
    obtain ⟨ty,hty⟩:=zX x.text
    rw [← hty] at c1 hstep htk;obtain ⟨l,hl⟩:=zX (T.take k)
    rw [← hl] at hstep htl htk TX;obtain ⟨bp,hbp⟩:=zX (Z0x sb ty)
    rw [← hbp] at hstep;obtain ⟨cb,hcb⟩:=zX (Lib.containsS l ty)
    rw [← hcb] at hstep;obtain ⟨pv,nv,cv,rfl⟩:=TX.out.slice;have HCB:=lh hcb;have HBP:=lh hbp;have STEP:=lh hstep;have HTK:=lh htk;clear hrow hv0 hx hTx hTk hstep htk hty hl hbp hcb hTps hTbd hbw k3 kx ky k4;go_wp2_with fail
    refine Z0 [(true,0),(true,1),(true,2),(true,3),(true,4)] [5,6] (fun W=>W.cell? ⟨w.heap.size,0,none⟩=some (.bool sb)∧W.cell? ⟨w.heap.size,1,none⟩=some (.bool true)∧W.cell? ⟨x.b,1,none⟩=some (.string ty)) (by kernel_rfl) (by kernel_rfl) (fun _ _ d _ _ h=>by cases d <;> exact h) ⟨y0,y1,c1⟩ (fun hS0=>?_);simp only [Za,zD,zE,zF,zG,zH,zI]
    iterate 5
     first
      | (refine Z1 ?_ (by rfl) (fun w' hS'=>?_) ?_; rotate_left; (obtain ⟨s0,s1,s2⟩:=hS'; go_simp; first | done | with_reducible rfl); simp only [Act.put,zA,zB,zC])
      | (refine Z2 (by rfl) ?_; simp only [Act.put,zA,zB,zC])
    refine Z4 ?_;go_wp2_with fail
    refine (HBN.out wr.drew ty).mono ?_;rintro e w3 ⟨rfl,hb3⟩;rw [← HBP.out];have hb4:Below wr.heap.size wr w3:=(Y8 wr.heap.size wr).drew.trans hb3;have HB3:=lh (HB.out.trans (hb4.mono hsw));have TX3:=lh (TX.out.bel hb4);have c13:w3.cell? ⟨x.b,1,none⟩=some (.string ty):=(Yj (hb4.block x.b hxl)).trans c1;obtain ⟨z0,z1,hbw3,hsw3⟩:=H1.out _ HB3.out;have HBW3:=lh hbw3;have hxl3:x.b < w3.heap.size:=Ye hxl hb4.size;clear hb3 hb4 HBP y0 y1 c1 TX HB HR HBW hbw3;cases bp;rotate_left
    ·go_wp2;go_ret;refine ⟨?_,HBW3.out⟩;have h1:=STEP.out;simp only [if_true] at h1;rw [HCODE.out,h1];rfl
    cases sb
    ·have TX4 := TX3;unfold Z04 at TX4;clear HCB
     go_wp2_with (at_builtin; go_must (refine wpList_append_lies _ rfl (.tmp 62) (.tmp 67) 53 rfl w1.heap.size 9 i0 (.string ByteArray.empty) 1 16 Tryz.underlying53 hi hz0 hz1 hz2 rfl (by decide) (.slice pv nv cv) l.length (l.map Value.string) rfl (TX4.out.alloc _) ⟨w3.heap.size,0,none⟩ 1 1 [.string ty] rfl rfl (fun j u hu=>cell_one_new w3 _ _ j u hu) (by intro u hu; simp at hu; subst hu; rfl) (by first | omega | (simp; omega)) (by unfold maxLen; omega) (by first | omega | (simp; omega)) (by first | omega | (simp; omega)) (w3.heap.size + 1) (by simp) ?_); intro g cap w4 hown2 hgrow2 hat2 hgl2; have HG:=lh hgrow2; have HW:=lh hown2; clear hgrow2 hown2 hat2 hgl2)
     go_roundw
     case rel=>
      refine ⟨k + 1,_,rfl,by omega,by go_num,lh ?_,lh ?_,lh ?_⟩
      ·rw [← HTK.out];have h2:=Z7r HW.out;rw [htl] at h2;exact h2
      ·exact (HB3.out.alloc hsw3 _).grown HG.out (by simp; omega) fun j hj=>(Yh TX4.out j hj).1
      ·have h1:=STEP.out;simp only [Bool.false_eq_true,if_false,Bool.false_and] at h1;exact h1.symm
     case measure=>simp [intOf]; omega
    ·have HCN := lh (Z23 TX3.out ty);rw [← HCB.out] at HCN;clear HCB;have TX4 := TX3;unfold Z04 at TX4;go_wp2_with fail
     refine HCN.out.mono ?_;rintro e w' ⟨rfl,hww⟩;rw [hww];clear hww w' HCN;cases cb;rotate_left
     ·go_wp2;go_ret;refine ⟨?_,HBW3.out⟩;have h1:=STEP.out;simp only [Bool.false_eq_true,if_false,Bool.and_self,if_true] at h1;rw [HCODE.out,h1];rfl
     go_wp2_with (at_builtin; go_must (refine wpList_append_lies _ rfl (.tmp 62) (.tmp 67) 53 rfl w1.heap.size 9 i0 (.string ByteArray.empty) 1 16 Tryz.underlying53 hi hz0 hz1 hz2 rfl (by decide) (.slice pv nv cv) l.length (l.map Value.string) rfl (TX4.out.alloc _) ⟨w3.heap.size,0,none⟩ 1 1 [.string ty] rfl rfl (fun j u hu=>cell_one_new w3 _ _ j u hu) (by intro u hu; simp at hu; subst hu; rfl) (by first | omega | (simp; omega)) (by unfold maxLen; omega) (by first | omega | (simp; omega)) (by first | omega | (simp; omega)) (w3.heap.size + 1) (by simp) ?_); intro g cap w4 hown2 hgrow2 hat2 hgl2; have HG:=lh hgrow2; have HW:=lh hown2; clear hgrow2 hown2 hat2 hgl2)
     go_roundw
     case rel=>
      refine ⟨k + 1,_,rfl,by omega,by go_num,lh ?_,lh ?_,lh ?_⟩
      ·rw [← HTK.out];have h2:=Z7r HW.out;rw [htl] at h2;exact h2
      ·exact (HB3.out.alloc hsw3 _).grown HG.out (by simp; omega) fun j hj=>(Yh TX4.out j hj).1
      ·have h1:=STEP.out;simp only [Bool.false_eq_true,if_false,Bool.and_false] at h1;exact h1.symm
     case measure=>simp [intOf]; omega
   ·have hk2 : k = q := by omega
    subst hk2;have htl:T.length=k:=by rw [HTT.out,Yv,← HQ.out]
    have htx:=TX.out;rw [Ym (by omega)] at htx;have hrp:RP=0:=by
     have:=HR.out;rw [Ym (by omega),List.drop_of_length_le (by omega)] at this;rw [← this];rfl
    subst hrp;have TX5:=lh htx;obtain ⟨pv,nv,cv,rfl⟩:=htx.slice;have HTB:=lh hTbd;clear htx hbw hTps hTbd TX HR htl k4 kx HRP;go_wp2_with fail
    refine (HL.out wr HTB.out).mono ?_;rintro e w5 ⟨v5,rfl,hn5,hb5⟩;obtain ⟨p5,cp5,rfl,hge5,hmx5,hpp5⟩:=hn5.slice;have HB5:=lh (HB.out.trans (hb5.mono hsw));have TX6:=lh (TX5.out.bel hb5);have N5:=lh hn5;have HPP5:=lh hpp5;obtain ⟨zf,hzf⟩:=zX wr.heap.size
    rw [← hzf] at N5;obtain ⟨m2,hm1⟩:=zX P.length
    have hmq:m2≤9223372036854775807:=by unfold maxLen at hmx5; omega
    rw [← hm1] at hge5 N5 hPl ⊢;have HM1:=lh hm1;clear hn5 hb5 hpp5 hzf hm1 TX5 HB HBW;go_wp2_with fail
    go_loopw [78] (fun i wr=>∃ (k:Nat),k≤m2∧i=.int .i64 k∧Hid (Z04 wr w1.heap.size (.slice pv nv cv) T)∧Hid (Z0q wr zf (.slice p5 m2 cp5) P)∧Hid (Below w1.heap.size w1 wr)∧Hid (∀ x∈P.take k,Lib.containsS T x.text=false)) (fun i _=>m2 - (intOf i).toNat)
    case atStart=>exact ⟨0,Yp _,rfl,TX6,N5,HB5,lh (by simp)⟩
    case round=>
     obtain ⟨k,hk,rfl,TX,NO,HB,HF⟩:=hrel;clear TX6 N5 HB5;obtain ⟨y0,y1,hbw,hsw⟩:=H1.out _ HB.out;obtain ⟨k3,kx,ky,k4,_,hTps,hTbd⟩:=HALL.out _ hbw;have HBW:=lh hbw;by_cases hkn:k < m2
     ·obtain ⟨x, hx⟩ : ∃ x, P[k]? = some x := ⟨_, Yd (by rw [← HM1.out]; exact hkn)⟩
      obtain ⟨g0,hp⟩:=HPP5.out k x hx;subst hp;have cx:=NO.out.cell rfl hx;have hTx:=hTbd.kid (HPK.out x (Yl hx));have c1:=hTx.c1;have HCN:=lh (Z23 TX.out x.text);obtain ⟨cb,hcb⟩:=zX (Lib.containsS T x.text)
      rw [← hcb] at HCN;have HCB:=lh hcb;have HX:=lh hx;obtain ⟨ty,hty⟩:=zX x.text
      rw [← hty] at c1 HCN;clear hTx hx hcb hty hTps hTbd hbw k3 kx ky k4 y0 y1;go_wp2_with fail
      refine HCN.out.mono ?_;rintro e w' ⟨rfl,hww⟩;rw [hww];clear hww w' HCN;cases cb
      ·go_wp2;go_roundw
       case rel=>
        refine ⟨k + 1,by omega,by go_num,TX,NO,HB,lh ?_⟩;intro y hy;obtain ⟨hkl,hke⟩:=List.getElem?_eq_some_iff.1 HX.out;rw [List.take_succ_eq_append_getElem hkl,List.mem_append] at hy;rcases hy with hy | hy;·exact HF.out y hy
        ·simp only [List.mem_singleton] at hy;rw [hy,hke];exact HCB.out.symm
       case measure=>simp [intOf]; omega
      ·go_wp2;go_ret;refine ⟨?_,HBW.out⟩;have h1:LB=true:=by
        rw [HLB.out,List.any_eq_true];exact ⟨x.text,List.mem_map.2 ⟨x,Yl HX.out,rfl⟩,HCB.out.symm⟩
       rw [HCODE.out,h1];rfl
     ·have hk2 : k = m2 := by omega
      subst hk2;have h1:LB=false:=by
       rw [HLB.out,List.any_eq_false];intro s hs;obtain ⟨y,hy,rfl⟩:=List.mem_map.1 hs;have:=HF.out y (by rw [Ym (by rw [← HM1.out]; exact Y5 _)]; exact hy);simp [this]
      subst h1;have HTB:=lh hTbd;clear hTps hTbd hbw k4 kx HF TX NO HLB;go_wp2_with fail
      refine Z0 [(true,0),(true,1),(true,2),(true,3),(true,4),(true,5),(true,6)] [7,8] (fun W=>W.cell? ⟨w.heap.size,0,none⟩=some (.bool sb)∧W.cell? ⟨w.heap.size,1,none⟩=some (.bool true)∧W.cell? ⟨a.b,3,none⟩=some (.slice (some ⟨g,0,none⟩) 2 cp)∧W.cell? ⟨g,1,none⟩=some (.pointer (some ⟨bd.b,0,none⟩))) (by kernel_rfl) (by kernel_rfl) (fun _ _ d _ _ h=>by cases d <;> exact h) ⟨y0,y1,k3,ky⟩ (fun hS0=>?_);simp only [Za,zD,zE,zF,zG,zH,zI]
      iterate 7
       first
        | (refine Z1 ?_ (by rfl) (fun w' hS'=>?_) ?_; rotate_left; (obtain ⟨s0,s1,s2,s3⟩:=hS'; go_simp; first | done | with_reducible rfl); simp only [Act.put,zA,zB,zC])
        | (refine Z2 (by rfl) ?_; simp only [Act.put,zA,zB,zC])
      refine Z4 ?_;go_wp2_with fail
      refine (HSC.out wr.drew (HTB.out.keep fun k _ _=>rfl)).mono ?_;rintro e w7 ⟨rfl,hb7⟩;have hb8:Below wr.heap.size wr w7:=(Y8 wr.heap.size wr).drew.trans hb7;have HB7:=lh (HB.out.trans (hb8.mono hsw));obtain ⟨z0,z1,hbw7,hsw7⟩:=H1.out _ HB7.out;obtain ⟨l3,_,ly,_,_,_,hTb7⟩:=HALL.out _ hbw7;have HBW7:=lh hbw7;have HTB7:=lh hTb7;clear hb7 hb8 hbw7 hTb7 y0 y1 k3 ky HTB HB HBW;cases SB;rotate_left
      ·simp only [if_true];go_wp2;go_ret;exact ⟨by rw [HCODE.out]; rfl,HBW7.out⟩
      simp only [Bool.false_eq_true,if_false];go_wp2_with fail
      refine Z0 [(true,0),(true,1),(true,2),(true,3),(true,4),(true,5),(true,6)] [7,8] (fun W=>W.cell? ⟨w.heap.size,0,none⟩=some (.bool sb)∧W.cell? ⟨w.heap.size,1,none⟩=some (.bool true)∧W.cell? ⟨a.b,3,none⟩=some (.slice (some ⟨g,0,none⟩) 2 cp)∧W.cell? ⟨g,1,none⟩=some (.pointer (some ⟨bd.b,0,none⟩))) (by kernel_rfl) (by kernel_rfl) (fun _ _ d _ _ h=>by cases d <;> exact h) ⟨z0,z1,l3,ly⟩ (fun hS0=>?_);simp only [Za,zD,zE,zF,zG,zH,zI]
      iterate 7
       first
        | (refine Z1 ?_ (by rfl) (fun w' hS'=>?_) ?_; rotate_left; (obtain ⟨s0,s1,s2,s3⟩:=hS'; go_simp; first | done | with_reducible rfl); simp only [Act.put,zA,zB,zC])
        | (refine Z2 (by rfl) ?_; simp only [Act.put,zA,zB,zC])
      refine Z4 ?_;go_wp2_with fail
      refine (HKI.out w7.drew (HTB7.out.keep fun k _ _=>rfl)).mono ?_;rintro e w8 ⟨rfl,hb8⟩;have HB8:Hid (Below w.heap.size w w8):=lh (HBW7.out.drew.trans (hb8.mono HBW7.out.size));clear hb8;go_wp2;go_ret;exact ⟨by rw [HCODE.out]; rfl,HB8.out⟩
end Go.Proofs.YtajomcjaljakhaaGreatDoor
