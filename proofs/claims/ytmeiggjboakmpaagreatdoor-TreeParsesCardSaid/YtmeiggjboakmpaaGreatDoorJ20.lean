/- The reference's Tokens, walked. -/
import Derived.Test.YtmeiggjboakmpaaGreatDoorJ19
namespace Go.Proofs.YtmeiggjboakmpaaGreatDoor
open Go Go.RowKit
set_option maxRecDepth 100000
set_option maxHeartbeats 20000000
set_option linter.unusedVariables false
theorem Z8s (w:World) (text:ByteArray) (hm:text.size≤3000) (hW:Z7k w) (hF:Z7e w) :
 Calls Tryz.prog 11 #[.string text] w fun e w'=>Zjc w (Z6h text) e w'∧Below w.heap.size w w':=by
 obtain ⟨i0,hi,hz0,hz1,hz2⟩:=info_parts Tryz.infoRTok;obtain ⟨R,hR⟩:=zX (Z6h text)
 rw [← hR];have HR:=lh hR;have HW:=lh hW;have HF:=lh hF;clear hR hW hF;have hst:RMid w (w.alloc (.cells #[.int .i64 0,.int .i64 0] 25)) (.slice none 0 0) []:=⟨(Go.MapKept.heap_alloc w _).1,(Y8 _ _).alloc (Y5 _) _,World.ownsRow_nil _ _ _ _⟩
 have ST:=lh hst;clear hst;go_enter Tryz.func11,Tryz.ntmps11
 go_wp2_with fail
 go_loopw [4,5] (fun v x wr=>∃ (i f:Nat) (l:List Tok) (v':Value),v'=v∧x=.int .i64 i∧i≤text.size∧l.length≤i∧text.size + 1≤i + f∧Hid (RMid w wr v' l)∧Hid (lexF text f i l=R)) (fun _ x _=>text.size - (intOf x).toNat)
 case atStart=>exact ⟨0,text.size + 1,[],_,rfl,rfl,Yp _,Yp _,by omega,ST,lh HR.out.symm⟩
 case round=>
  obtain ⟨i,f,l,v,rfl,rfl,his,hli,hf,HM,HQ⟩:=hrel;obtain ⟨f,rfl⟩:∃ g,f=g + 1:=⟨f - 1,by omega⟩
  have z0:wr.cell? ⟨w.heap.size,0,none⟩=some (.int .i64 0):=by simp [World.cell?,HM.out.blk]
  have z1:wr.cell? ⟨w.heap.size,1,none⟩=some (.int .i64 0):=by simp [World.cell?,HM.out.blk]
  have y0:wr.frozen? ⟨w.heap.size,0,none⟩=false:=by simp [World.frozen?,HM.out.blk]
  have y1:wr.frozen? ⟨w.heap.size,1,none⟩=false:=by simp [World.frozen?,HM.out.blk]
  clear ST HR;by_cases hlt:i < text.size
  ·have hby := Z2a (text := text) hlt;obtain ⟨c, hc⟩ := zX (Zc text i)
   rw [← hc] at hby;have hb2:=hby.symm;have HC:=lh hc;have hiI:(i:Int) < (text.size:Int):=by omega
   have wr1:IntKind.i64.wrap ((i:Int) + 1)=(i:Int) + 1:=IntWalk.i64_in _ (by omega);clear hby hc;by_cases hbl:c=32∨c=10
   ·have hq := HQ.out;rw [Zgf hlt (by rw [← HC.out]; rcases hbl with rfl | rfl <;> rfl)] at hq;have HQ2 := lh hq;clear hq HQ;rcases hbl with rfl | rfl
    all_goals
     go_wp2;go_roundw
     case rel=>exact ⟨i + 1,f + 1,l,_,rfl,by go_num,by omega,by omega,by omega,HM,HQ2⟩
     case measure=>simp [intOf]; omega
   ·have n32 : (c == 32) = false := by simp; omega
    have n10:(c == 10)=false:=by simp; omega
    have hnb:Z0x c=false:=by
     simp only [Z0x,Bool.or_eq_false_iff,decide_eq_false_iff_not];omega
    have hji:i=Z03 Z0x text (text.size - i) i:=(Zhl (by rw [← HC.out]; exact hnb)).symm;have HJ:=lh hji;clear hbl hnb hji;obtain ⟨LB,hLB⟩:=zX (Z13 c)
    have HLC:=lh (fun W=>Z93 W c);rw [← hLB] at HLC;have HLB:=lh hLB;clear hLB;go_wp2_with fail
    refine (HLC.out _).mono ?_;rintro e w1 ⟨rfl,hww⟩;rw [← hww];clear hww w1 HLC;cases LB
    ·obtain ⟨DB, hDB⟩ := zX (Z0q c)
     have HDC:=lh (fun W=>Z7u W c);rw [← hDB] at HDC;have HDB:=lh hDB;clear hDB;go_wp2_with fail
     refine (HDC.out _).mono ?_;rintro e w1 ⟨rfl,hww⟩;rw [← hww];clear hww w1 HDC;cases DB
     ·by_cases h39 : c = 39
      ·subst h39;obtain ⟨Q, hQ⟩ := zX (Z0z text (i + 1))
       have HQA:=lh hQ;have hst:Z0o text (text.size - i) (i + 1) []=Q:=by rw [hQ]; unfold Z0z; rw [show text.size + 1 - (i + 1)=text.size - i by omega]
       have HST:=lh hst;clear hQ hst hb2;go_wp2_with fail
       go_loop [5,12] (fun x sv=>∃ (m f2:Nat) (acc:List UInt8),x=.int .i64 m∧sv=.string ⟨acc.toArray⟩∧i + 1≤m∧m≤text.size∧text.size + 1≤m + f2∧acc.length≤m∧Hid (Z0o text f2 m acc=Q)) (fun x _=>text.size + 1 - (intOf x).toNat)
       case atStart=>exact ⟨i + 1,text.size - i,[],by go_num,rfl,by omega,by omega,by omega,by simp,HST⟩
       case round=>
        obtain ⟨m,f2,acc,rfl,rfl,hm1,hm2,hf2,hal,HQF⟩:=hrel;obtain ⟨g,rfl⟩:∃ g,f2=g + 1:=⟨f2 - 1,by omega⟩
        have hq:=HQF.out;simp only [Z0o] at hq;clear HST HQF wr1;have wr1:IntKind.i64.wrap ((m:Int) + 1)=(m:Int) + 1:=IntWalk.i64_in _ (by omega);by_cases hms:m < text.size
        ·have hby := Z2a (text := text) hms;obtain ⟨c2, hc2⟩ := zX (Zc text m)
         rw [← hc2] at hby;have hb3:=hby.symm;have HC2:=lh hc2;rw [← hc2] at hq;have hmI:(m:Int) < (text.size:Int):=by omega
         have hmE:((m:Int) == (text.size:Int))=false:=by simp; omega
         clear hby hc2;by_cases e10:c2=10
         ·subst e10;rw [Yb (.inr rfl)] at hq;have HQX:=lh hq.symm;clear hq;as_aux_lemma=>
           have hre:=Z1r HQ.out HJ.out hlt (Z5k (by rw [← HC.out]) (show Z0z text (i + 1)=([],3,m) by rw [← HQA.out]; exact HQX.out));have HRE:=lh hre;have BM:=lh (HM.out.bel.setCell (p:=⟨w.heap.size,0,none⟩) (Y5 _) (.int .i64 3));have BM2:=lh (BM.out.setCell (p:=⟨w.heap.size,1,none⟩) (Y5 _) (.int .i64 m));have EP:=lh (HM.out.put (.int .i64 3) (.int .i64 m));clear hre BM;go_wp2;refine bodyPost_ret (rres (cb:=w.heap.size) rfl rfl EP.out.1 EP.out.2) rfl ?_;rw [HRE.out];exact ⟨rfl,BM2.out⟩
         ·have n10b : (c2 == 10) = false := by simpa using e10
          rw [Y9 (by omega)] at hq;clear e10;by_cases e39:c2=39
          ·subst e39;rw [Yb rfl] at hq;have hsz2 : (⟨acc.toArray⟩ : ByteArray).size = acc.length := by simp [ByteArray.size]
           by_cases h500:500 < acc.length
           ·have h5I : (500 : Int) < (acc.length : Int) := by omega
            rw [Yb h500] at hq;have HQX:=lh hq.symm;clear hq;as_aux_lemma=>
             have hre:=Z1r HQ.out HJ.out hlt (Z9w (by rw [← HC.out]) (show Z0z text (i + 1)=([],4,m + 1) by rw [← HQA.out]; exact HQX.out));have HRE:=lh hre;have BM:=lh (HM.out.bel.setCell (p:=⟨w.heap.size,0,none⟩) (Y5 _) (.int .i64 4));have BM2:=lh (BM.out.setCell (p:=⟨w.heap.size,1,none⟩) (Y5 _) (.int .i64 i));have EP:=lh (HM.out.put (.int .i64 4) (.int .i64 i));clear hre BM;go_wp2;refine bodyPost_ret (rres (cb:=w.heap.size) rfl rfl EP.out.1 EP.out.2) rfl ?_;rw [HRE.out];exact ⟨rfl,BM2.out⟩
           ·have h5I : ¬ (500 : Int) < (acc.length : Int) := by omega
            rw [Y9 h500] at hq;have HQX:=lh hq.symm;clear hq;as_aux_lemma=>
             have hT:=show Z1f text i=.ok (⟨4,⟨acc.toArray⟩,0,i⟩,m + 1) from Zb1 (by rw [← HC.out]) (show Z0z text (i + 1)=(acc,0,m + 1) by rw [← HQA.out]; exact HQX.out);have HT:=lh hT;have HO:=lh HM.out.own;have hsz:=HM.out.bel.size;clear hT
             go_wp2_with (at_builtin; go_must (refine wpList_append_lies _ rfl (.tmp 199) (.tmp 203) 40 rfl (w.heap.size + 1) 48 i0 (.agg #[.int .i64 0,.string ⟨#[]⟩,.int .i64 0,.int .i64 0]) 4 40 Tryz.underlying40 hi hz0 hz1 hz2 rfl (by decide) v l.length (l.flatMap Tok.cells) rfl (HO.out.alloc _) ⟨wr.heap.size,0,none⟩ 1 1 (Tok.cells ⟨4,⟨acc.toArray⟩,0,i⟩) rfl rfl (Yi (cs:=(Tok.cells ⟨4,⟨acc.toArray⟩,0,i⟩).toArray) (t:=48) (fr:=(0,0)) (heap_alloc_new wr _)) (by simp [Tok.cells,Value.oneCell']) (by decide) (by unfold maxLen; omega) (by omega) (by simp; omega) (wr.heap.size + 1) (by simp) ?_); intro g cap w3 hown2 hgrow2 hat2 hgl2; have HG:=lh hgrow2; have HWO:=lh hown2; clear hgrow2 hown2 hat2 hgl2)
             have hlf:=Z21 HQ.out HJ.out hlt HT.out;have HLF:=lh hlf;have hm3:i < m + 1:=by omega
             clear hlf;go_roundw
             case rel=>exact ⟨m + 1,f,l ++ [⟨4,⟨acc.toArray⟩,0,i⟩],_,rfl,by go_num,by omega,by simp; omega,by omega,lh (HM.out.app HG.out HWO.out),HLF⟩
             case measure=>simp [intOf]; omega
          ·have n39b : (c2 == 39) = false := by simpa using e39
           rw [Y9 e39] at hq;clear e39;by_cases e92:c2=92
           ·subst e92;rw [Yb rfl] at hq;by_cases hms2 : m + 1 < text.size
            ·have hby := Z2a (text := text) hms2;obtain ⟨c3, hc3⟩ := zX (Zc text (m + 1))
             rw [← hc3] at hby;have hb4:=hby.symm;have HC3:=lh hc3;rw [Yb hms2,← hc3] at hq;have hmI3:(m:Int) + 1 < (text.size:Int):=by omega
             have hmE3:((m:Int) + 1 == (text.size:Int))=false:=by simp; omega
             have hmt:((m:Int) + 1).toNat=m + 1:=by omega
             have wr2:IntKind.i64.wrap ((m:Int) + 1 + 1)=(m:Int) + 1 + 1:=IntWalk.i64_in _ (by omega);clear hby hc3;by_cases e110:c3=110
             ·subst e110;have he : Z64 110 = some 10 := rfl;rw [he] at hq;simp only at hq;clear he;have HQX : Hid (Z0o text g (m + 2) (acc ++ [10]) = Q) := lh hq;clear hq;go_wp2;go_round
              case rel=>exact ⟨m + 2,g,acc ++ [10],by go_num,(by rw [← Zl8]),by omega,by omega,by omega,by simp; omega,HQX⟩
              case measure=>simp [intOf]; omega
             ·have n110 : (c3 == 110) = false := by simpa using e110
              by_cases f39:c3=39
              ·subst f39;have hu : text.data.getD (m + 1) 0 = 39 := Z3b (u := 39) HC3.out.symm;have he : Z64 39 = some 39 := rfl;rw [he] at hq;simp only at hq;clear he;have HQX : Hid (Z0o text g (m + 2) (acc ++ [39]) = Q) := lh hq;clear hq;go_wp2;go_round
               case rel=>exact ⟨m + 2,g,acc ++ [39],by go_num,(by have h:=Zak acc hms2; rw [hu] at h; rw [← h]),by omega,by omega,by omega,by simp; omega,HQX⟩
               case measure=>simp [intOf]; omega
              ·have m39 : (c3 == 39) = false := by simpa using f39
               by_cases f92:c3=92
               ·subst f92;have hu : text.data.getD (m + 1) 0 = 92 := Z3b (u := 92) HC3.out.symm;have he : Z64 92 = some 92 := rfl;rw [he] at hq;simp only at hq;clear he;have HQX : Hid (Z0o text g (m + 2) (acc ++ [92]) = Q) := lh hq;clear hq;go_wp2;go_round
                case rel=>exact ⟨m + 2,g,acc ++ [92],by go_num,(by have h:=Zak acc hms2; rw [hu] at h; rw [← h]),by omega,by omega,by omega,by simp; omega,HQX⟩
                case measure=>simp [intOf]; omega
               ·have m92 : (c3 == 92) = false := by simpa using f92
                have he:Z64 c3=none:=by unfold Z64; rw [Y9 e110,Y9 f39,Y9 f92]
                rw [he] at hq;simp only at hq;clear he;have HQX:=lh hq.symm;clear hq e110 f39 f92;as_aux_lemma=>
                 have hre:=Z1r HQ.out HJ.out hlt (Z5k (by rw [← HC.out]) (show Z0z text (i + 1)=([],3,m + 1) by rw [← HQA.out]; exact HQX.out));have HRE:=lh hre;have BM:=lh (HM.out.bel.setCell (p:=⟨w.heap.size,0,none⟩) (Y5 _) (.int .i64 3));have BM2:=lh (BM.out.setCell (p:=⟨w.heap.size,1,none⟩) (Y5 _) (.int .i64 ((m:Int) + 1)));have EP:=lh (HM.out.put (.int .i64 3) (.int .i64 ((m:Int) + 1)));clear hre BM;go_wp2;refine bodyPost_ret (rres (cb:=w.heap.size) rfl rfl EP.out.1 EP.out.2) rfl ?_;rw [HRE.out];exact ⟨rfl,BM2.out⟩
            ·have hmE3 : ((m : Int) + 1 == (text.size : Int)) = true := by simp; omega
             rw [Y9 hms2] at hq;have HQX:=lh hq.symm;clear hq;as_aux_lemma=>
              have hre:=Z1r HQ.out HJ.out hlt (Z5k (by rw [← HC.out]) (show Z0z text (i + 1)=([],3,m + 1) by rw [← HQA.out]; exact HQX.out));have HRE:=lh hre;have BM:=lh (HM.out.bel.setCell (p:=⟨w.heap.size,0,none⟩) (Y5 _) (.int .i64 3));have BM2:=lh (BM.out.setCell (p:=⟨w.heap.size,1,none⟩) (Y5 _) (.int .i64 ((m:Int) + 1)));have EP:=lh (HM.out.put (.int .i64 3) (.int .i64 ((m:Int) + 1)));clear hre BM;go_wp2;refine bodyPost_ret (rres (cb:=w.heap.size) rfl rfl EP.out.1 EP.out.2) rfl ?_;rw [HRE.out];exact ⟨rfl,BM2.out⟩
           ·have n92 : (c2 != 92) = true := by simpa using e92
            rw [Y9 e92] at hq;clear e92;have HQX:Hid (Z0o text g (m + 1) (acc ++ [text.data.getD m 0])=Q):=lh hq;clear hq;go_wp2;go_round
            case rel=>exact ⟨m + 1,g,acc ++ [text.data.getD m 0],by go_num,(by rw [← Zak acc hms]),by omega,by omega,by omega,by simp; omega,HQX⟩
            case measure=>simp [intOf]; omega
        ·have hmE : ((m : Int) == (text.size : Int)) = true := by simp; omega
         rw [Yb (.inl (by omega))] at hq;have HQX:=lh hq.symm;clear hq;as_aux_lemma=>
          have hre:=Z1r HQ.out HJ.out hlt (Z5k (by rw [← HC.out]) (show Z0z text (i + 1)=([],3,m) by rw [← HQA.out]; exact HQX.out));have HRE:=lh hre;have BM:=lh (HM.out.bel.setCell (p:=⟨w.heap.size,0,none⟩) (Y5 _) (.int .i64 3));have BM2:=lh (BM.out.setCell (p:=⟨w.heap.size,1,none⟩) (Y5 _) (.int .i64 m));have EP:=lh (HM.out.put (.int .i64 3) (.int .i64 m));clear hre BM;go_wp2;refine bodyPost_ret (rres (cb:=w.heap.size) rfl rfl EP.out.1 EP.out.2) rfl ?_;rw [HRE.out];exact ⟨rfl,BM2.out⟩
      ·have n39 : (c == 39) = false := by simpa using h39
       have HN39:=lh h39;clear h39;have hcl:∀ x∈Z2l,x≠⟨#[]⟩:=Zdd;have HSL:=lh (Zin (text:=text) (j:=i) hlt);have hrl:Z2l.length=19:=rfl;have HRL:=lh hrl;obtain ⟨w1,hw1⟩:=zX (wr.alloc (.cells (Z2l.map Value.string).toArray 9))
       have hb1:Below wr.heap.size wr w1:=by rw [hw1]; exact (Y8 _ _).alloc (Y5 _) _
       have hcell:∀ (n:Nat) s,Z2l[n]?=some s→w1.cell? ⟨wr.heap.size,n,none⟩=some (.string s):=fun n s hs=>by
        have h:=(Go.MapKept.heap_alloc wr (.cells (Z2l.map Value.string).toArray 9)).1;rw [← hw1] at h;unfold World.cell?;rw [h];simp [hs]
       have hsz1:w1.heap.size=wr.heap.size + 1:=by rw [hw1]; simp
       have HM1:=lh (HM.out.on hb1);have HCELL:=lh hcell;have HCL:=lh hcl;have HB1:=lh hb1;have HSZ1:=lh hsz1;have HW1:=lh hw1;clear hcl hrl hw1 hb1 hcell hsz1 hb2;go_wp2_with fail
       obtain ⟨sg,hsg⟩:=zX wr.heap.size
       have hhw:=HW1.out.symm;unfold Z2l Z9i lit3 at hhw;simp only [List.map_cons,List.map_nil] at hhw;rw [← hsg] at HCELL ⊢;clear hsg hhw z0 z1 y0 y1;go_loopw [13,207] (fun sv x w2=>∃ n:Nat,w2=w1∧x=.int .i64 n∧n≤19∧sv=.string (Z2h text i (Z2l.take n))) (fun _ x _=>19 - (intOf x).toNat)
       case atStart=>exact ⟨0,HW1.out.symm,rfl,by omega,rfl⟩
       case round=>
        obtain ⟨n,rfl,rfl,hn,rfl⟩:=hrel;clear HW1;have hiI2:(i:Int)≤(text.size:Int):=by omega
        by_cases hn19:n < 19
        ·obtain ⟨s, hs⟩ : ∃ s, Z2l[n]? = some s := ⟨_, Yd (by rw [HRL.out]; exact hn19)⟩
         have cs:=HCELL.out n s hs;have hsnoc:Z2h text i (Z2l.take (n + 1))=if Z2h text i (Z2l.take n)=⟨#[]⟩ then (if preS text i s then s else ⟨#[]⟩) else Z2h text i (Z2l.take n):=by
          obtain ⟨hl,he⟩:=List.getElem?_eq_some_iff.1 hs;rw [List.take_succ_eq_append_getElem hl,he];exact Zd5 _ _ _ _ (fun x hx=>HCL.out x (List.mem_of_mem_take hx))
         have hP:=Tryz.strings_HasPrefix (text.extract i text.size) s wr;have hpe:Lib.hasPrefix (text.extract i text.size).data.toList s.data.toList=preS text i s:=by unfold Lib.hasPrefix preS; rw [extract_drop]
         rw [hpe] at hP;obtain ⟨pb,hpb⟩:=zX (preS text i s)
         rw [← hpb] at hP hsnoc;have HP:=lh hP;obtain ⟨S,hS⟩:=zX (Z2h text i (Z2l.take n))
         rw [← hS] at hsnoc ⊢;by_cases hE:S=⟨#[]⟩
         ·subst hE;rw [Yb rfl] at hsnoc;have HSN := lh hsnoc;clear hs hsnoc hP hpe hpb hS;go_wp2_with fail
          refine HP.out.mono ?_;rintro e w2 ⟨rfl,hww⟩;rw [hww];clear hww w2 HP;cases pb
          ·go_wp2;go_roundw
           case rel=>exact ⟨n + 1,trivial,by go_num,by omega,by rw [HSN.out]; rfl⟩
           case measure=>simp [intOf]; omega
          ·go_wp2;go_roundw
           case rel=>exact ⟨n + 1,trivial,by go_num,by omega,by rw [HSN.out]; rfl⟩
           case measure=>simp [intOf]; omega
         ·have n0 : (S.toList == (⟨#[]⟩ : ByteArray).toList) = false := by rw [Z3u]; simp [Z15]; exact hE
          have n1:(S.toList == [])=false:=by
           rwa [show (⟨#[]⟩:ByteArray).toList=[] by kernel_rfl] at n0
          rw [Y9 hE] at hsnoc;have HSN:=lh hsnoc;clear n0 hs hsnoc hP hpe hpb hS hE HP;go_wp2;go_roundw
          case rel=>exact ⟨n + 1,trivial,by go_num,by omega,by rw [HSN.out]⟩
          case measure=>simp [intOf]; omega
        ·have hn2 : n = 19 := by omega
         subst hn2;have htk:Z2l.take 19=Z2l:=Ym (by rw [HRL.out]; exact Y5 _);rw [htk];clear htk;have z0:wr.cell? ⟨w.heap.size,0,none⟩=some (.int .i64 0):=by simp [World.cell?,HM1.out.blk]
         have z1:wr.cell? ⟨w.heap.size,1,none⟩=some (.int .i64 0):=by simp [World.cell?,HM1.out.blk]
         have y0:wr.frozen? ⟨w.heap.size,0,none⟩=false:=by simp [World.frozen?,HM1.out.blk]
         have y1:wr.frozen? ⟨w.heap.size,1,none⟩=false:=by simp [World.frozen?,HM1.out.blk]
         rcases HSL.out with ⟨h1,h2,h3⟩ | ⟨h1,h2,h3,h4,h5,h6⟩
         ·rw [h1];have hre:=Z1r HQ.out HJ.out hlt (Z89 (by rw [← HC.out]; exact HLB.out.symm) (by rw [← HC.out]; exact HDB.out.symm) (by rw [← HC.out]; exact HN39.out) ⟨h2,h3⟩);clear h1 h2 h3 HSL;as_aux_lemma=>
           have HRE:=lh hre;have BM:=lh (HM1.out.bel.setCell (p:=⟨w.heap.size,0,none⟩) (Y5 _) (.int .i64 3));have BM2:=lh (BM.out.setCell (p:=⟨w.heap.size,1,none⟩) (Y5 _) (.int .i64 i));have EP:=lh (HM1.out.put (.int .i64 3) (.int .i64 i));clear hre BM;go_wp2;refine bodyPost_ret (rres (cb:=w.heap.size) rfl rfl EP.out.1 EP.out.2) rfl ?_;rw [HRE.out];exact ⟨rfl,BM2.out⟩
         ·obtain ⟨S, hS⟩ := zX (Z2h text i Z2l)
          rw [← hS] at h1 h3 h4 ⊢;have n0:(S.toList == (⟨#[]⟩:ByteArray).toList)=false:=by rw [Z3u]; simp [Z15]; exact h1
          have n1:(S.toList == [])=false:=by
           rwa [show (⟨#[]⟩:ByteArray).toList=[] by kernel_rfl] at n0
          have ht:=Z7p (text:=text) (j:=i) (by rw [← HC.out]; exact HLB.out.symm) (by rw [← HC.out]; exact HDB.out.symm) (by rw [← HC.out]; exact HN39.out) h2;rw [← h3] at ht;obtain ⟨qn,hqn⟩:=zX (Z0a text i)
          rw [← hqn] at ht h4 h5 h6;have HTT:=lh ht;have wr9:IntKind.i64.wrap ((i:Int) + (qn:Int))=(i:Int) + (qn:Int):=IntWalk.i64_in _ (by omega);clear h1 h2 h3 n0 hS hqn ht HSL;as_aux_lemma=>
           have hT:=HTT.out;have HT:=lh hT;have HO:=lh HM1.out.own;have hsz:=HM1.out.bel.size;clear hT
           go_wp2_with (at_builtin; go_must (refine wpList_append_lies _ rfl (.tmp 230) (.tmp 234) 40 rfl (w.heap.size + 1) 48 i0 (.agg #[.int .i64 0,.string ⟨#[]⟩,.int .i64 0,.int .i64 0]) 4 40 Tryz.underlying40 hi hz0 hz1 hz2 rfl (by decide) v l.length (l.flatMap Tok.cells) rfl (HO.out.alloc _) ⟨wr.heap.size,0,none⟩ 1 1 (Tok.cells ⟨5,S,0,i⟩) rfl rfl (Yi (cs:=(Tok.cells ⟨5,S,0,i⟩).toArray) (t:=48) (fr:=(0,0)) (heap_alloc_new wr _)) (by simp [Tok.cells,Value.oneCell']) (by decide) (by unfold maxLen; omega) (by omega) (by simp; omega) (wr.heap.size + 1) (by simp) ?_); intro g cap w3 hown2 hgrow2 hat2 hgl2; have HG:=lh hgrow2; have HWO:=lh hown2; clear hgrow2 hown2 hat2 hgl2)
           have hlf:=Z21 HQ.out HJ.out hlt HT.out;have HLF:=lh hlf;have hm3:i < i + qn:=by omega
           clear hlf;go_roundw
           case rel=>exact ⟨i + qn,f,l ++ [⟨5,S,0,i⟩],_,rfl,by go_num,by omega,by simp; omega,by omega,lh (HM1.out.app HG.out HWO.out),HLF⟩
           case measure=>simp [intOf]; omega
     ·obtain ⟨k, hk⟩ := zX (Z03 Z0q text (text.size - i) i)
      obtain ⟨h1,h2,h3,h4⟩:=Z12 Z0q text (text.size - i) i (Y5 _) his;rw [← hk] at h1 h2 h3 h4;have HK:=lh hk;have H3:=lh h3;have H4:=lh h4;clear hk h3 h4 wr1 hb2;go_wp2_with fail
      go_loop [5] (fun x=>∃ m:Nat,x=.int .i64 m∧i≤m∧m≤k) (fun x=>text.size - (intOf x).toNat)
      case atStart=>exact ⟨i,rfl,Y5 _,h1⟩
      case round=>
       obtain ⟨m,rfl,hm1,hm2⟩:=hrel;by_cases hms:m < text.size
       ·have hby := Z2a (text := text) hms;obtain ⟨c2, hc2⟩ := zX (Zc text m)
        rw [← hc2] at hby;have hb3:=hby.symm;have HD2:=lh (fun W=>Z7u W c2);obtain ⟨D2,hD2⟩:=zX (Z0q c2)
        rw [← hD2] at HD2;have HWD:=lh hD2;have HC2:=lh hc2;have hmI:(m:Int) < (text.size:Int):=by omega
        clear hby hc2 hD2;go_wp2_with fail
        refine (HD2.out _).mono ?_;rintro e w1 ⟨rfl,hww⟩;rw [← hww];clear hww w1 HD2;by_cases hmk:m < k
        ·have hw : D2 = true := by rw [HWD.out, HC2.out]; exact H3.out m hm1 hmk
         subst hw;go_wp2;go_round
         case rel=>exact ⟨m + 1,by go_num,by omega,by omega⟩
         case measure=>simp [intOf]; omega
        ·have hmk2 : m = k := by omega
         subst hmk2;have hw:D2=false:=by rw [HWD.out,HC2.out]; exact H4.out hms
         subst hw;have hkn:m≤text.size:=by omega
         have hxs:(text.extract i m).size=m - i:=by rw [ByteArray.size_extract]; omega
         obtain ⟨s,hs⟩:=zX (text.extract i m)
         rw [← hs] at hxs;have HS:=lh hs;have hmI2:(m:Int)≤(text.size:Int):=by omega
         have hiI2:(i:Int)≤(m:Int):=by omega
         have hm3:i < m:=by
          rcases Nat.lt_or_ge i m with h | h;·exact h
          ·exfalso;have e : i = m := by omega
           subst e;have h2:=H4.out hlt;rw [← HC.out] at h2;have h3:=HDB.out.symm;rw [h2] at h3;cases h3
         by_cases h10:10 < m - i
         ·have h10I : (10 : Int) < (s.size : Int) := by omega
          have h10J:(10:Int) < ((m - i:Nat):Int):=by omega
          clear hs;as_aux_lemma=>
           have hre:=Z1r HQ.out HJ.out hlt (Z4m (by rw [← HC.out]; exact HLB.out.symm) (by rw [← HC.out]; exact HDB.out.symm) HK.out (.inl h10));have HRE:=lh hre;have BM:=lh (HM.out.bel.setCell (p:=⟨w.heap.size,0,none⟩) (Y5 _) (.int .i64 3));have BM2:=lh (BM.out.setCell (p:=⟨w.heap.size,1,none⟩) (Y5 _) (.int .i64 i));have EP:=lh (HM.out.put (.int .i64 3) (.int .i64 i));clear hre BM;go_wp2;refine bodyPost_ret (rres (cb:=w.heap.size) rfl rfl EP.out.1 EP.out.2) rfl ?_;rw [HRE.out];exact ⟨rfl,BM2.out⟩
         ·have h10I : ¬ (10 : Int) < ((m - i : Nat) : Int) := by omega
          by_cases h1i:1 < m - i
          ·have h1I : (1 : Int) < ((m - i : Nat) : Int) := by omega
           by_cases h48:c=48
           ·subst h48;clear hs;as_aux_lemma=>
             have hre:=Z1r HQ.out HJ.out hlt (Z4m (by rw [← HC.out]; exact HLB.out.symm) (by rw [← HC.out]; exact HDB.out.symm) HK.out (.inr ⟨h1i,HC.out.symm⟩));have HRE:=lh hre;have BM:=lh (HM.out.bel.setCell (p:=⟨w.heap.size,0,none⟩) (Y5 _) (.int .i64 3));have BM2:=lh (BM.out.setCell (p:=⟨w.heap.size,1,none⟩) (Y5 _) (.int .i64 i));have EP:=lh (HM.out.put (.int .i64 3) (.int .i64 i));clear hre BM;go_wp2;refine bodyPost_ret (rres (cb:=w.heap.size) rfl rfl EP.out.1 EP.out.2) rfl ?_;rw [HRE.out];exact ⟨rfl,BM2.out⟩
           ·have n48 : (c == 48) = false := by simpa using h48
            have HFM:Hid (¬ (10 < m - i∨(1 < m - i∧Zc text i=48))):=lh (by rw [← HC.out]; omega);clear h48;have hat:=Z8h (text:=text) (i:=i) (m:=m) hm3 h2 H3.out;obtain ⟨n,hn⟩:=zX (numF text m (m - i) i 0)
            rw [← hn] at hat;have HN:=lh hn;have hss:s.size≤18:=by omega
            rw [← HS.out] at hat;have HAT:=lh (Tryz.strconv_Atoi s n hss hat wr);clear hat hn z0 z1 y0 y1;go_wp2_with fail
            rw [← hs];clear hs;refine HAT.out.mono ?_;rintro e w1 ⟨rfl,tt,hww⟩;have hb1:Below wr.heap.size wr w1:=by rw [hww]; exact Joins.below_bytesWorld _ _ _ _ (Y5 _)
            have HM1:=lh (HM.out.on hb1);clear hww hb1 HAT;have z0:w1.cell? ⟨w.heap.size,0,none⟩=some (.int .i64 0):=by simp [World.cell?,HM1.out.blk]
            have z1:w1.cell? ⟨w.heap.size,1,none⟩=some (.int .i64 0):=by simp [World.cell?,HM1.out.blk]
            have y0:w1.frozen? ⟨w.heap.size,0,none⟩=false:=by simp [World.frozen?,HM1.out.blk]
            have y1:w1.frozen? ⟨w.heap.size,1,none⟩=false:=by simp [World.frozen?,HM1.out.blk]
            by_cases hbig:1000000000 < n
            ·as_aux_lemma=>
              have hre:=Z1r HQ.out HJ.out hlt (Z4r (by rw [← HC.out]; exact HLB.out.symm) (by rw [← HC.out]; exact HDB.out.symm) HK.out HFM.out (by rw [← HN.out]; exact hbig));have HRE:=lh hre;have BM:=lh (HM1.out.bel.setCell (p:=⟨w.heap.size,0,none⟩) (Y5 _) (.int .i64 2));have BM2:=lh (BM.out.setCell (p:=⟨w.heap.size,1,none⟩) (Y5 _) (.int .i64 i));have EP:=lh (HM1.out.put (.int .i64 2) (.int .i64 i));clear hre BM;go_wp2;refine bodyPost_ret (rres (cb:=w.heap.size) rfl rfl EP.out.1 EP.out.2) rfl ?_;rw [HRE.out];exact ⟨rfl,BM2.out⟩
            ·as_aux_lemma=>
              have hT:=show Z1f text i=.ok (⟨3,⟨#[]⟩,n,i⟩,m) by rw [HN.out]; exact Z6e (by rw [← HC.out]; exact HLB.out.symm) (by rw [← HC.out]; exact HDB.out.symm) HK.out HFM.out (by rw [← HN.out]; exact hbig)
              have HT:=lh hT;have HO:=lh HM1.out.own;have hsz:=HM1.out.bel.size;clear hT
              go_wp2_with (at_builtin; go_must (refine wpList_append_lies _ rfl (.tmp 125) (.tmp 129) 40 rfl (w.heap.size + 1) 48 i0 (.agg #[.int .i64 0,.string ⟨#[]⟩,.int .i64 0,.int .i64 0]) 4 40 Tryz.underlying40 hi hz0 hz1 hz2 rfl (by decide) v l.length (l.flatMap Tok.cells) rfl (HO.out.alloc _) ⟨w1.heap.size,0,none⟩ 1 1 (Tok.cells ⟨3,⟨#[]⟩,n,i⟩) rfl rfl (Yi (cs:=(Tok.cells ⟨3,⟨#[]⟩,n,i⟩).toArray) (t:=48) (fr:=(0,0)) (heap_alloc_new w1 _)) (by simp [Tok.cells,Value.oneCell']) (by decide) (by unfold maxLen; omega) (by omega) (by simp; omega) (w1.heap.size + 1) (by simp) ?_); intro g cap w3 hown2 hgrow2 hat2 hgl2; have HG:=lh hgrow2; have HWO:=lh hown2; clear hgrow2 hown2 hat2 hgl2)
              have hlf:=Z21 HQ.out HJ.out hlt HT.out;have HLF:=lh hlf;have hm3:i < m:=hm3;clear hlf;go_roundw
              case rel=>exact ⟨m,f,l ++ [⟨3,⟨#[]⟩,n,i⟩],_,rfl,by go_num,by omega,by simp; omega,by omega,lh (HM1.out.app HG.out HWO.out),HLF⟩
              case measure=>simp [intOf]; omega
          ·have h1I : ¬ (1 : Int) < ((m - i : Nat) : Int) := by omega
           have HFM:Hid (¬ (10 < m - i∨(1 < m - i∧Zc text i=48))):=lh (by omega);have hat:=Z8h (text:=text) (i:=i) (m:=m) hm3 h2 H3.out;obtain ⟨n,hn⟩:=zX (numF text m (m - i) i 0)
           rw [← hn] at hat;have HN:=lh hn;have hss:s.size≤18:=by omega
           rw [← HS.out] at hat;have HAT:=lh (Tryz.strconv_Atoi s n hss hat wr);clear hat hn z0 z1 y0 y1;go_wp2_with fail
           rw [← hs];clear hs;refine HAT.out.mono ?_;rintro e w1 ⟨rfl,tt,hww⟩;have hb1:Below wr.heap.size wr w1:=by rw [hww]; exact Joins.below_bytesWorld _ _ _ _ (Y5 _)
           have HM1:=lh (HM.out.on hb1);clear hww hb1 HAT;have z0:w1.cell? ⟨w.heap.size,0,none⟩=some (.int .i64 0):=by simp [World.cell?,HM1.out.blk]
           have z1:w1.cell? ⟨w.heap.size,1,none⟩=some (.int .i64 0):=by simp [World.cell?,HM1.out.blk]
           have y0:w1.frozen? ⟨w.heap.size,0,none⟩=false:=by simp [World.frozen?,HM1.out.blk]
           have y1:w1.frozen? ⟨w.heap.size,1,none⟩=false:=by simp [World.frozen?,HM1.out.blk]
           by_cases hbig:1000000000 < n
           ·as_aux_lemma=>
             have hre:=Z1r HQ.out HJ.out hlt (Z4r (by rw [← HC.out]; exact HLB.out.symm) (by rw [← HC.out]; exact HDB.out.symm) HK.out HFM.out (by rw [← HN.out]; exact hbig));have HRE:=lh hre;have BM:=lh (HM1.out.bel.setCell (p:=⟨w.heap.size,0,none⟩) (Y5 _) (.int .i64 2));have BM2:=lh (BM.out.setCell (p:=⟨w.heap.size,1,none⟩) (Y5 _) (.int .i64 i));have EP:=lh (HM1.out.put (.int .i64 2) (.int .i64 i));clear hre BM;go_wp2;refine bodyPost_ret (rres (cb:=w.heap.size) rfl rfl EP.out.1 EP.out.2) rfl ?_;rw [HRE.out];exact ⟨rfl,BM2.out⟩
           ·as_aux_lemma=>
             have hT:=show Z1f text i=.ok (⟨3,⟨#[]⟩,n,i⟩,m) by rw [HN.out]; exact Z6e (by rw [← HC.out]; exact HLB.out.symm) (by rw [← HC.out]; exact HDB.out.symm) HK.out HFM.out (by rw [← HN.out]; exact hbig)
             have HT:=lh hT;have HO:=lh HM1.out.own;have hsz:=HM1.out.bel.size;clear hT
             go_wp2_with (at_builtin; go_must (refine wpList_append_lies _ rfl (.tmp 125) (.tmp 129) 40 rfl (w.heap.size + 1) 48 i0 (.agg #[.int .i64 0,.string ⟨#[]⟩,.int .i64 0,.int .i64 0]) 4 40 Tryz.underlying40 hi hz0 hz1 hz2 rfl (by decide) v l.length (l.flatMap Tok.cells) rfl (HO.out.alloc _) ⟨w1.heap.size,0,none⟩ 1 1 (Tok.cells ⟨3,⟨#[]⟩,n,i⟩) rfl rfl (Yi (cs:=(Tok.cells ⟨3,⟨#[]⟩,n,i⟩).toArray) (t:=48) (fr:=(0,0)) (heap_alloc_new w1 _)) (by simp [Tok.cells,Value.oneCell']) (by decide) (by unfold maxLen; omega) (by omega) (by simp; omega) (w1.heap.size + 1) (by simp) ?_); intro g cap w3 hown2 hgrow2 hat2 hgl2; have HG:=lh hgrow2; have HWO:=lh hown2; clear hgrow2 hown2 hat2 hgl2)
             have hlf:=Z21 HQ.out HJ.out hlt HT.out;have HLF:=lh hlf;have hm3:i < m:=hm3;clear hlf;go_roundw
             case rel=>exact ⟨m,f,l ++ [⟨3,⟨#[]⟩,n,i⟩],_,rfl,by go_num,by omega,by simp; omega,by omega,lh (HM1.out.app HG.out HWO.out),HLF⟩
             case measure=>simp [intOf]; omega
       ·have hmk2 : m = k := by omega
        subst hmk2;have hms2:text.size≤m:=by omega
        have hmn:(text.size:Int)≤(m:Int):=by omega
        have hkn:m≤text.size:=by omega
        have hxs:(text.extract i m).size=m - i:=by rw [ByteArray.size_extract]; omega
        obtain ⟨s,hs⟩:=zX (text.extract i m)
        rw [← hs] at hxs;have HS:=lh hs;have hmI2:(m:Int)≤(text.size:Int):=by omega
        have hiI2:(i:Int)≤(m:Int):=by omega
        have hm3:i < m:=by
         rcases Nat.lt_or_ge i m with h | h;·exact h
         ·exfalso;have e : i = m := by omega
          subst e;have h2:=H4.out hlt;rw [← HC.out] at h2;have h3:=HDB.out.symm;rw [h2] at h3;cases h3
        by_cases h10:10 < m - i
        ·have h10I : (10 : Int) < (s.size : Int) := by omega
         have h10J:(10:Int) < ((m - i:Nat):Int):=by omega
         clear hs;as_aux_lemma=>
          have hre:=Z1r HQ.out HJ.out hlt (Z4m (by rw [← HC.out]; exact HLB.out.symm) (by rw [← HC.out]; exact HDB.out.symm) HK.out (.inl h10));have HRE:=lh hre;have BM:=lh (HM.out.bel.setCell (p:=⟨w.heap.size,0,none⟩) (Y5 _) (.int .i64 3));have BM2:=lh (BM.out.setCell (p:=⟨w.heap.size,1,none⟩) (Y5 _) (.int .i64 i));have EP:=lh (HM.out.put (.int .i64 3) (.int .i64 i));clear hre BM;go_wp2;refine bodyPost_ret (rres (cb:=w.heap.size) rfl rfl EP.out.1 EP.out.2) rfl ?_;rw [HRE.out];exact ⟨rfl,BM2.out⟩
        ·have h10I : ¬ (10 : Int) < ((m - i : Nat) : Int) := by omega
         by_cases h1i:1 < m - i
         ·have h1I : (1 : Int) < ((m - i : Nat) : Int) := by omega
          by_cases h48:c=48
          ·subst h48;clear hs;as_aux_lemma=>
            have hre:=Z1r HQ.out HJ.out hlt (Z4m (by rw [← HC.out]; exact HLB.out.symm) (by rw [← HC.out]; exact HDB.out.symm) HK.out (.inr ⟨h1i,HC.out.symm⟩));have HRE:=lh hre;have BM:=lh (HM.out.bel.setCell (p:=⟨w.heap.size,0,none⟩) (Y5 _) (.int .i64 3));have BM2:=lh (BM.out.setCell (p:=⟨w.heap.size,1,none⟩) (Y5 _) (.int .i64 i));have EP:=lh (HM.out.put (.int .i64 3) (.int .i64 i));clear hre BM;go_wp2;refine bodyPost_ret (rres (cb:=w.heap.size) rfl rfl EP.out.1 EP.out.2) rfl ?_;rw [HRE.out];exact ⟨rfl,BM2.out⟩
          ·have n48 : (c == 48) = false := by simpa using h48
           have HFM:Hid (¬ (10 < m - i∨(1 < m - i∧Zc text i=48))):=lh (by rw [← HC.out]; omega);clear h48;have hat:=Z8h (text:=text) (i:=i) (m:=m) hm3 h2 H3.out;obtain ⟨n,hn⟩:=zX (numF text m (m - i) i 0)
           rw [← hn] at hat;have HN:=lh hn;have hss:s.size≤18:=by omega
           rw [← HS.out] at hat;have HAT:=lh (Tryz.strconv_Atoi s n hss hat wr);clear hat hn z0 z1 y0 y1;go_wp2_with fail
           rw [← hs];clear hs;refine HAT.out.mono ?_;rintro e w1 ⟨rfl,tt,hww⟩;have hb1:Below wr.heap.size wr w1:=by rw [hww]; exact Joins.below_bytesWorld _ _ _ _ (Y5 _)
           have HM1:=lh (HM.out.on hb1);clear hww hb1 HAT;have z0:w1.cell? ⟨w.heap.size,0,none⟩=some (.int .i64 0):=by simp [World.cell?,HM1.out.blk]
           have z1:w1.cell? ⟨w.heap.size,1,none⟩=some (.int .i64 0):=by simp [World.cell?,HM1.out.blk]
           have y0:w1.frozen? ⟨w.heap.size,0,none⟩=false:=by simp [World.frozen?,HM1.out.blk]
           have y1:w1.frozen? ⟨w.heap.size,1,none⟩=false:=by simp [World.frozen?,HM1.out.blk]
           by_cases hbig:1000000000 < n
           ·as_aux_lemma=>
             have hre:=Z1r HQ.out HJ.out hlt (Z4r (by rw [← HC.out]; exact HLB.out.symm) (by rw [← HC.out]; exact HDB.out.symm) HK.out HFM.out (by rw [← HN.out]; exact hbig));have HRE:=lh hre;have BM:=lh (HM1.out.bel.setCell (p:=⟨w.heap.size,0,none⟩) (Y5 _) (.int .i64 2));have BM2:=lh (BM.out.setCell (p:=⟨w.heap.size,1,none⟩) (Y5 _) (.int .i64 i));have EP:=lh (HM1.out.put (.int .i64 2) (.int .i64 i));clear hre BM;go_wp2;refine bodyPost_ret (rres (cb:=w.heap.size) rfl rfl EP.out.1 EP.out.2) rfl ?_;rw [HRE.out];exact ⟨rfl,BM2.out⟩
           ·as_aux_lemma=>
             have hT:=show Z1f text i=.ok (⟨3,⟨#[]⟩,n,i⟩,m) by rw [HN.out]; exact Z6e (by rw [← HC.out]; exact HLB.out.symm) (by rw [← HC.out]; exact HDB.out.symm) HK.out HFM.out (by rw [← HN.out]; exact hbig)
             have HT:=lh hT;have HO:=lh HM1.out.own;have hsz:=HM1.out.bel.size;clear hT
             go_wp2_with (at_builtin; go_must (refine wpList_append_lies _ rfl (.tmp 125) (.tmp 129) 40 rfl (w.heap.size + 1) 48 i0 (.agg #[.int .i64 0,.string ⟨#[]⟩,.int .i64 0,.int .i64 0]) 4 40 Tryz.underlying40 hi hz0 hz1 hz2 rfl (by decide) v l.length (l.flatMap Tok.cells) rfl (HO.out.alloc _) ⟨w1.heap.size,0,none⟩ 1 1 (Tok.cells ⟨3,⟨#[]⟩,n,i⟩) rfl rfl (Yi (cs:=(Tok.cells ⟨3,⟨#[]⟩,n,i⟩).toArray) (t:=48) (fr:=(0,0)) (heap_alloc_new w1 _)) (by simp [Tok.cells,Value.oneCell']) (by decide) (by unfold maxLen; omega) (by omega) (by simp; omega) (w1.heap.size + 1) (by simp) ?_); intro g cap w3 hown2 hgrow2 hat2 hgl2; have HG:=lh hgrow2; have HWO:=lh hown2; clear hgrow2 hown2 hat2 hgl2)
             have hlf:=Z21 HQ.out HJ.out hlt HT.out;have HLF:=lh hlf;have hm3:i < m:=hm3;clear hlf;go_roundw
             case rel=>exact ⟨m,f,l ++ [⟨3,⟨#[]⟩,n,i⟩],_,rfl,by go_num,by omega,by simp; omega,by omega,lh (HM1.out.app HG.out HWO.out),HLF⟩
             case measure=>simp [intOf]; omega
         ·have h1I : ¬ (1 : Int) < ((m - i : Nat) : Int) := by omega
          have HFM:Hid (¬ (10 < m - i∨(1 < m - i∧Zc text i=48))):=lh (by omega);have hat:=Z8h (text:=text) (i:=i) (m:=m) hm3 h2 H3.out;obtain ⟨n,hn⟩:=zX (numF text m (m - i) i 0)
          rw [← hn] at hat;have HN:=lh hn;have hss:s.size≤18:=by omega
          rw [← HS.out] at hat;have HAT:=lh (Tryz.strconv_Atoi s n hss hat wr);clear hat hn z0 z1 y0 y1;go_wp2_with fail
          rw [← hs];clear hs;refine HAT.out.mono ?_;rintro e w1 ⟨rfl,tt,hww⟩;have hb1:Below wr.heap.size wr w1:=by rw [hww]; exact Joins.below_bytesWorld _ _ _ _ (Y5 _)
          have HM1:=lh (HM.out.on hb1);clear hww hb1 HAT;have z0:w1.cell? ⟨w.heap.size,0,none⟩=some (.int .i64 0):=by simp [World.cell?,HM1.out.blk]
          have z1:w1.cell? ⟨w.heap.size,1,none⟩=some (.int .i64 0):=by simp [World.cell?,HM1.out.blk]
          have y0:w1.frozen? ⟨w.heap.size,0,none⟩=false:=by simp [World.frozen?,HM1.out.blk]
          have y1:w1.frozen? ⟨w.heap.size,1,none⟩=false:=by simp [World.frozen?,HM1.out.blk]
          by_cases hbig:1000000000 < n
          ·as_aux_lemma=>
            have hre:=Z1r HQ.out HJ.out hlt (Z4r (by rw [← HC.out]; exact HLB.out.symm) (by rw [← HC.out]; exact HDB.out.symm) HK.out HFM.out (by rw [← HN.out]; exact hbig));have HRE:=lh hre;have BM:=lh (HM1.out.bel.setCell (p:=⟨w.heap.size,0,none⟩) (Y5 _) (.int .i64 2));have BM2:=lh (BM.out.setCell (p:=⟨w.heap.size,1,none⟩) (Y5 _) (.int .i64 i));have EP:=lh (HM1.out.put (.int .i64 2) (.int .i64 i));clear hre BM;go_wp2;refine bodyPost_ret (rres (cb:=w.heap.size) rfl rfl EP.out.1 EP.out.2) rfl ?_;rw [HRE.out];exact ⟨rfl,BM2.out⟩
          ·as_aux_lemma=>
            have hT:=show Z1f text i=.ok (⟨3,⟨#[]⟩,n,i⟩,m) by rw [HN.out]; exact Z6e (by rw [← HC.out]; exact HLB.out.symm) (by rw [← HC.out]; exact HDB.out.symm) HK.out HFM.out (by rw [← HN.out]; exact hbig)
            have HT:=lh hT;have HO:=lh HM1.out.own;have hsz:=HM1.out.bel.size;clear hT
            go_wp2_with (at_builtin; go_must (refine wpList_append_lies _ rfl (.tmp 125) (.tmp 129) 40 rfl (w.heap.size + 1) 48 i0 (.agg #[.int .i64 0,.string ⟨#[]⟩,.int .i64 0,.int .i64 0]) 4 40 Tryz.underlying40 hi hz0 hz1 hz2 rfl (by decide) v l.length (l.flatMap Tok.cells) rfl (HO.out.alloc _) ⟨w1.heap.size,0,none⟩ 1 1 (Tok.cells ⟨3,⟨#[]⟩,n,i⟩) rfl rfl (Yi (cs:=(Tok.cells ⟨3,⟨#[]⟩,n,i⟩).toArray) (t:=48) (fr:=(0,0)) (heap_alloc_new w1 _)) (by simp [Tok.cells,Value.oneCell']) (by decide) (by unfold maxLen; omega) (by omega) (by simp; omega) (w1.heap.size + 1) (by simp) ?_); intro g cap w3 hown2 hgrow2 hat2 hgl2; have HG:=lh hgrow2; have HWO:=lh hown2; clear hgrow2 hown2 hat2 hgl2)
            have hlf:=Z21 HQ.out HJ.out hlt HT.out;have HLF:=lh hlf;have hm3:i < m:=hm3;clear hlf;go_roundw
            case rel=>exact ⟨m,f,l ++ [⟨3,⟨#[]⟩,n,i⟩],_,rfl,by go_num,by omega,by simp; omega,by omega,lh (HM1.out.app HG.out HWO.out),HLF⟩
            case measure=>simp [intOf]; omega
    ·obtain ⟨k, hk⟩ := zX (Z03 Z2r text (text.size - i) i)
     obtain ⟨h1,h2,h3,h4⟩:=Z12 Z2r text (text.size - i) i (Y5 _) his;rw [← hk] at h1 h2 h3 h4;have HK:=lh hk;have H3:=lh h3;have H4:=lh h4;clear hk h3 h4 wr1 hb2;go_wp2_with fail
     go_loop [5] (fun x=>∃ m:Nat,x=.int .i64 m∧i≤m∧m≤k) (fun x=>text.size - (intOf x).toNat)
     case atStart=>exact ⟨i,rfl,Y5 _,h1⟩
     case round=>
      obtain ⟨m,rfl,hm1,hm2⟩:=hrel;by_cases hms:m < text.size
      ·have hby := Z2a (text := text) hms;obtain ⟨c2, hc2⟩ := zX (Zc text m)
       rw [← hc2] at hby;have hb3:=hby.symm;have HL2:=lh (fun W=>Z93 W c2);have HD2:=lh (fun W=>Z7u W c2);obtain ⟨L2,hL2⟩:=zX (Z13 c2)
       obtain ⟨D2,hD2⟩:=zX (Z0q c2)
       have hwd:Z2r c2=(L2 || D2):=by rw [hL2,hD2]; rfl
       rw [← hL2] at HL2;rw [← hD2] at HD2;have HWD:=lh hwd;have HC2:=lh hc2;have hmI:(m:Int) < (text.size:Int):=by omega
       clear hby hc2 hL2 hD2 hwd;go_wp2_with fail
       refine (HL2.out _).mono ?_;rintro e w1 ⟨rfl,hww⟩;rw [← hww];clear hww w1 HL2;by_cases hmk:m < k
       ·have hw : (L2 || D2) = true := by rw [← HWD.out, HC2.out]; exact H3.out m hm1 hmk
        cases L2
        ·simp only [Bool.false_or] at hw;subst hw;go_wp2_with fail
         refine (HD2.out _).mono ?_;rintro e w1 ⟨rfl,hww⟩;rw [← hww];clear hww w1 HD2;go_wp2;go_round
         case rel=>exact ⟨m + 1,by go_num,by omega,by omega⟩
         case measure=>simp [intOf]; omega
        ·clear hw;go_wp2;go_round
         case rel=>exact ⟨m + 1,by go_num,by omega,by omega⟩
         case measure=>simp [intOf]; omega
       ·have hmk2 : m = k := by omega
        subst hmk2;have hw:(L2 || D2)=false:=by rw [← HWD.out,HC2.out]; exact H4.out hms
        simp only [Bool.or_eq_false_iff] at hw;obtain ⟨rfl,rfl⟩:=hw;go_wp2_with fail
        refine (HD2.out _).mono ?_;rintro e w1 ⟨rfl,hww⟩;rw [← hww];clear hww w1 HD2;have hkn:m≤text.size:=by omega
        have hxs:(text.extract i m).size=m - i:=by rw [ByteArray.size_extract]; omega
        have HIW:=lh (Z8x wr (text.extract i m) (HW.out.below HM.out.bel));obtain ⟨s,hs⟩:=zX (text.extract i m)
        rw [← hs] at HIW hxs;obtain ⟨WB,hWB⟩:=zX (Z2z s)
        rw [← hWB] at HIW;have HS:=lh hs;have HWB:=lh hWB;clear hWB;have hmI2:(m:Int)≤(text.size:Int):=by omega
        have hiI2:(i:Int)≤(m:Int):=by omega
        go_wp2_with fail
        rw [← hs];clear hs;refine HIW.out.mono ?_;rintro e w1 ⟨rfl,hww⟩;rw [← hww];clear hww w1 HIW;cases WB
        ·by_cases h20 : 20 < m - i
         ·have h20I : (20 : Int) < (s.size : Int) := by omega
          as_aux_lemma=>
           have hre:=Z1r HQ.out HJ.out hlt (Z87 (by rw [← HC.out]; exact HLB.out.symm) HK.out (by rw [← HS.out]; exact HWB.out.symm) h20);have HRE:=lh hre;have BM:=lh (HM.out.bel.setCell (p:=⟨w.heap.size,0,none⟩) (Y5 _) (.int .i64 4));have BM2:=lh (BM.out.setCell (p:=⟨w.heap.size,1,none⟩) (Y5 _) (.int .i64 i));have EP:=lh (HM.out.put (.int .i64 4) (.int .i64 i));clear hre BM;go_wp2;refine bodyPost_ret (rres (cb:=w.heap.size) rfl rfl EP.out.1 EP.out.2) rfl ?_;rw [HRE.out];exact ⟨rfl,BM2.out⟩
         ·have h20I : ¬ (20 : Int) < (s.size : Int) := by omega
          as_aux_lemma=>
           have hT:=show Z1f text i=.ok (⟨1,s,0,i⟩,m) by rw [HS.out]; exact Z7x (by rw [← HC.out]; exact HLB.out.symm) HK.out (by rw [← HS.out]; exact HWB.out.symm) h20
           have HT:=lh hT;have HO:=lh HM.out.own;have hsz:=HM.out.bel.size;clear hT
           go_wp2_with (at_builtin; go_must (refine wpList_append_lies _ rfl (.tmp 62) (.tmp 66) 40 rfl (w.heap.size + 1) 48 i0 (.agg #[.int .i64 0,.string ⟨#[]⟩,.int .i64 0,.int .i64 0]) 4 40 Tryz.underlying40 hi hz0 hz1 hz2 rfl (by decide) v l.length (l.flatMap Tok.cells) rfl (HO.out.alloc _) ⟨wr.heap.size,0,none⟩ 1 1 (Tok.cells ⟨1,s,0,i⟩) rfl rfl (Yi (cs:=(Tok.cells ⟨1,s,0,i⟩).toArray) (t:=48) (fr:=(0,0)) (heap_alloc_new wr _)) (by simp [Tok.cells,Value.oneCell']) (by decide) (by unfold maxLen; omega) (by omega) (by simp; omega) (wr.heap.size + 1) (by simp) ?_); intro g cap w3 hown2 hgrow2 hat2 hgl2; have HG:=lh hgrow2; have HWO:=lh hown2; clear hgrow2 hown2 hat2 hgl2)
           have hlf:=Z21 HQ.out HJ.out hlt HT.out;have HLF:=lh hlf;have hm3:i < m:=by
            rcases Nat.lt_or_ge i m with h | h;·exact h
            ·exfalso;have e : i = m := by omega
             subst e;have h2:=H4.out hlt;rw [← HC.out] at h2;have h3:=Z2w HLB.out.symm;rw [h2] at h3;cases h3
           clear hlf;go_roundw
           case rel=>exact ⟨m,f,l ++ [⟨1,s,0,i⟩],_,rfl,by go_num,by omega,by simp; omega,by omega,lh (HM.out.app HG.out HWO.out),HLF⟩
           case measure=>simp [intOf]; omega
        ·as_aux_lemma=>
          have hT:=show Z1f text i=.ok (⟨2,s,0,i⟩,m) by rw [HS.out]; exact Z84 (by rw [← HC.out]; exact HLB.out.symm) HK.out (by rw [← HS.out]; exact HWB.out.symm)
          have HT:=lh hT;have HO:=lh HM.out.own;have hsz:=HM.out.bel.size;clear hT
          go_wp2_with (at_builtin; go_must (refine wpList_append_lies _ rfl (.tmp 71) (.tmp 75) 40 rfl (w.heap.size + 1) 48 i0 (.agg #[.int .i64 0,.string ⟨#[]⟩,.int .i64 0,.int .i64 0]) 4 40 Tryz.underlying40 hi hz0 hz1 hz2 rfl (by decide) v l.length (l.flatMap Tok.cells) rfl (HO.out.alloc _) ⟨wr.heap.size,0,none⟩ 1 1 (Tok.cells ⟨2,s,0,i⟩) rfl rfl (Yi (cs:=(Tok.cells ⟨2,s,0,i⟩).toArray) (t:=48) (fr:=(0,0)) (heap_alloc_new wr _)) (by simp [Tok.cells,Value.oneCell']) (by decide) (by unfold maxLen; omega) (by omega) (by simp; omega) (wr.heap.size + 1) (by simp) ?_); intro g cap w3 hown2 hgrow2 hat2 hgl2; have HG:=lh hgrow2; have HWO:=lh hown2; clear hgrow2 hown2 hat2 hgl2)
          have hlf:=Z21 HQ.out HJ.out hlt HT.out;have HLF:=lh hlf;have hm3:i < m:=by
           rcases Nat.lt_or_ge i m with h | h;·exact h
           ·exfalso;have e : i = m := by omega
            subst e;have h2:=H4.out hlt;rw [← HC.out] at h2;have h3:=Z2w HLB.out.symm;rw [h2] at h3;cases h3
          clear hlf;go_roundw
          case rel=>exact ⟨m,f,l ++ [⟨2,s,0,i⟩],_,rfl,by go_num,by omega,by simp; omega,by omega,lh (HM.out.app HG.out HWO.out),HLF⟩
          case measure=>simp [intOf]; omega
      ·have hmk2 : m = k := by omega
       subst hmk2;have hms2:text.size≤m:=by omega
       have hmn:(text.size:Int)≤(m:Int):=by omega
       have hkn:m≤text.size:=by omega
       have hxs:(text.extract i m).size=m - i:=by rw [ByteArray.size_extract]; omega
       have HIW:=lh (Z8x wr (text.extract i m) (HW.out.below HM.out.bel));obtain ⟨s,hs⟩:=zX (text.extract i m)
       rw [← hs] at HIW hxs;obtain ⟨WB,hWB⟩:=zX (Z2z s)
       rw [← hWB] at HIW;have HS:=lh hs;have HWB:=lh hWB;clear hWB;have hmI2:(m:Int)≤(text.size:Int):=by omega
       have hiI2:(i:Int)≤(m:Int):=by omega
       go_wp2_with fail
       rw [← hs];clear hs;refine HIW.out.mono ?_;rintro e w1 ⟨rfl,hww⟩;rw [← hww];clear hww w1 HIW;cases WB
       ·by_cases h20 : 20 < m - i
        ·have h20I : (20 : Int) < (s.size : Int) := by omega
         as_aux_lemma=>
          have hre:=Z1r HQ.out HJ.out hlt (Z87 (by rw [← HC.out]; exact HLB.out.symm) HK.out (by rw [← HS.out]; exact HWB.out.symm) h20);have HRE:=lh hre;have BM:=lh (HM.out.bel.setCell (p:=⟨w.heap.size,0,none⟩) (Y5 _) (.int .i64 4));have BM2:=lh (BM.out.setCell (p:=⟨w.heap.size,1,none⟩) (Y5 _) (.int .i64 i));have EP:=lh (HM.out.put (.int .i64 4) (.int .i64 i));clear hre BM;go_wp2;refine bodyPost_ret (rres (cb:=w.heap.size) rfl rfl EP.out.1 EP.out.2) rfl ?_;rw [HRE.out];exact ⟨rfl,BM2.out⟩
        ·have h20I : ¬ (20 : Int) < (s.size : Int) := by omega
         as_aux_lemma=>
          have hT:=show Z1f text i=.ok (⟨1,s,0,i⟩,m) by rw [HS.out]; exact Z7x (by rw [← HC.out]; exact HLB.out.symm) HK.out (by rw [← HS.out]; exact HWB.out.symm) h20
          have HT:=lh hT;have HO:=lh HM.out.own;have hsz:=HM.out.bel.size;clear hT
          go_wp2_with (at_builtin; go_must (refine wpList_append_lies _ rfl (.tmp 62) (.tmp 66) 40 rfl (w.heap.size + 1) 48 i0 (.agg #[.int .i64 0,.string ⟨#[]⟩,.int .i64 0,.int .i64 0]) 4 40 Tryz.underlying40 hi hz0 hz1 hz2 rfl (by decide) v l.length (l.flatMap Tok.cells) rfl (HO.out.alloc _) ⟨wr.heap.size,0,none⟩ 1 1 (Tok.cells ⟨1,s,0,i⟩) rfl rfl (Yi (cs:=(Tok.cells ⟨1,s,0,i⟩).toArray) (t:=48) (fr:=(0,0)) (heap_alloc_new wr _)) (by simp [Tok.cells,Value.oneCell']) (by decide) (by unfold maxLen; omega) (by omega) (by simp; omega) (wr.heap.size + 1) (by simp) ?_); intro g cap w3 hown2 hgrow2 hat2 hgl2; have HG:=lh hgrow2; have HWO:=lh hown2; clear hgrow2 hown2 hat2 hgl2)
          have hlf:=Z21 HQ.out HJ.out hlt HT.out;have HLF:=lh hlf;have hm3:i < m:=by
           rcases Nat.lt_or_ge i m with h | h;·exact h
           ·exfalso;have e : i = m := by omega
            subst e;have h2:=H4.out hlt;rw [← HC.out] at h2;have h3:=Z2w HLB.out.symm;rw [h2] at h3;cases h3
          clear hlf;go_roundw
          case rel=>exact ⟨m,f,l ++ [⟨1,s,0,i⟩],_,rfl,by go_num,by omega,by simp; omega,by omega,lh (HM.out.app HG.out HWO.out),HLF⟩
          case measure=>simp [intOf]; omega
       ·as_aux_lemma=>
         have hT:=show Z1f text i=.ok (⟨2,s,0,i⟩,m) by rw [HS.out]; exact Z84 (by rw [← HC.out]; exact HLB.out.symm) HK.out (by rw [← HS.out]; exact HWB.out.symm)
         have HT:=lh hT;have HO:=lh HM.out.own;have hsz:=HM.out.bel.size;clear hT
         go_wp2_with (at_builtin; go_must (refine wpList_append_lies _ rfl (.tmp 71) (.tmp 75) 40 rfl (w.heap.size + 1) 48 i0 (.agg #[.int .i64 0,.string ⟨#[]⟩,.int .i64 0,.int .i64 0]) 4 40 Tryz.underlying40 hi hz0 hz1 hz2 rfl (by decide) v l.length (l.flatMap Tok.cells) rfl (HO.out.alloc _) ⟨wr.heap.size,0,none⟩ 1 1 (Tok.cells ⟨2,s,0,i⟩) rfl rfl (Yi (cs:=(Tok.cells ⟨2,s,0,i⟩).toArray) (t:=48) (fr:=(0,0)) (heap_alloc_new wr _)) (by simp [Tok.cells,Value.oneCell']) (by decide) (by unfold maxLen; omega) (by omega) (by simp; omega) (wr.heap.size + 1) (by simp) ?_); intro g cap w3 hown2 hgrow2 hat2 hgl2; have HG:=lh hgrow2; have HWO:=lh hown2; clear hgrow2 hown2 hat2 hgl2)
         have hlf:=Z21 HQ.out HJ.out hlt HT.out;have HLF:=lh hlf;have hm3:i < m:=by
          rcases Nat.lt_or_ge i m with h | h;·exact h
          ·exfalso;have e : i = m := by omega
           subst e;have h2:=H4.out hlt;rw [← HC.out] at h2;have h3:=Z2w HLB.out.symm;rw [h2] at h3;cases h3
         clear hlf;go_roundw
         case rel=>exact ⟨m,f,l ++ [⟨2,s,0,i⟩],_,rfl,by go_num,by omega,by simp; omega,by omega,lh (HM.out.app HG.out HWO.out),HLF⟩
         case measure=>simp [intOf]; omega
  ·have hin : i = text.size := by omega
   subst hin;have hji:text.size=Z03 Z0x text (text.size - text.size) text.size:=(Zi0 (Y5 _)).symm;have hre:=Zdm HQ.out hji (Y5 _);have HRE:=lh hre;obtain ⟨g0,g1,g2⟩:=HF.out.below HM.out.bel;have HO:=lh HM.out.own;have hsz:=HM.out.bel.size;have hgf:0 < w.heap.size:=HF.out.2.2;have hnf:v.ownBlock≠some 0:=fun e=>by have:=(Yh HO.out _ e).1; omega
   have HNF:=lh hnf;have HAO:Hid ((wr.alloc (.cells #[.int .i64 6,.string ⟨#[]⟩,.int .i64 0,.int .i64 text.size] 48)).drew.ownsRow (w.heap.size + 1) 48 4 v l.length (l.flatMap Tok.cells)):=lh (Zq (HO.out.alloc _) fun k _=>rfl);have hmI:¬ (text.size:Int) < (text.size:Int):=by omega
   clear hre hji hnf;go_wp2_with fail
   refine Zf [0,2,4,6,12,9,11,14] [8] (fun W=>W.cell? ⟨0,0,none⟩=some (.int .i64 0)∧W.cell? ⟨0,1,none⟩=some (.int .i64 (-1))) ⟨g0,g1⟩ fun _=>?_;simp only [Zh,pD,zD,zE,zF,zG,zH,zI,zJ,zK]
   iterate 5
    first | refine Za _ ?_ | refine Zb ?_
    simp only [Act.put,zA,zB,zC]
   refine Z5 (fun K hK=>?_);go_simp
   refine hK _ _ ⟨(Z8 (w:=wr) (by exact g2)).trans g0,(Z8 (w:=wr) (by exact g2)).trans g1⟩ ?_;clear hK K;refine Z5 (fun K hK=>?_)
   refine step_append_lies _ (by rfl) (.tmp 236) (.tmp 240) 40 (by rfl) (w.heap.size + 1) 48 i0 _ 4 40 Tryz.underlying40 hi hz0 hz1 hz2 rfl (by decide) v l.length (l.flatMap Tok.cells) (by rfl) HAO.out ⟨wr.heap.size,0,none⟩ 1 1 (Tok.cells ⟨6,⟨#[]⟩,0,text.size⟩) (by rfl) rfl (Yi (cs:=(Tok.cells ⟨6,⟨#[]⟩,0,text.size⟩).toArray) (t:=48) (fr:=(0,0)) (heap_alloc_new wr _)) (by simp [Tok.cells,Value.oneCell']) (by decide) (by unfold maxLen; omega) (by omega) (by simp; omega) (wr.heap.size + 1) (by simp) ?_;intro gg cap w3 hown3 hgrow3 hat3 hlt3
   have e0:w3.cell? ⟨0,0,none⟩=some (.int .i64 0):=(hgrow3.cell_far ⟨0,0,none⟩ (by first | (simp; omega) | simp) (fun e=>HNF.out e.symm)).trans ((Z8 (w:=wr) (by exact g2)).trans g0);have e1:w3.cell? ⟨0,1,none⟩=some (.int .i64 (-1)):=(hgrow3.cell_far ⟨0,1,none⟩ (by first | (simp; omega) | simp) (fun e=>HNF.out e.symm)).trans ((Z8 (w:=wr) (by exact g2)).trans g1);have hm3:=HM.out.app2 (t:=⟨6,⟨#[]⟩,0,text.size⟩) (((Y8 wr.heap.size wr).alloc (Y5 _) (.cells #[.int .i64 6,.string ⟨#[]⟩,.int .i64 0,.int .i64 text.size] 48)).drew) hgrow3 hown3
   have HM3:=lh hm3;refine hK _ _ ⟨e0,e1⟩ ?_;clear hK K hown3 hgrow3 hat3 hlt3 hm3 z0 z1 y0 y1;simp only [Act.put,zA,zB,zC]
   iterate 1
    first | refine Za _ ?_ | refine Zb ?_
    simp only [Act.put,zA,zB,zC]
   refine Z6 ?_;have z0:w3.cell? ⟨w.heap.size,0,none⟩=some (.int .i64 0):=by simp [World.cell?,HM3.out.blk]
   have z1:w3.cell? ⟨w.heap.size,1,none⟩=some (.int .i64 0):=by simp [World.cell?,HM3.out.blk]
   have y0:w3.frozen? ⟨w.heap.size,0,none⟩=false:=by simp [World.frozen?,HM3.out.blk]
   have y1:w3.frozen? ⟨w.heap.size,1,none⟩=false:=by simp [World.frozen?,HM3.out.blk]
   have EP:=lh (HM3.out.put (.int .i64 0) (.int .i64 (-1)));have EF:=lh (HM3.out.fin (.int .i64 0) (.int .i64 (-1)));go_wp2;refine bodyPost_ret (rres (cb:=w.heap.size) rfl rfl EP.out.1 EP.out.2) rfl ?_;rw [HRE.out];exact ⟨⟨_,rfl,EF.out.1⟩,EF.out.2⟩
end Go.Proofs.YtmeiggjboakmpaaGreatDoor
