/- The document's Parse: a program, or its first fault. -/
import Derived.Test.YtmjfllklcpjddaaGreatDoorJ19
import Derived.Test.YtmjfllklcpjddaaGreatDoorJ26
import Derived.Test.YtmjfllklcpjddaaGreatDoorJ28
namespace Go.Proofs.YtmjfllklcpjddaaGreatDoor
open Go Go.RowKit
set_option maxRecDepth 100000
set_option maxHeartbeats 20000000
set_option linter.unusedVariables false
theorem Zj5 {F:Nat} {ts:List Tok} (hg:Zu ts) {r:Except (Int×Nat) (Tree×List Tok)} (h:Z0 F (.stmts 1 []) 0 ts=some r) :
 ∃ l σ', refF (2 * F + 8) (.prog []) 0 ⟨ts, none⟩ = some (l, σ') ∧ r = (match σ'.f with
   | none=>.ok (.mk 1 (Z0z l.kids) 0 l.kids,σ'.ts)
   | some e=>.error e):=by
 have A:=(agree F 0 ts hg (2 * F + 8) (Y5 _)).prog [] rfl;rw [h] at A;rcases r with e | ⟨t,us⟩
 ·obtain ⟨t,ts',hq⟩:=A;obtain ⟨l,σ',h1,h2⟩:=Ze hq;simp only [Option.some.injEq,Prod.mk.injEq] at h2;refine ⟨l,σ',h1,?_⟩;rw [h2.2]
 ·obtain ⟨hq,_⟩:=A;obtain ⟨l,σ',h1,h2⟩:=Ze hq;simp only [Option.some.injEq,Prod.mk.injEq] at h2;refine ⟨l,σ',h1,?_⟩;rw [h2.2,← h2.1];rfl
theorem QAt.start {w1 w:World} {base tb cap rb:Nat} {text:ByteArray} {ts:List Tok} (hm:text.size≤3000) (ht:Z5x text=.ok ts) (hv:w1.ownsRow base 58 4 (.slice (some ⟨tb,0,none⟩) ts.length cap) ts.length (ts.flatMap Tok.cells))
 (hk:w.heap[tb]?=w1.heap[tb]?) (ho:tb < rb) (hblk:w.heap[rb]?=some (.cells #[.slice (some ⟨tb,0,none⟩) ts.length cap,.int .i64 0,.int .i64 0,.int .i64 (-1)] 55 (0,0))):QAt w ⟨rb,tb,0,cap,ts⟩ 0 none:=by
 obtain ⟨s1,s2,s3⟩:=Z6q ts 0 (Yp _) (Z5w ht);obtain ⟨s4,s5⟩:=Zfc ts 0 (Yp _) (Z5w ht);obtain ⟨hle,hmx⟩:ts.length≤cap∧cap≤maxLen:=by
  rcases Za hv with ⟨h1,_⟩ | ⟨g,cap',h1,h2,h3,_⟩;·cases h1
  ·simp only [Value.slice.injEq] at h1;rw [h1.2.2];exact ⟨h2,h3⟩
 unfold maxLen at hmx;refine ⟨hblk,hle,hmx,ho,fun k t j x h1 h2=>?_,s1,?_,by simp only; omega,fun c p e=>by (cases e),s4,fun t ht=>?_⟩
 ·have h3 := Zdk (f := Tok.cells) (fun _ => rfl) hv (g := tb) rfl h1 h2;have e : (0 + k * 4 + j) = k * 4 + j := by omega
  simp only [e];exact (Yj hk).trans h3
 ·obtain ⟨l,e,h,_⟩:=s1;simp only;rw [h]; simp
 ·have:=s5 t ht;unfold maxLen;omega
def Z7m (w:World) (r:Except (Int×Int) Tree) (e:Ending) (w':World):Prop:=
 Below w.heap.size w w'∧match r with
 | .ok t=>∃ a,e=.returned (.tuple #[a.ptr,.agg #[.int .i64 0,.int .i64 (-1)]])∧Got w w.heap.size w' a t
 | .error (c,p)=>c≠0∧e=.returned (.tuple #[.pointer none,.agg #[.int .i64 c,.int .i64 p]])
theorem Ziy {w':World} {tmps:Array Value} {v:Value} {cb:Nat} {x y:Value} (h2:tmps.getD 2 undef=v) (h3:tmps.getD 3 undef=.pointer (some ⟨cb,0,none⟩)) (hx:w'.cell? ⟨cb,0,none⟩=some x) (hy:w'.cell? ⟨cb,1,none⟩=some y) :
 (results Tryz.f8 tmps).run Tryz.prog w'=.ok (.tuple #[v,.agg #[x,y]]) w':=by
 have h2':tmps[2]?.getD undef=v:=by simpa using h2
 have h3':tmps[3]?.getD undef=.pointer (some ⟨cb,0,none⟩):=by simpa using h3
 simp [results,go_sem,h2',h3',hx,hy]
theorem put2 {w1:World} {ab:Nat} {x y:Value} {t:TypeId} (h:w1.heap[ab]?=some (.cells #[x,y] t (0,0))) (a b:Value):((w1.setCell ⟨ab,0,none⟩ a).setCell ⟨ab,1,none⟩ b).cell? ⟨ab,0,none⟩=some a∧((w1.setCell ⟨ab,0,none⟩ a).setCell ⟨ab,1,none⟩ b).cell? ⟨ab,1,none⟩=some b:=by
 have h1:=Zm (o:=1) b (Zm (o:=0) a h);exact ⟨by simp [World.cell?,h1],by simp [World.cell?,h1]⟩
theorem Zbq {w w4 wr:World} {rb:Nat} (h:Below w.heap.size w w4) (hF:RFr w4 wr rb) (hr:w.heap.size≤rb):Below w.heap.size w wr:=
 ⟨hF.os.trans h.os,hF.tape.trans h.tape,hF.output.trans h.output,Ya h.size hF.size,fun k hk=>(hF.block k (Ye hk h.size) (by omega)).trans (h.block k hk)⟩
theorem Got.give {w w4 W1 W:World} {B:Nat} {a:ATree} {t:Tree} (G:Got w4 B W1 a t) (h4:w.heap.size≤w4.heap.size) (hB:w.heap.size≤B) (hk:∀ k,w4.heap.size≤k→W.heap[k]?=W1.heap[k]?) (hs:W.heap.size=W1.heap.size):Got w w.heap.size W a t:=
 ⟨G.tree,(G.at'.keepB fun k hk'=>hk k (G.new k hk').1).base hB,G.nodup,fun x hx=>⟨Ya h4 (G.new x hx).1,by rw [hs]; exact (G.new x hx).2⟩⟩
theorem Zhe {w':World} {tmps:Array Value} {cb:Nat} {x y:Value} (h3:tmps.getD 2 undef=.pointer (some ⟨cb,0,none⟩)) (hx:w'.cell? ⟨cb,0,none⟩=some x) (hy:w'.cell? ⟨cb,1,none⟩=some y) :
 (results Tryz.f24 tmps).run Tryz.prog w'=.ok (.agg #[x,y]) w':=by
 have h3':tmps[2]?.getD undef=.pointer (some ⟨cb,0,none⟩):=by simpa using h3
 simp [results,go_sem,h3',hx,hy]
theorem Zbf (w:World) (c:Int) :
 Calls Tryz.prog 24 #[.int .i64 c] w fun e w'=>e=.returned (.agg #[.int .i64 c,.int .i64 (-1)])∧Below w.heap.size w w':=by
 have hb:Below w.heap.size w (w.alloc (.cells #[.int .i64 c,.int .i64 (-1)] 31)):=(Y8 _ _).alloc (Y5 _) _;have HB:=lh hb;clear hb;go_enter Tryz.func24,Tryz.ntmps24
 go_wp2;refine bodyPost_ret (Zhe (cb:=w.heap.size) (x:=.int .i64 c) (y:=.int .i64 (-1)) rfl (by simp) (by simp)) rfl ?_;exact ⟨rfl,HB.out⟩
def UInv (w4:World) (C:QC) (B nb:Nat) (l:Tree) (σ':RS) (G g:Nat) (wr:World):Prop:=
 ∃ (acc:List Tree) (kids:List ATree) (v:Value) (σ:RS),refF g (.prog acc) 0 σ=some (l,σ')∧Got w4 B wr (.mk nb v 1 ⟨#[]⟩ 0 kids) (.mk 1 ⟨#[]⟩ 0 acc)∧QS wr C σ∧RFr w4 wr C.rb∧acc.length + g≤G∧∀ x∈acc,x.kind=15→x.kids≠[]
theorem Zco (hS:∀ g,Z14 21 qd .stmt g) (w:World) (text:ByteArray) (hm:text.size≤3000) (hW:Z6a w) (hF:Z69 w) (ts:List Tok) (ht:Z5x text=.ok ts) :
 Calls Tryz.prog 8 #[.string text] w (Z7m w (Z0c text)):=by
 obtain ⟨w0,hw0⟩:=zX (w.alloc (.cells #[.int .i64 0,.int .i64 0] 31))
 have hal:Below w.heap.size w w0:=by rw [hw0]; exact (Y8 _ _).alloc (Y5 _) _
 have hs0:w0.heap.size=w.heap.size + 1:=by rw [hw0]; simp
 have hA0:w0.heap[w.heap.size]?=some (.cells #[.int .i64 0,.int .i64 0] 31 (0,0)):=by rw [hw0]; exact heap_alloc_new _ _
 have HC:=Z9f w0 text hm (hW.below hal) (hF.below hal);rw [ht] at HC;have HC:=lh HC;obtain ⟨s1,s2,s3⟩:=Z6q ts 0 (Yp _) (Z5w ht);obtain ⟨r,hr⟩:∃ r,Z0 (40 * ts.length + 31) (.stmts 1 []) 0 ts=some r:=by
  have:=Za0 (40 * ts.length + 31) (.stmts 1 []) 0 ts (by simp only [Job.rank]; omega);cases h:Z0 (40 * ts.length + 31) (.stmts 1 []) 0 ts with
  | none=>exact absurd h this
  | some r=>exact ⟨r,rfl⟩
 have hall:Z0c text=finP r:=by
  unfold Z0c;rw [Y9 (by omega),ht];simp only [hr];rcases r with ⟨e,p⟩ | ⟨t,us⟩ <;> rfl
 obtain ⟨l,σ',hpr,hrr⟩:=Zj5 s3 hr;obtain ⟨G,hG⟩:=zX (2 * (40 * ts.length + 31) + 8)
 rw [← hG] at hpr;have hlen:ts.length≤3001:=by omega
 have hmany:σ'.f=none→(Tree.mk 1 (Z0z l.kids) 0 l.kids).many≤6100:=fun h=>by
  rw [h] at hrr;simp only at hrr;rw [hrr] at hr;have:=Zag _ _ _ _ _ _ hr;simp only [Job.base,Z3r] at this;omega
 have HMANY:=lh hmany;have HGL:=lh (show G≤250000 by omega);rw [hrr] at hall;have HALL:=lh hall;have HPR:=lh hpr;have HAL:=lh hal;have HS0:=lh hs0;have HA0:=lh hA0;have HW0:=lh hw0;have HF:=lh hF;have HM:=lh hm;have HT:=lh ht;have HS:=lh hS;have HTS:=lh (show 0 < ts.length by obtain ⟨l,e,h,_⟩:=s1; rw [h]; simp);have HLEN:=lh hlen;clear hmany hW hF ht hm hS hw0 hal hs0 hA0 s1 s2 s3 hr hall hpr hrr hG hlen;go_enter Tryz.func8,Tryz.ntmps8
 go_wp2_with fail
 rw [← HW0.out];refine HC.out.mono ?_;rintro e w1 ⟨⟨v,rfl,hv⟩,hB⟩;obtain ⟨tb,cp,rfl⟩:∃ tb cp,v=.slice (some ⟨tb,0,none⟩) ts.length cp:=by
  rcases Za hv with ⟨_,h1⟩ | ⟨g,cap,h1,_⟩;·have:=HTS.out; omega
  ·exact ⟨_,_,h1⟩
 obtain ⟨g0,g1,g2⟩:=(HF.out.below HAL.out).below hB;obtain ⟨ab,hab⟩:=zX w.heap.size
 have hA1:w1.heap[ab]?=some (.cells #[.int .i64 0,.int .i64 0] 31 (0,0)):=by rw [hab]; exact (hB.block w.heap.size (by rw [HS0.out]; omega)).trans HA0.out
 have hab1:ab < w1.heap.size:=(Y6.1 hA1).1;have htb:=hv.lt tb rfl;obtain ⟨w2,hw2⟩:=zX (w1.alloc (.cells #[.int .i64 0,.int .i64 (-1)] 31))
 have hs2:w2.heap.size=w1.heap.size + 1:=by rw [hw2]; simp
 have h12:Below w1.heap.size w1 w2:=by rw [hw2]; exact (Y8 _ _).alloc (Y5 _) _
 have hf2:w2.heap[w1.heap.size]?=some (.cells #[.int .i64 0,.int .i64 (-1)] 31 (0,0)):=by rw [hw2]; exact heap_alloc_new _ _
 have f20:w2.cell? ⟨w1.heap.size,0,none⟩=some (.int .i64 0):=by simp [World.cell?,hf2]
 have k0:w2.cell? ⟨0,0,none⟩=some (.int .i64 0):=(h12.cell (p:=⟨0,0,none⟩) g2).trans g0;have k1:w2.cell? ⟨0,1,none⟩=some (.int .i64 (-1)):=(h12.cell (p:=⟨0,1,none⟩) g2).trans g1;have k2:0 < w2.heap.size:=by omega
 rw [hw2] at k0 k1;have m0:=g0;have m1:=g1;obtain ⟨w4,hw4⟩:=zX (w2.alloc (.cells #[.slice (some ⟨tb,0,none⟩) ts.length cp,.int .i64 0,.int .i64 0,.int .i64 (-1)] 55))
 have hs4:w4.heap.size=w2.heap.size + 1:=by rw [hw4]; simp
 have h24:Below w2.heap.size w2 w4:=by rw [hw4]; exact (Y8 _ _).alloc (Y5 _) _
 have hp4:w4.heap[w2.heap.size]?=some (.cells #[.slice (some ⟨tb,0,none⟩) ts.length cp,.int .i64 0,.int .i64 0,.int .i64 (-1)] 55 (0,0)):=by rw [hw4]; exact heap_alloc_new _ _
 obtain ⟨C,hC,hQ4,hCL⟩:∃ C:QC,C.rb=w2.heap.size∧QAt w4 C 0 none∧C.L=ts:=
  ⟨⟨w2.heap.size,tb,0,cp,ts⟩,rfl,QAt.start HM.out HT.out hv ((h24.block tb (by omega)).trans (h12.block tb htb.2)) (by omega) hp4,rfl⟩
 obtain ⟨w5,hw5⟩:=zX (w4.alloc (.cells #[.int .i64 1,.string ⟨#[]⟩,.int .i64 0,.slice none 0 0] 46))
 have h45:Below w4.heap.size w4 w5:=by rw [hw5]; exact (Y8 _ _).alloc (Y5 _) _
 obtain ⟨nb,hnb⟩:=zX w4.heap.size
 have hN0:Got w4 w4.heap.size w5 (.mk nb (.slice none 0 0) 1 ⟨#[]⟩ 0 []) (.mk 1 ⟨#[]⟩ 0 []):=by rw [hw5,hnb]; exact Got.leaf (Y5 _) (RFr.refl w4 C.rb)
 have ST:=lh (show ∃ g,g≤G∧UInv w4 C w4.heap.size nb l σ' G g w5 from ⟨G,Y5 _,[],[],_,⟨ts,none⟩,HPR.out,hN0,⟨0,by rw [hCL]; rfl,hQ4.below h45⟩,RFr.below h45,by simp,fun x hx=>by cases hx⟩);have hb4:Below w.heap.size w w4:=((HAL.out.trans (hB.mono HAL.out.size)).trans (h12.mono (by have:=HS0.out; have:=hB.size; omega))).trans (h24.mono (by have:=HS0.out; have:=hB.size; omega));have HB4:=lh hb4;have a4:w4.heap[ab]?=some (.cells #[.int .i64 0,.int .i64 0] 31 (0,0)):=(h24.block ab (by omega)).trans ((h12.block ab hab1).trans hA1)
 have HA4:=lh a4;have HFI:=lh (show Z69 w4 from (HF.out.below hb4));have HAB:=lh hab;have HSZ:=lh (show w.heap.size + 3≤w4.heap.size∧ab < C.rb∧C.rb < w4.heap.size by have:=hB.size; have:=HS0.out; omega);have HW2:=lh hw2;have HW4:=lh hw4;have HW5:=lh hw5;have HP1:=lh (show w1.heap.size + 1 + 1=nb by omega);have HP2:=lh (show w1.heap.size + 1=C.rb by omega);have HBW:=lh (show w.heap.size≤C.rb by have:=hB.size; have:=HS0.out; omega);have HNB:=lh hnb;have HCL:=lh hCL
 clear hv hB hA1 hw2 hs2 h12 hf2 hw4 hs4 h24 hp4 hQ4 hw5 h45 hN0 hb4 a4 hab hC hnb hCL htb HC g0 g1 f20;go_wp2_with fail
 rw [HP1.out,HP2.out,← HAB.out,← HW2.out,← HW4.out,← HW5.out];have hr:C.rb < w4.heap.size:=HSZ.out.2.2;obtain ⟨B,hB⟩:=zX w4.heap.size
 rw [← hB] at ST hr;have HBB:=lh (show B≤w4.heap.size by omega);have HR:=lh hr;have HNBW:=lh (show B=nb by rw [hB]; exact HNB.out.symm);clear k0 k1 m0 m1 hB hr;go_loopw [] (fun wr=>∃ g,g≤G∧UInv w4 C B nb l σ' G g wr) (fun wr=>least fun g=>g≤G∧UInv w4 C B nb l σ' G g wr)
 case atStart=>exact ST.out
 case round=>
  have hI:=Z3k hrel;clear ST;obtain ⟨g,hg⟩:=zX (least fun g=>g≤G∧UInv w4 C B nb l σ' G g wr)
  rw [← hg] at hI;have HG:=lh hg;clear hg hrel;obtain ⟨hgF,acc,kids,v,σ,hp,hN,hQ,hF,h8,hx⟩:=hI;cases g with
  | zero=>simp [refF] at hp
  | succ g=>
  rw [refF] at hp;have HO:=Z1x hQ.drew;have HQ:=lh hQ;obtain ⟨i,hi,hA⟩:=hQ;have c0:=hA.c0;have c1:=hA.c1;have t0:=hA.hd (j:=0) rfl;rw [Nat.add_zero] at t0;have hil:=hA.lt;have hle:=hA.le;have hmo:=hA.most;have hfw:=hA.few;obtain ⟨n,hn⟩:=zX C.L.length
  rw [← hn] at c0 hil hle hfw;obtain ⟨kd,hkd⟩:=zX ((hdT (C.L.drop i)).kind)
  rw [← hkd] at t0;have hkd2:kd=(hdT σ.ts).kind:=by rw [hi]; exact hkd
  obtain ⟨_,y1,n3,z3,hnbw⟩:=hN.cells;have HA:=lh hA;have HN:=lh hN;have HFF:=lh hF;have H8:=lh h8;have HX:=lh hx;have HGF:=lh hgF;have HA5:=lh (show wr.heap[ab]?=some (.cells #[.int .i64 0,.int .i64 0] 31 (0,0)) from (hF.block ab (by have:=HSZ.out; omega) (by have:=HSZ.out; omega)).trans HA4.out);clear hA hN hF h8 hx hgF hi hkd hn;by_cases hf:σ.f.isNone=true;rotate_left
  ·have hf':σ.f.isNone=false:=Bool.eq_false_iff.2 hf;rw [hf'] at HO;rw [Y9 (by simp [hf'])] at hp;simp only [Option.some.injEq,Prod.mk.injEq] at hp;have HO:=lh HO;have HE:=lh hp;obtain ⟨ec,ep,hfe⟩:∃ c p,σ.f=some (c,p):=by
    cases h:σ.f with
    | none=>rw [h] at hf'; cases hf'
    | some x=>exact ⟨x.1,x.2,rfl⟩
   have d2:=HA.out.c2;have d3:=HA.out.c3;rw [hfe] at d2 d3;simp only [fE,fP] at d2 d3;have HEC:=lh (HA.out.code ec ep hfe);have HALLE:=lh (show Z0c text=.error (ec,(ep:Int)) by rw [HALL.out,← hp.2,hfe]; rfl);clear hf hf' hp hfe hkd2;go_wp2_with fail
   refine Z1 [(true,0),(false,1),(true,2),(true,3),(true,4),(true,5),(true,6),(true,7),(true,8),(true,9),(true,10)] [11,12,13,14,15] (fun W=>W.cell? ⟨C.rb,0,none⟩=some (.slice (some ⟨C.tb,C.off,none⟩) n C.cap)∧W.cell? ⟨C.rb,1,none⟩=some (.int .i64 i)∧W.cell? ⟨C.tb,C.off + i * 4,none⟩=some (.int .i64 kd)) (by kernel_rfl) (by kernel_rfl) (fun _ _ d _ _ h=>by cases d <;> exact h) ⟨c0,c1,t0⟩ (fun hS0=>?_);simp only [Zf,zD,zE,zF,zG,zH,zI]
   iterate 1
    first
     | (refine Z2 ?_ (by rfl) (fun w' hS'=>?_) ?_; rotate_left; (obtain ⟨s0,s1,s2⟩:=hS'; go_simp; first | done | with_reducible rfl); simp only [Act.put,zA,zB,zC])
     | (refine Z3 (by rfl) ?_; simp only [Act.put,zA,zB,zC])
   refine Z5 (fun K hK=>?_);go_simp
   refine HO.out.mono ?_;rintro e w6 ⟨rfl,rfl⟩;refine hK _ _ ⟨c0,c1,t0⟩ ?_;clear hK K
   iterate 9
    first
     | (refine Z2 ?_ (by rfl) (fun w' hS'=>?_) ?_; rotate_left; (obtain ⟨s0,s1,s2⟩:=hS'; go_simp; first | done | with_reducible rfl); simp only [Act.put,zA,zB,zC])
     | (refine Z3 (by rfl) ?_; simp only [Act.put,zA,zB,zC])
   refine Z6 ?_;go_wp2_with fail
   refine HO.out.mono ?_;rintro e w7 ⟨rfl,rfl⟩;have x0:wr.cell? ⟨ab,0,none⟩=some (.int .i64 0):=by simp [World.cell?,HA5.out]
   have x1:wr.cell? ⟨ab,1,none⟩=some (.int .i64 0):=by simp [World.cell?,HA5.out]
   have xz0:wr.frozen? ⟨ab,0,none⟩=false:=by simp [World.frozen?,HA5.out]
   have xz1:wr.frozen? ⟨ab,1,none⟩=false:=by simp [World.frozen?,HA5.out]
   clear c0 c1 t0;go_wp2_with fail
   refine Z1 [(true,0),(true,1),(true,2),(true,3),(true,4)] [5] (fun W=>W.cell? ⟨C.rb,2,none⟩=some (.int .i64 ec)∧W.cell? ⟨C.rb,3,none⟩=some (.int .i64 ep)) (by kernel_rfl) (by kernel_rfl) (fun _ _ d _ _ h=>by cases d <;> exact h) ⟨d2,d3⟩ (fun hS0=>?_);simp only [Zf,zD,zE,zF,zG,zH,zI]
   iterate 5
    first
     | (refine Z2 ?_ (by rfl) (fun w' hS'=>?_) ?_; rotate_left; (obtain ⟨s0,s1⟩:=hS'; go_simp; first | done | with_reducible rfl); simp only [Act.put,zA,zB,zC])
     | (refine Z3 (by rfl) ?_; simp only [Act.put,zA,zB,zC])
   refine Z6 ?_;go_wp2;have hput:=put2 HA5.out (.int .i64 ec) (.int .i64 ep);refine bodyPost_ret (Ziy (cb:=ab) rfl rfl hput.1 hput.2) rfl ?_;rw [HALLE.out];refine ⟨?_,HEC.out,rfl⟩;have hb:=Zbq HB4.out HFF.out HBW.out;have h1:=((hb.setCell (p:=⟨ab,0,none⟩) (by rw [HAB.out]; exact Y5 _) (.int .i64 ec)).setCell (p:=⟨ab,1,none⟩) (by rw [HAB.out]; exact Y5 _) (.int .i64 (ep:Int))).drew.drew;exact h1
  ·rw [hf] at HO;have HO := lh HO;have hfn : σ.f = none := by simpa using hf
   by_cases h6:kd=6
   ·have n6 : (kd != 6) = false := by simp [h6]
    rw [Y9 (by simp [← hkd2,h6])] at hp;simp only [Option.some.injEq,Prod.mk.injEq] at hp;have HALLE:=lh (show Z0c text=if 1500 < (Tree.mk 1 (Z0z acc) 0 acc).many then .error (4,-1) else .ok (.mk 1 (Z0z acc) 0 acc) by rw [HALL.out,← hp.2,hfn,← hp.1]; rfl);have HMN:=lh (show (Tree.mk 1 (Z0z acc) 0 acc).many≤6100 by have:=HMANY.out (by rw [← hp.2]; exact hfn); rw [← hp.1] at this; exact this);clear hf hp hfn hkd2 h6;go_wp2_with fail
    refine Z1 [(true,0),(false,1),(true,2),(true,3),(true,4),(true,5),(true,6),(true,7),(true,8),(true,9),(true,10)] [11,12,13,14,15] (fun W=>W.cell? ⟨C.rb,0,none⟩=some (.slice (some ⟨C.tb,C.off,none⟩) n C.cap)∧W.cell? ⟨C.rb,1,none⟩=some (.int .i64 i)∧W.cell? ⟨C.tb,C.off + i * 4,none⟩=some (.int .i64 kd)) (by kernel_rfl) (by kernel_rfl) (fun _ _ d _ _ h=>by cases d <;> exact h) ⟨c0,c1,t0⟩ (fun hS0=>?_)
    simp only [Zf,zD,zE,zF,zG,zH,zI]
    iterate 1
     first
      | (refine Z2 ?_ (by rfl) (fun w' hS'=>?_) ?_; rotate_left; (obtain ⟨s0,s1,s2⟩:=hS'; go_simp; first | done | with_reducible rfl); simp only [Act.put,zA,zB,zC])
      | (refine Z3 (by rfl) ?_; simp only [Act.put,zA,zB,zC])
    refine Z5 (fun K hK=>?_);go_simp
    refine HO.out.mono ?_;rintro e w6 ⟨rfl,rfl⟩;refine hK _ _ ⟨c0,c1,t0⟩ ?_;clear hK K
    iterate 9
     first
      | (refine Z2 ?_ (by rfl) (fun w' hS'=>?_) ?_; rotate_left; (obtain ⟨s0,s1,s2⟩:=hS'; go_simp; first | done | with_reducible rfl); simp only [Act.put,zA,zB,zC])
      | (refine Z3 (by rfl) ?_; simp only [Act.put,zA,zB,zC])
    refine Z6 ?_;go_wp2_with fail
    refine HO.out.mono ?_;rintro e w7 ⟨rfl,rfl⟩;clear c0 c1 t0;have htr:=HN.out.tree;simp only [ATree.tree,Tree.mk.injEq,true_and] at htr;have hL:=HN.out.list.1;rw [htr] at hL;have HST:=lh (Z4p w4 wr.drew B v kids acc (hL.rfr HR.out (RFr.refl wr C.rb).drew) HX.out);clear hL htr;go_wp2_with fail
    refine HST.out.mono ?_;rintro e w8 ⟨rfl,hb8⟩;have hF8:RFr wr w8 C.rb:=(RFr.refl wr C.rb).drew.trans (RFr.below hb8);have hN8:=HN.out.rfr HR.out hF8;obtain ⟨_,q1,q3,qz,hnbw8⟩:=hN8.cells;have qz1:=qz 1;have K8:=Got.text0 (t':=Z0z acc) HR.out HBB.out hN8 (HFF.out.trans hF8);obtain ⟨W9,hW9⟩:=zX (w8.setCell ⟨nb,1,none⟩ (.string (Z0z acc)))
    rw [← hW9] at K8;have HW9:=lh hW9;have G9:=lh K8.1;have F9:=lh K8.2.1;have htr9:=K8.1.tree;have hmt:(ATree.mk nb v 1 (Z0z acc) 0 kids).many=(Tree.mk 1 (Z0z acc) 0 acc).many:=by rw [← Z4y,htr9]
    have HMT:=lh hmt;have HAA:=lh (Zjp _ (.mk nb v 1 (Z0z acc) 0 kids) (Y5 _) (by have:=HMN.out; omega) W9 B K8.1.at');unfold ATree.ptr at HAA;clear hF8 hN8 qz K8 hW9 htr9 hmt hb8 HST n3 z3 y1;go_wp2_with fail
    rw [← HW9.out];refine HAA.out.mono ?_;rintro e w10 ⟨vs,rfl,hns,hb10⟩;have hsl:(ATree.mk nb v 1 (Z0z acc) 0 kids).subs.length=(Tree.mk 1 (Z0z acc) 0 acc).many:=by rw [Z8y]; exact HMT.out
    obtain ⟨g1,cap1,rfl⟩:∃ g cap,vs=.slice (some ⟨g,0,none⟩) (Tree.mk 1 (Z0z acc) 0 acc).many cap:=by
     rcases hns.form with ⟨_,h0⟩ | ⟨g,cap,h0,_⟩;·have:=Zdl (ATree.mk nb v 1 (Z0z acc) 0 kids); rw [h0] at this; simp at this
     ·rw [hsl] at h0; exact ⟨_,_,h0⟩
    obtain ⟨m,hm⟩:=zX ((Tree.mk 1 (Z0z acc) 0 acc).many)
    have HMM:=lh hm;rw [← hm];have F10:=lh (F9.out.trans (RFr.below hb10));have G10:=lh (G9.out.rfr HR.out (RFr.below hb10));have hA10:w10.heap[ab]?=some (.cells #[.int .i64 0,.int .i64 0] 31 (0,0)):=(F10.out.block ab (by have:=HSZ.out; omega) (by have:=HSZ.out; omega)).trans HA4.out;have HA10:=lh hA10;have x0:w10.cell? ⟨ab,0,none⟩=some (.int .i64 0):=by simp [World.cell?,hA10]
    have x1:w10.cell? ⟨ab,1,none⟩=some (.int .i64 0):=by simp [World.cell?,hA10]
    have xz0:w10.frozen? ⟨ab,0,none⟩=false:=by simp [World.frozen?,hA10]
    have xz1:w10.frozen? ⟨ab,1,none⟩=false:=by simp [World.frozen?,hA10]
    have BEL:=lh (Zbq HB4.out F10.out HBW.out);clear hns hb10 hsl hm hA10 HAA q1 q3 qz1 hnbw8 hnbw;by_cases hbig:1500 < m
    ·have hbb : decide ((m : Int) > 1500) = true := by simp; omega
     rw [Yb (by rw [← HMM.out]; exact hbig)] at HALLE;have HBR:=lh (Zbf w10 4);clear hbig;go_wp2_with fail
     refine HBR.out.mono ?_;rintro e w11 ⟨rfl,hb11⟩;have hA11:w11.heap[ab]?=some (.cells #[.int .i64 0,.int .i64 0] 31 (0,0)):=(hb11.block ab (Y6.1 HA10.out).1).trans HA10.out;have HA11:=lh hA11;have y0:w11.cell? ⟨ab,0,none⟩=some (.int .i64 0):=by simp [World.cell?,hA11]
     have y1:w11.cell? ⟨ab,1,none⟩=some (.int .i64 0):=by simp [World.cell?,hA11]
     have yz0:w11.frozen? ⟨ab,0,none⟩=false:=by simp [World.frozen?,hA11]
     have yz1:w11.frozen? ⟨ab,1,none⟩=false:=by simp [World.frozen?,hA11]
     have BEL2:=lh (BEL.out.trans (hb11.mono BEL.out.size));clear hb11 hA11 x0 x1 xz0 xz1;go_wp2;have hput:=put2 HA11.out (.int .i64 4) (.int .i64 (-1));refine bodyPost_ret (Ziy (cb:=ab) rfl rfl hput.1 hput.2) rfl ?_;rw [HALLE.out];exact ⟨(BEL2.out.setCell (p:=⟨ab,0,none⟩) (by rw [HAB.out]; exact Y5 _) (.int .i64 4)).setCell (p:=⟨ab,1,none⟩) (by rw [HAB.out]; exact Y5 _) (.int .i64 (-1)),by decide,rfl⟩
    ·have hbb : decide ((m : Int) > 1500) = false := by simp; omega
     rw [Y9 (by rw [← HMM.out]; exact hbig)] at HALLE;have k0:w10.cell? ⟨0,0,none⟩=some (.int .i64 0)∧w10.cell? ⟨0,1,none⟩=some (.int .i64 (-1)):=by
      have h:=HF.out.below BEL.out;exact ⟨h.1,h.2.1⟩
     obtain ⟨k0,k1⟩:=k0;clear hbig;go_wp2_with fail
     refine Z1 [(true,0),(true,1),(true,2)] [3] (fun W=>W.cell? ⟨0,0,none⟩=some (.int .i64 0)∧W.cell? ⟨0,1,none⟩=some (.int .i64 (-1))) (by kernel_rfl) (by kernel_rfl) (fun _ _ d _ _ h=>by cases d <;> exact h) ⟨k0,k1⟩ (fun hS0=>?_);simp only [Zf,zD,zE,zF,zG,zH,zI]
     iterate 3
      first
       | (refine Z2 ?_ (by rfl) (fun w' hS'=>?_) ?_; rotate_left; (obtain ⟨s0,s1⟩:=hS'; go_simp; first | done | with_reducible rfl); simp only [Act.put,zA,zB,zC])
       | (refine Z3 (by rfl) ?_; simp only [Act.put,zA,zB,zC])
     refine Z6 ?_;go_wp2;have hput:=put2 HA10.out (.int .i64 0) (.int .i64 (-1));refine bodyPost_ret (Ziy (cb:=ab) (v:=.pointer (some ⟨nb,0,none⟩)) rfl rfl hput.1 hput.2) rfl ?_;rw [HALLE.out];refine ⟨(BEL.out.drew.setCell (p:=⟨ab,0,none⟩) (by rw [HAB.out]; exact Y5 _) (.int .i64 0)).setCell (p:=⟨ab,1,none⟩) (by rw [HAB.out]; exact Y5 _) (.int .i64 (-1)),.mk nb v 1 (Z0z acc) 0 kids,rfl,?_⟩;refine G10.out.give HB4.out.size (by have:=HNBW.out; have:=HSZ.out; have:=HNB.out; omega) (fun k hk=>?_) (by simp [World.size_setCell]);have:=HSZ.out
     exact (Yg _ _ _ _ (by simp only; omega)).trans (Yg _ _ _ _ (by simp only; omega))
   ·have n6 : (kd != 6) = true := by simpa using h6
    rw [Yb (by simp [hf,← hkd2,h6])] at hp;obtain ⟨x,σ3,hit,hrest⟩:=Ze hp;have IT:=lh hit;have RE:=lh hrest;have XX:=lh (fun hk=>Z7e hit hk);clear hf hp hfn hkd2 h6 hit hrest;go_wp2_with fail
    refine Z1 [(true,0),(false,1),(true,2),(true,3),(true,4),(true,5),(true,6),(true,7),(true,8),(true,9),(true,10)] [11,12,13,14,15] (fun W=>W.cell? ⟨C.rb,0,none⟩=some (.slice (some ⟨C.tb,C.off,none⟩) n C.cap)∧W.cell? ⟨C.rb,1,none⟩=some (.int .i64 i)∧W.cell? ⟨C.tb,C.off + i * 4,none⟩=some (.int .i64 kd)) (by kernel_rfl) (by kernel_rfl) (fun _ _ d _ _ h=>by cases d <;> exact h) ⟨c0,c1,t0⟩ (fun hS0=>?_)
    simp only [Zf,zD,zE,zF,zG,zH,zI]
    iterate 1
     first
      | (refine Z2 ?_ (by rfl) (fun w' hS'=>?_) ?_; rotate_left; (obtain ⟨s0,s1,s2⟩:=hS'; go_simp; first | done | with_reducible rfl); simp only [Act.put,zA,zB,zC])
      | (refine Z3 (by rfl) ?_; simp only [Act.put,zA,zB,zC])
    refine Z5 (fun K hK=>?_);go_simp
    refine HO.out.mono ?_;rintro e w6 ⟨rfl,rfl⟩;refine hK _ _ ⟨c0,c1,t0⟩ ?_;clear hK K
    iterate 9
     first
      | (refine Z2 ?_ (by rfl) (fun w' hS'=>?_) ?_; rotate_left; (obtain ⟨s0,s1,s2⟩:=hS'; go_simp; first | done | with_reducible rfl); simp only [Act.put,zA,zB,zC])
      | (refine Z3 (by rfl) ?_; simp only [Act.put,zA,zB,zC])
    refine Z6 ?_;go_wp2_with fail
    clear c0 c1 t0;refine Z1 [(true,0),(true,1),(true,2),(true,3),(true,4),(true,5),(false,6),(false,7),(false,8)] [9,10,11] (fun W=>W.cell? ⟨nb,3,none⟩=some v) (by kernel_rfl) (by kernel_rfl) (fun _ _ d _ _ h=>by cases d <;> exact h) n3 (fun hS0=>?_);simp only [Zf,zD,zE,zF,zG,zH,zI]
    iterate 6
     first
      | (refine Z2 ?_ (by rfl) (fun w' hS'=>?_) ?_; rotate_left; (have s0:=hS'; go_simp; first | done | with_reducible rfl); simp only [Act.put,zA,zB,zC])
      | (refine Z3 (by rfl) ?_; simp only [Act.put,zA,zB,zC])
    refine Z5 (fun K hK=>?_);go_simp
    refine (HS.out g wr.drew.drew C B 1 _ _ _ HQ.out.drew.drew HR.out (Ya HBB.out HFF.out.size) (by have:=HGF.out; have:=HGL.out; omega) IT.out).mono ?_;rintro e w12 ⟨a3,rfl,hA,hQ,hF⟩;have hF23:RFr wr w12 C.rb:=(RFr.refl wr C.rb).drew.drew.trans hF;have hN:=HN.out.rfr HR.out hF23;obtain ⟨_,_,m3,mz0,hnb⟩:=hN.cells;have mz:=mz0 3;have NE:=lh hN.list.2.1;have hkl:kids.length=acc.length:=by
     have:=hN.tree;simp only [ATree.tree,Tree.mk.injEq,true_and] at this;rw [← this,Z21,Yv]
    have HKL:=lh (show kids.length≤250000 by have:=H8.out; have:=HGL.out; omega);have hkl2:=HKL.out;have N12:=lh hN;have A12:=lh hA;have Q12x:=lh hQ;have F12x:=lh (HFF.out.trans hF23);obtain ⟨i0,hi,hz0,hz1,hz2⟩:=info_parts Tryz.infoPtr;refine hK _ _ m3 ?_;clear hK K hA hQ hF hF23 hN mz0 n3 hkl z3 y1;refine Z5 (fun K hK=>?_);go_simp
    refine hK _ _ ((Z4 hnb).trans m3) ?_;clear hK K;refine Z5 (fun K hK=>?_);refine step_append_lies _ (by rfl) (.tmp 43) (.tmp 46) 44 (by rfl) B 22 i0 _ 1 8 Tryz.underlying44 hi hz0 hz1 hz2 rfl (by decide) v kids.length (kids.map ATree.ptr) (by rfl) (N12.out.at'.rowOf.alloc _) ⟨w12.heap.size,0,none⟩ 1 1 [a3.ptr] (by rfl) rfl (Yi (cs:=#[a3.ptr]) (t:=22) (fr:=(0,0)) (heap_alloc_new w12 _)) (by simp [ATree.ptr,Value.oneCell']) (by decide) (by unfold maxLen; omega) (by omega) (by simp; have:=F12x.out.size; have:=HBB.out; omega) (w12.heap.size + 1) (by simp) ?_
    intro gg cap w13 hown4 hgrow4 hat4 hlt4;have m4:w13.cell? ⟨nb,3,none⟩=some v:=(hgrow4.cell_far ⟨nb,3,none⟩ (by simp; omega) (fun e=>NE.out e.symm)).trans ((Z4 hnb).trans m3);have mz4:w13.frozen? ⟨nb,3,none⟩=false:=(hgrow4.frozen_far ⟨nb,3,none⟩ (by simp; omega) (fun e=>NE.out e.symm)).trans ((Z01 hnb).trans mz);refine hK _ _ m4 ?_;clear hK K;simp only [Act.put,zA,zB,zC]
    have hfin:=Got.pushT HR.out HBB.out N12.out (wA:=wr.drew.drew) (fun x hx=>(HN.out.new x hx).2) A12.out F12x.out ((Y8 _ _).alloc (Y5 _) _) hgrow4 hown4 (by rcases hat4 with h | h; (exact .inl h); (exact .inr (by omega))) hlt4;have FIN:=lh hfin;clear hgrow4 hown4 hat4 hlt4 hfin;refine Z6 ?_;have hinv:g≤G∧UInv w4 C B nb l σ' G g (w13.setCell ⟨nb,3,none⟩ (.slice (some ⟨gg,0,none⟩) (kids.length + 1) cap)):=
     ⟨by have := HGF.out; omega, acc ++ [x], kids ++ [a3], _, σ3, RE.out, FIN.out.1, Q12x.out.keep fun k hk => FIN.out.2.2 k (by have := HR.out; omega), FIN.out.2.1, by have := H8.out; simp; omega, fun y hy => by
      rcases List.mem_append.1 hy with hy | hy;·exact HX.out y hy
      ·simp only [List.mem_singleton] at hy; subst hy; exact XX.out⟩
    have HINV:=lh hinv;clear hinv;go_wp2;exact ⟨⟨g,HINV.out⟩,by rw [← HG.out]; exact Nat.lt_succ_of_le (Z32 HINV.out)⟩
end Go.Proofs.YtmjfllklcpjddaaGreatDoor
