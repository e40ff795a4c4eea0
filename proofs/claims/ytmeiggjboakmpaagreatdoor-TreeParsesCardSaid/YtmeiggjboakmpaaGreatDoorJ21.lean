/- The document's Parse: a program, or its first fault. -/
import Derived.Test.YtmeiggjboakmpaaGreatDoorJ18
import Derived.Test.YtmeiggjboakmpaaGreatDoorJ20
namespace Go.Proofs.YtmeiggjboakmpaaGreatDoor
open Go Go.RowKit
set_option maxRecDepth 100000
set_option maxHeartbeats 20000000
set_option linter.unusedVariables false
theorem Zjw {F:Nat} {ts:List Tok} (hg:Z0c ts) {r:Except (Int×Nat) (Tree×List Tok)} (h:Z0 F (.stmts 1 []) 0 ts=some r) :
 ∃ l σ', refF (2 * F + 8) (.prog []) 0 ⟨ts, none⟩ = some (l, σ') ∧ r = (match σ'.f with
   | none=>.ok (.mk 1 (Z1n l.kids) 0 l.kids,σ'.ts)
   | some e=>.error e):=by
 have A:=(agree F 0 ts hg (2 * F + 8) (Y5 _)).prog [] rfl;rw [h] at A;rcases r with e | ⟨t,us⟩
 ·obtain ⟨t,ts',hq⟩:=A;obtain ⟨l,σ',h1,h2⟩:=Zn hq;simp only [Option.some.injEq,Prod.mk.injEq] at h2;refine ⟨l,σ',h1,?_⟩;rw [h2.2]
 ·obtain ⟨hq,_⟩:=A;obtain ⟨l,σ',h1,h2⟩:=Zn hq;simp only [Option.some.injEq,Prod.mk.injEq] at h2;refine ⟨l,σ',h1,?_⟩;rw [h2.2,← h2.1];rfl
theorem QAt.start {w1 w:World} {base tb cap rb:Nat} {text:ByteArray} {ts:List Tok} (hm:text.size≤3000) (ht:Z6h text=.ok ts) (hv:w1.ownsRow base 48 4 (.slice (some ⟨tb,0,none⟩) ts.length cap) ts.length (ts.flatMap Tok.cells))
 (hk:w.heap[tb]?=w1.heap[tb]?) (ho:tb < rb) (hblk:w.heap[rb]?=some (.cells #[.slice (some ⟨tb,0,none⟩) ts.length cap,.int .i64 0,.int .i64 0,.int .i64 (-1)] 45 (0,0))):QAt w ⟨rb,tb,0,cap,ts⟩ 0 none:=by
 obtain ⟨s1,s2,s3⟩:=Z73 ts 0 (Yp _) (Z6f ht);obtain ⟨s4,s5⟩:=Zfe ts 0 (Yp _) (Z6f ht);obtain ⟨hle,hmx⟩:ts.length≤cap∧cap≤maxLen:=by
  rcases Zp hv with ⟨h1,_⟩ | ⟨g,cap',h1,h2,h3,_⟩;·cases h1
  ·simp only [Value.slice.injEq] at h1;rw [h1.2.2];exact ⟨h2,h3⟩
 unfold maxLen at hmx;refine ⟨hblk,hle,hmx,ho,fun k t j x h1 h2=>?_,s1,?_,by simp only; omega,fun c p e=>by (cases e),s4,fun t ht=>?_⟩
 ·have h3 := Zdr (f := Tok.cells) (fun _ => rfl) hv (g := tb) rfl h1 h2;have e : (0 + k * 4 + j) = k * 4 + j := by omega
  simp only [e];exact (Yj hk).trans h3
 ·obtain ⟨l,e,h,_⟩:=s1;simp only;rw [h]; simp
 ·have:=s5 t ht;unfold maxLen;omega
def Z6i (w:World) (r:Except (Int×Int) Tree) (e:Ending) (w':World):Prop:=
 Below w.heap.size w w'∧match r with
 | .ok t=>∃ a,e=.returned (.tuple #[a.ptr,.agg #[.int .i64 0,.int .i64 (-1)]])∧Got w w.heap.size w' a t
 | .error (c,p)=>c≠0∧e=.returned (.tuple #[.pointer none,.agg #[.int .i64 c,.int .i64 p]])
theorem Zi1 {w':World} {tmps:Array Value} {v:Value} {cb:Nat} {x y:Value} (h2:tmps.getD 2 undef=v) (h3:tmps.getD 3 undef=.pointer (some ⟨cb,0,none⟩)) (hx:w'.cell? ⟨cb,0,none⟩=some x) (hy:w'.cell? ⟨cb,1,none⟩=some y) :
 (results Tryz.f4 tmps).run Tryz.prog w'=.ok (.tuple #[v,.agg #[x,y]]) w':=by
 have h2':tmps[2]?.getD undef=v:=by simpa using h2
 have h3':tmps[3]?.getD undef=.pointer (some ⟨cb,0,none⟩):=by simpa using h3
 simp [results,go_sem,h2',h3',hx,hy]
theorem put2 {w1:World} {ab:Nat} {x y:Value} {t:TypeId} (h:w1.heap[ab]?=some (.cells #[x,y] t (0,0))) (a b:Value):((w1.setCell ⟨ab,0,none⟩ a).setCell ⟨ab,1,none⟩ b).cell? ⟨ab,0,none⟩=some a∧((w1.setCell ⟨ab,0,none⟩ a).setCell ⟨ab,1,none⟩ b).cell? ⟨ab,1,none⟩=some b:=by
 have h1:=Z07 (o:=1) b (Z07 (o:=0) a h);exact ⟨by simp [World.cell?,h1],by simp [World.cell?,h1]⟩
theorem Zaw {w w4 wr:World} {rb:Nat} (h:Below w.heap.size w w4) (hF:RFr w4 wr rb) (hr:w.heap.size≤rb):Below w.heap.size w wr:=
 ⟨hF.os.trans h.os,hF.tape.trans h.tape,hF.output.trans h.output,Ya h.size hF.size,fun k hk=>(hF.block k (Ye hk h.size) (by omega)).trans (h.block k hk)⟩
theorem Got.give {w w4 W1 W:World} {B:Nat} {a:ATree} {t:Tree} (G:Got w4 B W1 a t) (h4:w.heap.size≤w4.heap.size) (hB:w.heap.size≤B) (hk:∀ k,w4.heap.size≤k→W.heap[k]?=W1.heap[k]?) (hs:W.heap.size=W1.heap.size):Got w w.heap.size W a t:=
 ⟨G.tree,(G.at'.keepB fun k hk'=>hk k (G.new k hk').1).base hB,G.nodup,fun x hx=>⟨Ya h4 (G.new x hx).1,by rw [hs]; exact (G.new x hx).2⟩⟩
theorem Zfq {w':World} {tmps:Array Value} {cb:Nat} {x y:Value} (h3:tmps.getD 2 undef=.pointer (some ⟨cb,0,none⟩)) (hx:w'.cell? ⟨cb,0,none⟩=some x) (hy:w'.cell? ⟨cb,1,none⟩=some y) :
 (results Tryz.f16 tmps).run Tryz.prog w'=.ok (.agg #[x,y]) w':=by
 have h3':tmps[2]?.getD undef=.pointer (some ⟨cb,0,none⟩):=by simpa using h3
 simp [results,go_sem,h3',hx,hy]
theorem Zbh (w:World) (c:Int) :
 Calls Tryz.prog 16 #[.int .i64 c] w fun e w'=>e=.returned (.agg #[.int .i64 c,.int .i64 (-1)])∧Below w.heap.size w w':=by
 have hb:Below w.heap.size w (w.alloc (.cells #[.int .i64 c,.int .i64 (-1)] 25)):=(Y8 _ _).alloc (Y5 _) _;have HB:=lh hb;clear hb;go_enter Tryz.func16,Tryz.ntmps16
 go_wp2;refine bodyPost_ret (Zfq (cb:=w.heap.size) (x:=.int .i64 c) (y:=.int .i64 (-1)) rfl (by simp) (by simp)) rfl ?_;exact ⟨rfl,HB.out⟩
def UInv (w4:World) (C:QC) (B nb:Nat) (l:Tree) (σ':RS) (G g:Nat) (wr:World):Prop:=
 ∃ (acc:List Tree) (kids:List ATree) (v:Value) (σ:RS),refF g (.prog acc) 0 σ=some (l,σ')∧Got w4 B wr (.mk nb v 1 ⟨#[]⟩ 0 kids) (.mk 1 ⟨#[]⟩ 0 acc)∧QS wr C σ∧RFr w4 wr C.rb∧acc.length + g≤G∧∀ x∈acc,x.kind=15→x.kids≠[]
theorem Zd8 (hS:∀ g,Z1s 13 qd .stmt g) (w:World) (text:ByteArray) (hm:text.size≤3000) (hW:Z7k w) (hF:Z7e w) (ts:List Tok) (ht:Z6h text=.ok ts) :
 Calls Tryz.prog 4 #[.string text] w (Z6i w (Z1o text)):=by
 obtain ⟨w0,hw0⟩:=zX (w.alloc (.cells #[.int .i64 0,.int .i64 0] 25))
 have hal:Below w.heap.size w w0:=by rw [hw0]; exact (Y8 _ _).alloc (Y5 _) _
 have hs0:w0.heap.size=w.heap.size + 1:=by rw [hw0]; simp
 have hA0:w0.heap[w.heap.size]?=some (.cells #[.int .i64 0,.int .i64 0] 25 (0,0)):=by rw [hw0]; exact heap_alloc_new _ _
 have HC:=Z8s w0 text hm (hW.below hal) (hF.below hal);rw [ht] at HC;have HC:=lh HC;obtain ⟨s1,s2,s3⟩:=Z73 ts 0 (Yp _) (Z6f ht);obtain ⟨r,hr⟩:∃ r,Z0 (40 * ts.length + 31) (.stmts 1 []) 0 ts=some r:=by
  have:=Z9u (40 * ts.length + 31) (.stmts 1 []) 0 ts (by simp only [Job.rank]; omega);cases h:Z0 (40 * ts.length + 31) (.stmts 1 []) 0 ts with
  | none=>exact absurd h this
  | some r=>exact ⟨r,rfl⟩
 have hall:Z1o text=finP r:=by
  unfold Z1o;rw [Y9 (by omega),ht];simp only [hr];rcases r with ⟨e,p⟩ | ⟨t,us⟩ <;> rfl
 obtain ⟨l,σ',hpr,hrr⟩:=Zjw s3 hr;obtain ⟨G,hG⟩:=zX (2 * (40 * ts.length + 31) + 8)
 rw [← hG] at hpr;have hlen:ts.length≤3001:=by omega
 have hmany:σ'.f=none→(Tree.mk 1 (Z1n l.kids) 0 l.kids).many≤6100:=fun h=>by
  rw [h] at hrr;simp only at hrr;rw [hrr] at hr;have:=Za1 _ _ _ _ _ _ hr;simp only [Job.base,Zv] at this;omega
 have HMANY:=lh hmany;have HGL:=lh (show G≤250000 by omega);rw [hrr] at hall;have HALL:=lh hall;have HPR:=lh hpr;have HAL:=lh hal;have HS0:=lh hs0;have HA0:=lh hA0;have HW0:=lh hw0;have HF:=lh hF;have HM:=lh hm;have HT:=lh ht;have HS:=lh hS;have HTS:=lh (show 0 < ts.length by obtain ⟨l,e,h,_⟩:=s1; rw [h]; simp);have HLEN:=lh hlen;clear hmany hW hF ht hm hS hw0 hal hs0 hA0 s1 s2 s3 hr hall hpr hrr hG hlen;go_enter Tryz.func4,Tryz.ntmps4
 go_wp2_with fail
 rw [← HW0.out];refine HC.out.mono ?_;rintro e w1 ⟨⟨v,rfl,hv⟩,hB⟩;obtain ⟨tb,cp,rfl⟩:∃ tb cp,v=.slice (some ⟨tb,0,none⟩) ts.length cp:=by
  rcases Zp hv with ⟨_,h1⟩ | ⟨g,cap,h1,_⟩;·have:=HTS.out; omega
  ·exact ⟨_,_,h1⟩
 obtain ⟨g0,g1,g2⟩:=(HF.out.below HAL.out).below hB;obtain ⟨ab,hab⟩:=zX w.heap.size
 have hA1:w1.heap[ab]?=some (.cells #[.int .i64 0,.int .i64 0] 25 (0,0)):=by rw [hab]; exact (hB.block w.heap.size (by rw [HS0.out]; omega)).trans HA0.out
 have hab1:ab < w1.heap.size:=(Y6.1 hA1).1;have htb:=hv.lt tb rfl;obtain ⟨w2,hw2⟩:=zX (w1.alloc (.cells #[.int .i64 0,.int .i64 (-1)] 25))
 have hs2:w2.heap.size=w1.heap.size + 1:=by rw [hw2]; simp
 have h12:Below w1.heap.size w1 w2:=by rw [hw2]; exact (Y8 _ _).alloc (Y5 _) _
 have hf2:w2.heap[w1.heap.size]?=some (.cells #[.int .i64 0,.int .i64 (-1)] 25 (0,0)):=by rw [hw2]; exact heap_alloc_new _ _
 have f20:w2.cell? ⟨w1.heap.size,0,none⟩=some (.int .i64 0):=by simp [World.cell?,hf2]
 have k0:w2.cell? ⟨0,0,none⟩=some (.int .i64 0):=(h12.cell (p:=⟨0,0,none⟩) g2).trans g0;have k1:w2.cell? ⟨0,1,none⟩=some (.int .i64 (-1)):=(h12.cell (p:=⟨0,1,none⟩) g2).trans g1;have k2:0 < w2.heap.size:=by omega
 rw [hw2] at k0 k1;have m0:=g0;have m1:=g1;obtain ⟨w4,hw4⟩:=zX (w2.alloc (.cells #[.slice (some ⟨tb,0,none⟩) ts.length cp,.int .i64 0,.int .i64 0,.int .i64 (-1)] 45))
 have hs4:w4.heap.size=w2.heap.size + 1:=by rw [hw4]; simp
 have h24:Below w2.heap.size w2 w4:=by rw [hw4]; exact (Y8 _ _).alloc (Y5 _) _
 have hp4:w4.heap[w2.heap.size]?=some (.cells #[.slice (some ⟨tb,0,none⟩) ts.length cp,.int .i64 0,.int .i64 0,.int .i64 (-1)] 45 (0,0)):=by rw [hw4]; exact heap_alloc_new _ _
 obtain ⟨C,hC,hQ4,hCL⟩:∃ C:QC,C.rb=w2.heap.size∧QAt w4 C 0 none∧C.L=ts:=
  ⟨⟨w2.heap.size,tb,0,cp,ts⟩,rfl,QAt.start HM.out HT.out hv ((h24.block tb (by omega)).trans (h12.block tb htb.2)) (by omega) hp4,rfl⟩
 obtain ⟨w5,hw5⟩:=zX (w4.alloc (.cells #[.int .i64 1,.string ⟨#[]⟩,.int .i64 0,.slice none 0 0] 38))
 have h45:Below w4.heap.size w4 w5:=by rw [hw5]; exact (Y8 _ _).alloc (Y5 _) _
 obtain ⟨nb,hnb⟩:=zX w4.heap.size
 have hN0:Got w4 w4.heap.size w5 (.mk nb (.slice none 0 0) 1 ⟨#[]⟩ 0 []) (.mk 1 ⟨#[]⟩ 0 []):=by rw [hw5,hnb]; exact Got.leaf (Y5 _) (RFr.refl w4 C.rb)
 have ST:=lh (show ∃ g,g≤G∧UInv w4 C w4.heap.size nb l σ' G g w5 from ⟨G,Y5 _,[],[],_,⟨ts,none⟩,HPR.out,hN0,⟨0,by rw [hCL]; rfl,hQ4.below h45⟩,RFr.below h45,by simp,fun x hx=>by cases hx⟩);have hb4:Below w.heap.size w w4:=((HAL.out.trans (hB.mono HAL.out.size)).trans (h12.mono (by have:=HS0.out; have:=hB.size; omega))).trans (h24.mono (by have:=HS0.out; have:=hB.size; omega));have HB4:=lh hb4;have a4:w4.heap[ab]?=some (.cells #[.int .i64 0,.int .i64 0] 25 (0,0)):=(h24.block ab (by omega)).trans ((h12.block ab hab1).trans hA1)
 have HA4:=lh a4;have HFI:=lh (show Z7e w4 from (HF.out.below hb4));have HAB:=lh hab;have HSZ:=lh (show w.heap.size + 3≤w4.heap.size∧ab < C.rb∧C.rb < w4.heap.size by have:=hB.size; have:=HS0.out; omega);have HW2:=lh hw2;have HW4:=lh hw4;have HW5:=lh hw5;have HP1:=lh (show w1.heap.size + 1 + 1=nb by omega);have HP2:=lh (show w1.heap.size + 1=C.rb by omega);have HBW:=lh (show w.heap.size≤C.rb by have:=hB.size; have:=HS0.out; omega);have HNB:=lh hnb;have HCL:=lh hCL
 clear hv hB hA1 hw2 hs2 h12 hf2 hw4 hs4 h24 hp4 hQ4 hw5 h45 hN0 hb4 a4 hab hC hnb hCL htb HC g0 g1 f20;go_wp2_with fail
 rw [HP1.out,HP2.out,← HAB.out,← HW2.out,← HW4.out,← HW5.out];have hr:C.rb < w4.heap.size:=HSZ.out.2.2;obtain ⟨B,hB⟩:=zX w4.heap.size
 rw [← hB] at ST hr;have HBB:=lh (show B≤w4.heap.size by omega);have HR:=lh hr;have HNBW:=lh (show B=nb by rw [hB]; exact HNB.out.symm);clear k0 k1 m0 m1 hB hr;go_loopw [] (fun wr=>∃ g,g≤G∧UInv w4 C B nb l σ' G g wr) (fun wr=>least fun g=>g≤G∧UInv w4 C B nb l σ' G g wr)
 case atStart=>exact ST.out
 case round=>
  have hI:=Z3y hrel;clear ST;obtain ⟨g,hg⟩:=zX (least fun g=>g≤G∧UInv w4 C B nb l σ' G g wr)
  rw [← hg] at hI;have HG:=lh hg;clear hg hrel;obtain ⟨hgF,acc,kids,v,σ,hp,hN,hQ,hF,h8,hx⟩:=hI;cases g with
  | zero=>simp [refF] at hp
  | succ g=>
  rw [refF] at hp;have HO:=Z2f hQ.drew;have HQ:=lh hQ;obtain ⟨i,hi,hA⟩:=hQ;have c0:=hA.c0;have c1:=hA.c1;have t0:=hA.hd (j:=0) rfl;rw [Nat.add_zero] at t0;have hil:=hA.lt;have hle:=hA.le;have hmo:=hA.most;have hfw:=hA.few;obtain ⟨n,hn⟩:=zX C.L.length
  rw [← hn] at c0 hil hle hfw;obtain ⟨kd,hkd⟩:=zX ((hdT (C.L.drop i)).kind)
  rw [← hkd] at t0;have hkd2:kd=(hdT σ.ts).kind:=by rw [hi]; exact hkd
  obtain ⟨_,y1,n3,z3,hnbw⟩:=hN.cells;have HA:=lh hA;have HN:=lh hN;have HFF:=lh hF;have H8:=lh h8;have HX:=lh hx;have HGF:=lh hgF;have HA5:=lh (show wr.heap[ab]?=some (.cells #[.int .i64 0,.int .i64 0] 25 (0,0)) from (hF.block ab (by have:=HSZ.out; omega) (by have:=HSZ.out; omega)).trans HA4.out);clear hA hN hF h8 hx hgF hi hkd hn;by_cases hf:σ.f.isNone=true;rotate_left
  ·have hf':σ.f.isNone=false:=Bool.eq_false_iff.2 hf;rw [hf'] at HO;rw [Y9 (by simp [hf'])] at hp;simp only [Option.some.injEq,Prod.mk.injEq] at hp;have HO:=lh HO;have HE:=lh hp;obtain ⟨ec,ep,hfe⟩:∃ c p,σ.f=some (c,p):=by
    cases h:σ.f with
    | none=>rw [h] at hf'; cases hf'
    | some x=>exact ⟨x.1,x.2,rfl⟩
   have d2:=HA.out.c2;have d3:=HA.out.c3;rw [hfe] at d2 d3;simp only [fE,fP] at d2 d3;have HEC:=lh (HA.out.code ec ep hfe);have HALLE:=lh (show Z1o text=.error (ec,(ep:Int)) by rw [HALL.out,← hp.2,hfe]; rfl);clear hf hf' hp hfe hkd2;go_wp2_with fail
   refine Zf [0,3,4,6,8,10,12,14,16,18,20] [11,12,13,14,15] (fun W=>W.cell? ⟨C.rb,0,none⟩=some (.slice (some ⟨C.tb,C.off,none⟩) n C.cap)∧W.cell? ⟨C.rb,1,none⟩=some (.int .i64 i)∧W.cell? ⟨C.tb,C.off + i * 4,none⟩=some (.int .i64 kd)) ⟨c0,c1,t0⟩ fun _=>?_;simp only [Zh,pD,zD,zE,zF,zG,zH,zI,zJ,zK]
   iterate 1
    first | refine Za _ ?_ | refine Zb ?_
    simp only [Act.put,zA,zB,zC]
   refine Z5 (fun K hK=>?_);go_simp
   refine HO.out.mono ?_;rintro e w6 ⟨rfl,rfl⟩;refine hK _ _ ⟨c0,c1,t0⟩ ?_;clear hK K
   iterate 9
    first | refine Za _ ?_ | refine Zb ?_
    simp only [Act.put,zA,zB,zC]
   refine Z6 ?_;go_wp2_with fail
   refine HO.out.mono ?_;rintro e w7 ⟨rfl,rfl⟩;have x0:wr.cell? ⟨ab,0,none⟩=some (.int .i64 0):=by simp [World.cell?,HA5.out]
   have x1:wr.cell? ⟨ab,1,none⟩=some (.int .i64 0):=by simp [World.cell?,HA5.out]
   have xz0:wr.frozen? ⟨ab,0,none⟩=false:=by simp [World.frozen?,HA5.out]
   have xz1:wr.frozen? ⟨ab,1,none⟩=false:=by simp [World.frozen?,HA5.out]
   clear c0 c1 t0;go_wp2_with fail
   refine Zf [0,2,4,6,8] [5] (fun W=>W.cell? ⟨C.rb,2,none⟩=some (.int .i64 ec)∧W.cell? ⟨C.rb,3,none⟩=some (.int .i64 ep)) ⟨d2,d3⟩ fun _=>?_;simp only [Zh,pD,zD,zE,zF,zG,zH,zI,zJ,zK]
   iterate 5
    first | refine Za _ ?_ | refine Zb ?_
    simp only [Act.put,zA,zB,zC]
   refine Z6 ?_;go_wp2;have hput:=put2 HA5.out (.int .i64 ec) (.int .i64 ep);refine bodyPost_ret (Zi1 (cb:=ab) rfl rfl hput.1 hput.2) rfl ?_;rw [HALLE.out];refine ⟨?_,HEC.out,rfl⟩;have hb:=Zaw HB4.out HFF.out HBW.out;have h1:=((hb.setCell (p:=⟨ab,0,none⟩) (by rw [HAB.out]; exact Y5 _) (.int .i64 ec)).setCell (p:=⟨ab,1,none⟩) (by rw [HAB.out]; exact Y5 _) (.int .i64 (ep:Int))).drew.drew;exact h1
  ·rw [hf] at HO;have HO := lh HO;have hfn : σ.f = none := by simpa using hf
   by_cases h6:kd=6
   ·have n6 : (kd != 6) = false := by simp [h6]
    rw [Y9 (by simp [← hkd2,h6])] at hp;simp only [Option.some.injEq,Prod.mk.injEq] at hp;have HALLE:=lh (show Z1o text=if 1500 < (Tree.mk 1 (Z1n acc) 0 acc).many then .error (4,-1) else .ok (.mk 1 (Z1n acc) 0 acc) by rw [HALL.out,← hp.2,hfn,← hp.1]; rfl);have HMN:=lh (show (Tree.mk 1 (Z1n acc) 0 acc).many≤6100 by have:=HMANY.out (by rw [← hp.2]; exact hfn); rw [← hp.1] at this; exact this);clear hf hp hfn hkd2 h6;go_wp2_with fail
    refine Zf [0,3,4,6,8,10,12,14,16,18,20] [11,12,13,14,15] (fun W=>W.cell? ⟨C.rb,0,none⟩=some (.slice (some ⟨C.tb,C.off,none⟩) n C.cap)∧W.cell? ⟨C.rb,1,none⟩=some (.int .i64 i)∧W.cell? ⟨C.tb,C.off + i * 4,none⟩=some (.int .i64 kd)) ⟨c0,c1,t0⟩ fun _=>?_;simp only [Zh,pD,zD,zE,zF,zG,zH,zI,zJ,zK]
    iterate 1
     first | refine Za _ ?_ | refine Zb ?_
     simp only [Act.put,zA,zB,zC]
    refine Z5 (fun K hK=>?_);go_simp
    refine HO.out.mono ?_;rintro e w6 ⟨rfl,rfl⟩;refine hK _ _ ⟨c0,c1,t0⟩ ?_;clear hK K
    iterate 9
     first | refine Za _ ?_ | refine Zb ?_
     simp only [Act.put,zA,zB,zC]
    refine Z6 ?_;go_wp2_with fail
    refine HO.out.mono ?_;rintro e w7 ⟨rfl,rfl⟩;clear c0 c1 t0;have htr:=HN.out.tree;simp only [ATree.tree,Tree.mk.injEq,true_and] at htr;have hL:=HN.out.list.1;rw [htr] at hL;have HST:=lh (Z5a w4 wr.drew B v kids acc (hL.rfr HR.out (RFr.refl wr C.rb).drew) HX.out);clear hL htr;go_wp2_with fail
    refine HST.out.mono ?_;rintro e w8 ⟨rfl,hb8⟩;have hF8:RFr wr w8 C.rb:=(RFr.refl wr C.rb).drew.trans (RFr.below hb8);have hN8:=HN.out.rfr HR.out hF8;obtain ⟨_,q1,q3,qz,hnbw8⟩:=hN8.cells;have qz1:=qz 1;have K8:=Got.text0 (t':=Z1n acc) HR.out HBB.out hN8 (HFF.out.trans hF8);obtain ⟨W9,hW9⟩:=zX (w8.setCell ⟨nb,1,none⟩ (.string (Z1n acc)))
    rw [← hW9] at K8;have HW9:=lh hW9;have G9:=lh K8.1;have F9:=lh K8.2.1;have htr9:=K8.1.tree;have hmt:(ATree.mk nb v 1 (Z1n acc) 0 kids).many=(Tree.mk 1 (Z1n acc) 0 acc).many:=by rw [← Z7l,htr9]
    have HMT:=lh hmt;have HAA:=lh (Zl0 _ (.mk nb v 1 (Z1n acc) 0 kids) (Y5 _) (by have:=HMN.out; omega) W9 B K8.1.at');unfold ATree.ptr at HAA;clear hF8 hN8 qz K8 hW9 htr9 hmt hb8 HST n3 z3 y1;go_wp2_with fail
    rw [← HW9.out];refine HAA.out.mono ?_;rintro e w10 ⟨vs,rfl,hns,hb10⟩;have hsl:(ATree.mk nb v 1 (Z1n acc) 0 kids).subs.length=(Tree.mk 1 (Z1n acc) 0 acc).many:=by rw [Z90]; exact HMT.out
    obtain ⟨g1,cap1,rfl⟩:∃ g cap,vs=.slice (some ⟨g,0,none⟩) (Tree.mk 1 (Z1n acc) 0 acc).many cap:=by
     rcases hns.form with ⟨_,h0⟩ | ⟨g,cap,h0,_⟩;·have:=Zdg (ATree.mk nb v 1 (Z1n acc) 0 kids); rw [h0] at this; simp at this
     ·rw [hsl] at h0; exact ⟨_,_,h0⟩
    obtain ⟨m,hm⟩:=zX ((Tree.mk 1 (Z1n acc) 0 acc).many)
    have HMM:=lh hm;rw [← hm];have F10:=lh (F9.out.trans (RFr.below hb10));have G10:=lh (G9.out.rfr HR.out (RFr.below hb10));have hA10:w10.heap[ab]?=some (.cells #[.int .i64 0,.int .i64 0] 25 (0,0)):=(F10.out.block ab (by have:=HSZ.out; omega) (by have:=HSZ.out; omega)).trans HA4.out;have HA10:=lh hA10;have x0:w10.cell? ⟨ab,0,none⟩=some (.int .i64 0):=by simp [World.cell?,hA10]
    have x1:w10.cell? ⟨ab,1,none⟩=some (.int .i64 0):=by simp [World.cell?,hA10]
    have xz0:w10.frozen? ⟨ab,0,none⟩=false:=by simp [World.frozen?,hA10]
    have xz1:w10.frozen? ⟨ab,1,none⟩=false:=by simp [World.frozen?,hA10]
    have BEL:=lh (Zaw HB4.out F10.out HBW.out);clear hns hb10 hsl hm hA10 HAA q1 q3 qz1 hnbw8 hnbw;by_cases hbig:1500 < m
    ·have hbb : decide ((m : Int) > 1500) = true := by simp; omega
     rw [Yb (by rw [← HMM.out]; exact hbig)] at HALLE;have HBR:=lh (Zbh w10 4);clear hbig;go_wp2_with fail
     refine HBR.out.mono ?_;rintro e w11 ⟨rfl,hb11⟩;have hA11:w11.heap[ab]?=some (.cells #[.int .i64 0,.int .i64 0] 25 (0,0)):=(hb11.block ab (Y6.1 HA10.out).1).trans HA10.out;have HA11:=lh hA11;have y0:w11.cell? ⟨ab,0,none⟩=some (.int .i64 0):=by simp [World.cell?,hA11]
     have y1:w11.cell? ⟨ab,1,none⟩=some (.int .i64 0):=by simp [World.cell?,hA11]
     have yz0:w11.frozen? ⟨ab,0,none⟩=false:=by simp [World.frozen?,hA11]
     have yz1:w11.frozen? ⟨ab,1,none⟩=false:=by simp [World.frozen?,hA11]
     have BEL2:=zT BEL hb11;clear hb11 hA11 x0 x1 xz0 xz1;go_wp2;have hput:=put2 HA11.out (.int .i64 4) (.int .i64 (-1));refine bodyPost_ret (Zi1 (cb:=ab) rfl rfl hput.1 hput.2) rfl ?_;rw [HALLE.out];exact ⟨(BEL2.out.setCell (p:=⟨ab,0,none⟩) (by rw [HAB.out]; exact Y5 _) (.int .i64 4)).setCell (p:=⟨ab,1,none⟩) (by rw [HAB.out]; exact Y5 _) (.int .i64 (-1)),by decide,rfl⟩
    ·have hbb : decide ((m : Int) > 1500) = false := by simp; omega
     rw [Y9 (by rw [← HMM.out]; exact hbig)] at HALLE;have k0:w10.cell? ⟨0,0,none⟩=some (.int .i64 0)∧w10.cell? ⟨0,1,none⟩=some (.int .i64 (-1)):=by
      have h:=HF.out.below BEL.out;exact ⟨h.1,h.2.1⟩
     obtain ⟨k0,k1⟩:=k0;clear hbig;go_wp2_with fail
     refine Zf [0,2,4] [3] (fun W=>W.cell? ⟨0,0,none⟩=some (.int .i64 0)∧W.cell? ⟨0,1,none⟩=some (.int .i64 (-1))) ⟨k0,k1⟩ fun _=>?_;simp only [Zh,pD,zD,zE,zF,zG,zH,zI,zJ,zK]
     iterate 3
      first | refine Za _ ?_ | refine Zb ?_
      simp only [Act.put,zA,zB,zC]
     refine Z6 ?_;go_wp2;have hput:=put2 HA10.out (.int .i64 0) (.int .i64 (-1));refine bodyPost_ret (Zi1 (cb:=ab) (v:=.pointer (some ⟨nb,0,none⟩)) rfl rfl hput.1 hput.2) rfl ?_;rw [HALLE.out];refine ⟨(BEL.out.drew.setCell (p:=⟨ab,0,none⟩) (by rw [HAB.out]; exact Y5 _) (.int .i64 0)).setCell (p:=⟨ab,1,none⟩) (by rw [HAB.out]; exact Y5 _) (.int .i64 (-1)),.mk nb v 1 (Z1n acc) 0 kids,rfl,?_⟩;refine G10.out.give HB4.out.size (by have:=HNBW.out; have:=HSZ.out; have:=HNB.out; omega) (fun k hk=>?_) (by simp [World.size_setCell]);have:=HSZ.out
     exact (Yg _ _ _ _ (by simp only; omega)).trans (Yg _ _ _ _ (by simp only; omega))
   ·have n6 : (kd != 6) = true := by simpa using h6
    rw [Yb (by simp [hf,← hkd2,h6])] at hp;obtain ⟨x,σ3,hit,hrest⟩:=Zn hp;have IT:=lh hit;have RE:=lh hrest;have XX:=lh (fun hk=>Z7s hit hk);clear hf hp hfn hkd2 h6 hit hrest;go_wp2_with fail
    refine Zf [0,3,4,6,8,10,12,14,16,18,20] [11,12,13,14,15] (fun W=>W.cell? ⟨C.rb,0,none⟩=some (.slice (some ⟨C.tb,C.off,none⟩) n C.cap)∧W.cell? ⟨C.rb,1,none⟩=some (.int .i64 i)∧W.cell? ⟨C.tb,C.off + i * 4,none⟩=some (.int .i64 kd)) ⟨c0,c1,t0⟩ fun _=>?_;simp only [Zh,pD,zD,zE,zF,zG,zH,zI,zJ,zK]
    iterate 1
     first | refine Za _ ?_ | refine Zb ?_
     simp only [Act.put,zA,zB,zC]
    refine Z5 (fun K hK=>?_);go_simp
    refine HO.out.mono ?_;rintro e w6 ⟨rfl,rfl⟩;refine hK _ _ ⟨c0,c1,t0⟩ ?_;clear hK K
    iterate 9
     first | refine Za _ ?_ | refine Zb ?_
     simp only [Act.put,zA,zB,zC]
    refine Z6 ?_;go_wp2_with fail
    clear c0 c1 t0;refine Zf [0,2,4,6,8,10,13,15,17] [9,10,11] (fun W=>W.cell? ⟨nb,3,none⟩=some v) n3 fun _=>?_;simp only [Zh,pD,zD,zE,zF,zG,zH,zI,zJ,zK]
    iterate 6
     first | refine Za _ ?_ | refine Zb ?_
     simp only [Act.put,zA,zB,zC]
    refine Z5 (fun K hK=>?_);go_simp
    refine (HS.out g wr.drew.drew C B 1 _ _ _ HQ.out.drew.drew HR.out (Ya HBB.out HFF.out.size) (by have:=HGF.out; have:=HGL.out; omega) IT.out).mono ?_;rintro e w12 ⟨a3,rfl,hA,hQ,hF⟩;have hF23:RFr wr w12 C.rb:=(RFr.refl wr C.rb).drew.drew.trans hF;have hN:=HN.out.rfr HR.out hF23;obtain ⟨_,_,m3,mz0,hnb⟩:=hN.cells;have mz:=mz0 3;have NE:=lh hN.list.2.1;have hkl:kids.length=acc.length:=by
     have:=hN.tree;simp only [ATree.tree,Tree.mk.injEq,true_and] at this;rw [← this,Z26,Yv]
    have HKL:=lh (show kids.length≤250000 by have:=H8.out; have:=HGL.out; omega);have hkl2:=HKL.out;have N12:=lh hN;have A12:=lh hA;have Q12x:=lh hQ;have F12x:=lh (HFF.out.trans hF23);obtain ⟨i0,hi,hz0,hz1,hz2⟩:=info_parts Tryz.infoPtr;refine hK _ _ m3 ?_;clear hK K hA hQ hF hF23 hN mz0 n3 hkl z3 y1;refine Z5 (fun K hK=>?_);go_simp
    refine hK _ _ ((Z8 hnb).trans m3) ?_;clear hK K;refine Z5 (fun K hK=>?_);refine step_append_lies _ (by rfl) (.tmp 43) (.tmp 46) 36 (by rfl) B 22 i0 _ 1 8 Tryz.underlying36 hi hz0 hz1 hz2 rfl (by decide) v kids.length (kids.map ATree.ptr) (by rfl) (N12.out.at'.rowOf.alloc _) ⟨w12.heap.size,0,none⟩ 1 1 [a3.ptr] (by rfl) rfl (Yi (cs:=#[a3.ptr]) (t:=22) (fr:=(0,0)) (heap_alloc_new w12 _)) (by simp [ATree.ptr,Value.oneCell']) (by decide) (by unfold maxLen; omega) (by omega) (by simp; have:=F12x.out.size; have:=HBB.out; omega) (w12.heap.size + 1) (by simp) ?_
    intro gg cap w13 hown4 hgrow4 hat4 hlt4;have m4:w13.cell? ⟨nb,3,none⟩=some v:=(hgrow4.cell_far ⟨nb,3,none⟩ (by simp; omega) (fun e=>NE.out e.symm)).trans ((Z8 hnb).trans m3);have mz4:w13.frozen? ⟨nb,3,none⟩=false:=(hgrow4.frozen_far ⟨nb,3,none⟩ (by simp; omega) (fun e=>NE.out e.symm)).trans ((Z0m hnb).trans mz);refine hK _ _ m4 ?_;clear hK K;simp only [Act.put,zA,zB,zC]
    have hfin:=Got.pushT HR.out HBB.out N12.out (wA:=wr.drew.drew) (fun x hx=>(HN.out.new x hx).2) A12.out F12x.out ((Y8 _ _).alloc (Y5 _) _) hgrow4 hown4 (by rcases hat4 with h | h; (exact .inl h); (exact .inr (by omega))) hlt4;have FIN:=lh hfin;clear hgrow4 hown4 hat4 hlt4 hfin;refine Z6 ?_;have hinv:g≤G∧UInv w4 C B nb l σ' G g (w13.setCell ⟨nb,3,none⟩ (.slice (some ⟨gg,0,none⟩) (kids.length + 1) cap)):=
     ⟨by have := HGF.out; omega, acc ++ [x], kids ++ [a3], _, σ3, RE.out, FIN.out.1, Q12x.out.keep fun k hk => FIN.out.2.2 k (by have := HR.out; omega), FIN.out.2.1, by have := H8.out; simp; omega, fun y hy => by
      rcases List.mem_append.1 hy with hy | hy;·exact HX.out y hy
      ·simp only [List.mem_singleton] at hy; subst hy; exact XX.out⟩
    have HINV:=lh hinv;clear hinv;go_wp2;exact ⟨⟨g,HINV.out⟩,by rw [← HG.out]; exact Nat.lt_succ_of_le (Z3c HINV.out)⟩
end Go.Proofs.YtmeiggjboakmpaaGreatDoor
namespace Go.Proofs.YtmeiggjboakmpaaGreatDoor
open Go Go.RowKit Go.Maps
set_option maxRecDepth 100000
set_option maxHeartbeats 20000000
set_option linter.unusedVariables false
theorem Zhg (s:ByteArray):Z5j.atKey (.string s.data.toList) (.lit (.int .i64 0))=.lit (.int .i64 (Z33 s)):=by
 have hb:∀ a b:ByteArray,Z15 a b=decide (a=b):=fun a b=>rfl;by_cases h1:s=Z49;·subst h1; exact (Z6k (x:=(Z49,19)) (by simp [Z3i])).2
 by_cases h2:s=Z38;·subst h2; exact (Z6k (x:=(Z38,20)) (by simp [Z3i])).2
 by_cases h3:s=Z4s;·subst h3; exact (Z6k (x:=(Z4s,21)) (by simp [Z3i])).2
 by_cases h4:s=Z1q;·subst h4; exact (Z6k (x:=(Z1q,22)) (by simp [Z3i])).2
 have hk:Z33 s=0:=by simp [Z33,hb,h1,h2,h3,h4]
 rw [hk];refine atKey_of_not_has ?_ _;cases hh:Maps.has Z5j (.string s.data.toList) with
 | false=>rfl
 | true =>
   obtain ⟨x,hx,he⟩:=Zbb hh;have hs:s=x.1:=by
    simp only [Lit.string.injEq] at he;exact ByteArray.ext (Array.toList_inj.1 he)
   simp only [Z3i,List.mem_cons,List.not_mem_nil,or_false] at hx;rcases hx with rfl | rfl | rfl | rfl <;> simp_all
theorem Zjh (p:RR) (k m:Tree→RS→RR):Z0n (Z0n p k) m=Z0n p fun t σ=>Z0n (k t σ) m:=by cases p <;> rfl
theorem Zbt (s:ByteArray):Z33 s=0∨0 < Z33 s:=by
 unfold Z33;split;·exact .inr (by decide)
 ·split;·exact .inr (by decide)
  ·split;·exact .inr (by decide)
   ·split;·exact .inr (by decide)
    ·exact .inl rfl
theorem Zan {w W:World} {C:QC} {B:Nat} {σ':RS} {k n:Int} {tx:ByteArray} (hr:C.rb < B) (hB:B≤w.heap.size) (F:RFr w W C.rb) (Q:QS W C σ') :
 Z27 w C B (.mk k tx n []) σ' (.returned (.pointer (some ⟨W.heap.size,0,none⟩))) (W.alloc (.cells #[.int .i64 k,.string tx,.int .i64 n,.slice none 0 0] 38)).drew:=
 ⟨_,rfl,(Got.leaf hB F).rfr hr (RFr.refl _ _).drew,(Q.below ((Y8 _ _).alloc (Y5 _) _)).drew,(F.trans (RFr.below ((Y8 _ _).alloc (Y5 _) _))).drew⟩
theorem Zh0 {w W:World} {C:QC} {B:Nat} {σ':RS} {k n:Int} {tx:ByteArray} (hr:C.rb < B) (hB:B≤w.heap.size) (F:RFr w W C.rb) (Q:QS W C σ') :
 Z27 w C B (.mk k tx n []) σ' (.returned (.pointer (some ⟨W.heap.size,0,none⟩))) (W.alloc (.cells #[.int .i64 k,.string tx,.int .i64 n,.slice none 0 0] 38)):=
 ⟨_,rfl,Got.leaf hB F,Q.below ((Y8 _ _).alloc (Y5 _) _),F.trans (RFr.below ((Y8 _ _).alloc (Y5 _) _))⟩
theorem Zka (f:Nat) (hH:Z1s 38 qd .head f) (hV:∀ g,g < f→Z1s 41 qd .value g)
 (hF:∀ s,Z1s 37 (fArg 37 s) (.func 37 s) f):Z1s 113 qd .first (f + 1):=by
 intro w C B d σ t σ' hQ hr hB hd hp;rw [refF] at hp;have HR:=lh hr;have HB:=lh hB;have HD:=lh hd;have HH:=lh hH;have HV:=lh hV;have HF:=lh hF;obtain ⟨bx,hbx⟩:=zX w.heap.size
 obtain ⟨wb,hwb⟩:=zX ((w.alloc (.cells #[.pointer (some ⟨C.rb,0,none⟩)] 43)).alloc (.cells #[.int .i64 d] 3))
 have hbb:Below w.heap.size w wb:=by rw [hwb]; exact ((Y8 _ _).alloc (Y5 _) _).alloc (by simp) _
 have hzb:wb.heap.size=bx + 2:=by rw [hwb,hbx]; simp
 have q1:wb.cell? ⟨bx,0,none⟩=some (.pointer (some ⟨C.rb,0,none⟩)):=by
  rw [hwb,hbx];exact (Z8 (by simp)).trans (World.cell?_alloc_new w _ _ 0)
 have q2:wb.cell? ⟨bx + 1,0,none⟩=some (.int .i64 d):=by
  have e:bx + 1=(w.alloc (.cells #[.pointer (some ⟨C.rb,0,none⟩)] 43)).heap.size:=by rw [hbx]; simp
  rw [hwb,e];exact World.cell?_alloc_new _ _ _ 0
 have hne:bx≠C.rb:=by have:=hQ.rlt; omega
 have hne2:bx + 1≠C.rb:=by have:=hQ.rlt; omega
 have hQb:=hQ.below hbb;have HQB:=lh hQb;have FB:=lh (RFr.below (rb:=C.rb) hbb);have HO:=Z2f hQb;have hbx1:bx < wb.heap.size:=by omega
 have hbx2:bx + 1 < wb.heap.size:=by omega
 have HWB:=lh hwb;have HBX:=lh hbx;by_cases hf:σ.f.isNone=true;rotate_left
 ·have hf : σ.f.isNone = false := Bool.eq_false_iff.2 hf;rw [hf] at HO;rw [Y9 (by simp [hf])] at hp;obtain ⟨rfl, rfl⟩ : gT = t ∧ σ = σ' := by simpa using hp
  have HO:=lh HO;clear hQ hr hB hd hf hp hH hV hF hQb hbb hwb hbx hzb;unfold qd;go_enter Tryz.func113,Tryz.ntmps113
  go_wp2_with fail
  rw [← HWB.out,← HBX.out];refine HO.out.mono ?_;rintro e w1 ⟨rfl,rfl⟩;go_wp2;go_ret;exact Z27.bare HB.out FB.out HQB.out
 rw [hf] at HO;rw [Yb hf] at hp;have HO:=lh HO;obtain ⟨i,hi,hA⟩:=hQb;have hbTT:Below wb.heap.size wb (wb.alloc (.cells #[.int .i64 (hdT σ.ts).kind,.string (hdT σ.ts).text,.int .i64 (hdT σ.ts).n,.int .i64 (hdT σ.ts).at'] 48)):=(Y8 _ _).alloc (Y5 _) _;have hadv:(hdT σ.ts).kind≠6→QS ((wb.alloc (.cells #[.int .i64 (hdT σ.ts).kind,.string (hdT σ.ts).text,.int .i64 (hdT σ.ts).n,.int .i64 (hdT σ.ts).at'] 48)).setCell ⟨C.rb,1,none⟩ (.int .i64 ((i:Int) + 1))) C (advR σ):=fun hk=>by
  have h:=QS.adv (hA.below hbTT) (x:=(i:Int) + 1) (by rw [← hi]; exact hk) rfl;have e:(⟨C.L.drop i,σ.f⟩:RS)=σ:=by rw [← hi]
  rwa [e] at h
 have c0:=hA.c0;have c1:=hA.c1;have z1:=hA.fz 1;have t0:=hA.hd (j:=0) rfl;have t1:=hA.hd (j:=1) rfl;have t2:=hA.hd (j:=2) rfl;have t3:=hA.hd (j:=3) rfl;have hil:=hA.lt;have hle:=hA.le;have hmo:=hA.most;have hrl:=hA.rlt;have htb:C.tb < wb.heap.size:=Nat.lt_trans hA.ord hrl;have HSM:=lh (hA.sm _ (Yl hA.hdEq));have HA:=lh hA;have HI:=lh hi;rw [← hi] at t0 t1 t2 t3;obtain ⟨n,hn⟩:=zX C.L.length
 rw [← hn] at c0 hil hle;obtain ⟨⟨k,tx,tn,ta⟩,htok⟩:∃ t,t=hdT σ.ts:=⟨_,rfl⟩
 rw [← htok] at hp t0 t1 t2 t3 hadv;simp only at hp t0 t1 t2 t3 hadv;clear hbTT;rw [Nat.add_zero] at t0;have HT:=lh htok;have HP:=lh hp;generalize C.tb=tb at *;generalize C.off=off at *;generalize C.cap=cap at *;obtain ⟨WT,hWT⟩:=zX (wb.alloc (.cells #[.int .i64 k,.string tx,.int .i64 tn,.int .i64 ta] 48))
 have hbT:Below wb.heap.size wb WT:=by rw [hWT]; exact (Y8 _ _).alloc (Y5 _) _
 have HBT:=lh hbT;have e1:WT.cell? ⟨bx,0,none⟩=some (.pointer (some ⟨C.rb,0,none⟩)):=(Yj (hbT.block bx hbx1)).trans q1;have e2:WT.cell? ⟨bx + 1,0,none⟩=some (.int .i64 d):=(Yj (hbT.block _ hbx2)).trans q2;have e3:WT.cell? ⟨C.rb,1,none⟩=some (.int .i64 i):=(Yj (hbT.block _ hrl)).trans c1;have ez:WT.frozen? ⟨C.rb,1,none⟩=false:=(World.frozen?_of_block (hbT.block _ hrl)).trans z1;rw [← hWT] at hadv;have HADV:=lh hadv
 have FA:=lh (((FB.out.trans (RFr.below (rb:=C.rb) hbT))).set 1 (.int .i64 ((i:Int) + 1)));have HZT:=lh (show WT.heap.size=wb.heap.size + 1 by rw [hWT]; simp);have HWT:=lh hWT;have QT:=lh (HQB.out.below hbT);have FT:=lh (FB.out.trans (RFr.below (rb:=C.rb) hbT));have E1:=lh e1;have E2:=lh e2;have E3:=lh e3;have EZ:=lh ez;clear hQ hr hB hd hf hp hH hV hF hbb hwb hbx hi hA hn htok hbT z1 q2 e1 e2 e3 ez hWT hadv hzb;by_cases k1:k=1
 ·have hE := HP.out;rw [Yb k1] at hE;subst k1;obtain ⟨rfl, rfl⟩ : Tree.mk 23 tx 0 [] = t ∧ advR σ = σ' := by simpa using hE
  clear hE;unfold qd;go_enter Tryz.func113,Tryz.ntmps113
  go_wp2_with fail
  rw [← HWB.out,← HBX.out];refine HO.out.mono ?_;rintro e w1 ⟨rfl,rfl⟩;go_wp2_with fail
  refine Zf [0,2,4,6,8,10,12,14,16,18,21] [11] (fun W=>W.cell? ⟨bx,0,none⟩=some (.pointer (some ⟨C.rb,0,none⟩))∧W.cell? ⟨C.rb,0,none⟩=some (.slice (some ⟨tb,off,none⟩) n cap)∧W.cell? ⟨C.rb,1,none⟩=some (.int .i64 i)∧W.cell? ⟨tb,off + i * 4,none⟩=some (.int .i64 1)∧W.cell? ⟨tb,off + i * 4 + 1,none⟩=some (.string tx)∧W.cell? ⟨tb,off + i * 4 + 2,none⟩=some (.int .i64 tn)∧W.cell? ⟨tb,off + i * 4 + 3,none⟩=some (.int .i64 ta)) ⟨q1,c0,c1,t0,t1,t2,t3⟩ fun _=>?_
  simp only [Zh,pD,zD,zE,zF,zG,zH,zI,zJ,zK]
  iterate 10
   first | refine Za _ ?_ | refine Zb ?_
   simp only [Act.put,zA,zB,zC]
  refine Z5 (fun K hK=>?_);go_simp
  refine hK _ _ ⟨(Z8 hbx1).trans q1,(Z8 hrl).trans c0,(Z8 hrl).trans c1,(Z8 htb).trans t0,(Z8 htb).trans t1,(Z8 htb).trans t2,(Z8 htb).trans t3⟩ ?_;clear hK K;refine Z6 ?_;have e1:=E1.out;have e2:=E2.out;have e3:=E3.out;have ez:=EZ.out;rw [HWT.out] at e1 e2 e3 ez;clear c0 c1 t0 t1 t2 t3 q1 htb;go_wp2;go_ret;have h:=Zan (k:=23) (n:=0) (tx:=tx) HR.out HB.out FA.out (HADV.out (by decide));rw [Yn,HZT.out,HWT.out,World.setCell_alloc_past _ _ _ _ hrl] at h;exact h
 have K1:=lh k1;have n1:(k == 1)=false:=by simpa using k1
 clear k1;by_cases k3:k=3
 ·have hE := HP.out;rw [Y9 K1.out, Yb k3] at hE;subst k3;obtain ⟨rfl, rfl⟩ : Tree.mk 17 ByteArray.empty tn [] = t ∧ advR σ = σ' := by simpa using hE
  clear hE n1;unfold qd;go_enter Tryz.func113,Tryz.ntmps113
  go_wp2_with fail
  rw [← HWB.out,← HBX.out];refine HO.out.mono ?_;rintro e w1 ⟨rfl,rfl⟩;go_wp2_with fail
  refine Zf [0,2,4,6,8,10,12,14,16,18,21] [11] (fun W=>W.cell? ⟨bx,0,none⟩=some (.pointer (some ⟨C.rb,0,none⟩))∧W.cell? ⟨C.rb,0,none⟩=some (.slice (some ⟨tb,off,none⟩) n cap)∧W.cell? ⟨C.rb,1,none⟩=some (.int .i64 i)∧W.cell? ⟨tb,off + i * 4,none⟩=some (.int .i64 3)∧W.cell? ⟨tb,off + i * 4 + 1,none⟩=some (.string tx)∧W.cell? ⟨tb,off + i * 4 + 2,none⟩=some (.int .i64 tn)∧W.cell? ⟨tb,off + i * 4 + 3,none⟩=some (.int .i64 ta)) ⟨q1,c0,c1,t0,t1,t2,t3⟩ fun _=>?_
  simp only [Zh,pD,zD,zE,zF,zG,zH,zI,zJ,zK]
  iterate 10
   first | refine Za _ ?_ | refine Zb ?_
   simp only [Act.put,zA,zB,zC]
  refine Z5 (fun K hK=>?_);go_simp
  refine hK _ _ ⟨(Z8 hbx1).trans q1,(Z8 hrl).trans c0,(Z8 hrl).trans c1,(Z8 htb).trans t0,(Z8 htb).trans t1,(Z8 htb).trans t2,(Z8 htb).trans t3⟩ ?_;clear hK K;refine Z6 ?_;have e1:=E1.out;have e2:=E2.out;have e3:=E3.out;have ez:=EZ.out;rw [HWT.out] at e1 e2 e3 ez;clear c0 c1 t0 t1 t2 t3 q1 htb;go_wp2;go_ret;have h:=Zan (k:=17) (n:=tn) (tx:=⟨#[]⟩) HR.out HB.out FA.out (HADV.out (by decide));rw [Yn,HZT.out,HWT.out,World.setCell_alloc_past _ _ _ _ hrl] at h;exact h
 have K3:=lh k3;have n3:(k == 3)=false:=by simpa using k3
 clear k3;by_cases k4:k=4
 ·have hE := HP.out;rw [Y9 K1.out, Y9 K3.out, Yb k4] at hE;subst k4;obtain ⟨rfl, rfl⟩ : Tree.mk 18 tx 0 [] = t ∧ advR σ = σ' := by simpa using hE
  clear hE n1 n3;unfold qd;go_enter Tryz.func113,Tryz.ntmps113
  go_wp2_with fail
  rw [← HWB.out,← HBX.out];refine HO.out.mono ?_;rintro e w1 ⟨rfl,rfl⟩;go_wp2_with fail
  refine Zf [0,2,4,6,8,10,12,14,16,18,21] [11] (fun W=>W.cell? ⟨bx,0,none⟩=some (.pointer (some ⟨C.rb,0,none⟩))∧W.cell? ⟨C.rb,0,none⟩=some (.slice (some ⟨tb,off,none⟩) n cap)∧W.cell? ⟨C.rb,1,none⟩=some (.int .i64 i)∧W.cell? ⟨tb,off + i * 4,none⟩=some (.int .i64 4)∧W.cell? ⟨tb,off + i * 4 + 1,none⟩=some (.string tx)∧W.cell? ⟨tb,off + i * 4 + 2,none⟩=some (.int .i64 tn)∧W.cell? ⟨tb,off + i * 4 + 3,none⟩=some (.int .i64 ta)) ⟨q1,c0,c1,t0,t1,t2,t3⟩ fun _=>?_
  simp only [Zh,pD,zD,zE,zF,zG,zH,zI,zJ,zK]
  iterate 10
   first | refine Za _ ?_ | refine Zb ?_
   simp only [Act.put,zA,zB,zC]
  refine Z5 (fun K hK=>?_);go_simp
  refine hK _ _ ⟨(Z8 hbx1).trans q1,(Z8 hrl).trans c0,(Z8 hrl).trans c1,(Z8 htb).trans t0,(Z8 htb).trans t1,(Z8 htb).trans t2,(Z8 htb).trans t3⟩ ?_;clear hK K;refine Z6 ?_;have e1:=E1.out;have e2:=E2.out;have e3:=E3.out;have ez:=EZ.out;rw [HWT.out] at e1 e2 e3 ez;clear c0 c1 t0 t1 t2 t3 q1 htb;go_wp2;go_ret;have h:=Zan (k:=18) (n:=0) (tx:=tx) HR.out HB.out FA.out (HADV.out (by decide));rw [Yn,HZT.out,HWT.out,World.setCell_alloc_past _ _ _ _ hrl] at h;exact h
 have K4:=lh k4;have n4:(k == 4)=false:=by simpa using k4
 clear k4;have hE:=HP.out;rw [Y9 K1.out,Y9 K3.out,Y9 K4.out] at hE;have HE:=lh hE;clear hE;unfold qd;go_enter Tryz.func113,Tryz.ntmps113
 go_wp2_with fail
 rw [← HWB.out,← HBX.out];refine HO.out.mono ?_;rintro e w1 ⟨rfl,rfl⟩;go_wp2_with fail
 refine Zf [0,2,4,6,8,10,12,14,16,18,21] [11] (fun W=>W.cell? ⟨bx,0,none⟩=some (.pointer (some ⟨C.rb,0,none⟩))∧W.cell? ⟨C.rb,0,none⟩=some (.slice (some ⟨tb,off,none⟩) n cap)∧W.cell? ⟨C.rb,1,none⟩=some (.int .i64 i)∧W.cell? ⟨tb,off + i * 4,none⟩=some (.int .i64 k)∧W.cell? ⟨tb,off + i * 4 + 1,none⟩=some (.string tx)∧W.cell? ⟨tb,off + i * 4 + 2,none⟩=some (.int .i64 tn)∧W.cell? ⟨tb,off + i * 4 + 3,none⟩=some (.int .i64 ta)) ⟨q1,c0,c1,t0,t1,t2,t3⟩ fun _=>?_
 simp only [Zh,pD,zD,zE,zF,zG,zH,zI,zJ,zK]
 iterate 10
  first | refine Za _ ?_ | refine Zb ?_
  simp only [Act.put,zA,zB,zC]
 refine Z5 (fun K hK=>?_);go_simp
 refine hK _ _ ⟨(Z8 hbx1).trans q1,(Z8 hrl).trans c0,(Z8 hrl).trans c1,(Z8 htb).trans t0,(Z8 htb).trans t1,(Z8 htb).trans t2,(Z8 htb).trans t3⟩ ?_;clear hK K;refine Z6 ?_;have e1:=E1.out;have e2:=E2.out;have e3:=E3.out;have ez:=EZ.out;rw [HWT.out] at e1 e2 e3 ez;clear c0 c1 t0 t1 t2 t3 q1 htb;go_wp2_with fail
 rw [← HWT.out];have HN:=Zk QT.out.drew Z0u;have hE:=HE.out;by_cases hn:Zl Z0u σ=true
 ·rw [hn] at HN;rw [Yb hn] at hE;have HE2 := lh hE;clear hE hn;refine HN.mono ?_;rintro e w6 ⟨rfl, hb6⟩;have g1 : w6.cell? ⟨bx, 0, none⟩ = some (.pointer (some ⟨C.rb, 0, none⟩)) := (Yj (hb6.block bx (by have := HZT.out; simp; omega))).trans E1.out;have g2 : w6.cell? ⟨bx + 1, 0, none⟩ = some (.int .i64 d) := (Yj (hb6.block (bx + 1) (by have := HZT.out; simp; omega))).trans E2.out;have Q6 := lh (QT.out.drew.below hb6);have F6 := lh (FT.out.drew.trans (RFr.below (rb := C.rb) hb6));clear hb6 HN e1 e2 e3 ez;go_wp2_with fail
  refine (HH.out w6 C B d _ _ _ Q6.out HR.out (Ya HB.out F6.out.size) (by have:=HD.out; omega) HE2.out).mono ?_;rintro e w7 ⟨a,rfl,h7⟩;have H7:=lh h7;clear h7;go_wp2;go_ret;exact Z27.pre F6.out ⟨a,rfl,H7.out⟩
 have hn:Zl Z0u σ=false:=by simpa using hn
 rw [hn] at HN;rw [Y9 (by simp [hn])] at hE;replace HE:=lh hE
 clear hE hn;refine HN.mono ?_;rintro e w6 ⟨rfl,hb6⟩;have g1:w6.cell? ⟨bx,0,none⟩=some (.pointer (some ⟨C.rb,0,none⟩)):=(Yj (hb6.block bx (by have:=HZT.out; simp; omega))).trans E1.out;have g2:w6.cell? ⟨bx + 1,0,none⟩=some (.int .i64 d):=(Yj (hb6.block (bx + 1) (by have:=HZT.out; simp; omega))).trans E2.out;have hbk:WT.heap[wb.heap.size]?=some (.cells #[.int .i64 k,.string tx,.int .i64 tn,.int .i64 ta] 48 (0,0)):=by rw [HWT.out]; exact heap_alloc_new wb _
 have hbk6:w6.heap[wb.heap.size]?=some (.cells #[.int .i64 k,.string tx,.int .i64 tn,.int .i64 ta] 48 (0,0)):=(hb6.block _ (by have:=HZT.out; simp; omega)).trans hbk;have Q6:=lh (QT.out.drew.below hb6);have F6:=lh (FT.out.drew.trans (RFr.below (rb:=C.rb) hb6));have hs6:wb.heap.size < w6.heap.size:=(Y6.1 hbk6).1;have HBK6:=lh hbk6;clear hb6 HN e1 e2 e3 ez hbk hbk6;obtain ⟨tk,htk⟩:=zX wb.heap.size
 have HTKN:=lh (show tk≠C.rb by omega);rw [← htk] at HBK6 hs6 hbx1 hbx2 ⊢;clear hrl htk;go_wp2_with fail
 have HS:=Z1i Q6.out Ze;have hE:=HE.out;by_cases hn:Zl Ze σ=true
 ·rw [hn] at HS;rw [Yb rfl] at HS;rw [Yb hn] at hE;replace HE := lh hE
  clear hE hn;refine HS.mono ?_;rintro e w7 ⟨rfl,h7,f7⟩;have i1:w7.cell? ⟨bx,0,none⟩=some (.pointer (some ⟨C.rb,0,none⟩)):=(f7.cell (Nat.lt_trans hbx1 hs6) hne).trans g1;have i2:w7.cell? ⟨bx + 1,0,none⟩=some (.int .i64 d):=(f7.cell (Nat.lt_trans hbx2 hs6) hne2).trans g2;have Q7:=lh h7;have F7:=lh (F6.out.trans f7);have hs7:tk < w7.heap.size:=Ye hs6 f7.size;clear f7 g1 g2 HS;obtain ⟨i7,hi7,hA7⟩:=h7;have c0:=hA7.c0;have c1:=hA7.c1;have t0:=hA7.hd (j:=0) (x:=.int .i64 (hdT (advR σ).ts).kind) (by rw [hi7]; rfl);rw [Nat.add_zero] at t0
  have hil7:=hA7.lt;have hle7:=hA7.le;have hmo7:=hA7.most;obtain ⟨n7,hn7⟩:=zX C.L.length
  rw [← hn7] at c0 hil7 hle7;obtain ⟨k7,hk7⟩:=zX ((hdT (advR σ).ts).kind)
  have hE:=HE.out;rw [← hk7] at t0 hE;generalize C.tb=tb' at *;generalize C.off=off' at *;generalize C.cap=cap' at *;clear hn7 hA7 hi7 hk7;by_cases k71:k7=1
  ·subst k71;rw [Yb rfl] at hE;replace HE := lh hE
   clear hE;go_wp2_with fail
   refine Zf [0,2,4,6,8,10,12,14] [8,9,10,11] (fun W=>W.cell? ⟨bx,0,none⟩=some (.pointer (some ⟨C.rb,0,none⟩))∧W.cell? ⟨C.rb,0,none⟩=some (.slice (some ⟨tb',off',none⟩) n7 cap')∧W.cell? ⟨C.rb,1,none⟩=some (.int .i64 i7)∧W.cell? ⟨tb',off' + i7 * 4,none⟩=some (.int .i64 1)) ⟨i1,c0,c1,t0⟩ fun _=>?_;simp only [Zh,pD,zD,zE,zF,zG,zH,zI,zJ,zK]
   iterate 8
    first | refine Za _ ?_ | refine Zb ?_
    simp only [Act.put,zA,zB,zC]
   refine Z6 ?_;go_wp2_with fail
   refine (Z34 Q7.out.drew B HR.out (Ya HB.out F7.out.size)).mono ?_;rintro e w8 ⟨rfl,h8,f8⟩;have j1:w8.cell? ⟨bx,0,none⟩=some (.pointer (some ⟨C.rb,0,none⟩)):=(f8.cell (Nat.lt_trans hbx1 hs7) hne).trans i1;have j2:w8.cell? ⟨bx + 1,0,none⟩=some (.int .i64 d):=(f8.cell (Nat.lt_trans hbx2 hs7) hne2).trans i2;have Q8:=lh h8;have F8:=lh (F7.out.drew.trans f8);clear h8 f8 i1 i2 c0 c1 t0;go_wp2_with fail
   refine (HF.out (Zw (advR σ)).1 w8 C B d _ _ _ Q8.out HR.out (Ya HB.out F8.out.size) (by have:=HD.out; omega) HE.out).mono ?_;rintro e w9 ⟨a,rfl,h9⟩;have H9:=lh h9;clear h9;go_wp2;go_ret;exact Z27.pre F8.out ⟨a,rfl,H9.out⟩
  ·have n71 : (k7 == 1) = false := by simpa using k71
   rw [Y9 k71] at hE;replace HE:=lh hE
   clear hE k71;go_wp2_with fail
   refine Zf [0,2,4,6,8,10,12,14] [8,9,10,11] (fun W=>W.cell? ⟨bx,0,none⟩=some (.pointer (some ⟨C.rb,0,none⟩))∧W.cell? ⟨C.rb,0,none⟩=some (.slice (some ⟨tb',off',none⟩) n7 cap')∧W.cell? ⟨C.rb,1,none⟩=some (.int .i64 i7)∧W.cell? ⟨tb',off' + i7 * 4,none⟩=some (.int .i64 k7)) ⟨i1,c0,c1,t0⟩ fun _=>?_;simp only [Zh,pD,zD,zE,zF,zG,zH,zI,zJ,zK]
   iterate 8
    first | refine Za _ ?_ | refine Zb ?_
    simp only [Act.put,zA,zB,zC]
   refine Z6 ?_;go_wp2_with fail
   refine (HF.out ⟨#[]⟩ w7.drew C B d _ _ _ Q7.out.drew HR.out (Ya HB.out F7.out.size) (by have:=HD.out; omega) HE.out).mono ?_;rintro e w9 ⟨a,rfl,h9⟩;have H9:=lh h9;clear h9;go_wp2;go_ret;exact Z27.pre F7.out.drew ⟨a,rfl,H9.out⟩
 have hn:Zl Ze σ=false:=by simpa using hn
 rw [hn] at HS;simp only [Bool.false_eq_true,if_false] at HS;rw [Y9 (by simp [hn])] at hE;replace HE:=lh hE
 clear hE hn;refine HS.mono ?_;rintro e w7 ⟨rfl,h7,f7⟩;have i1:w7.cell? ⟨bx,0,none⟩=some (.pointer (some ⟨C.rb,0,none⟩)):=(f7.cell (Nat.lt_trans hbx1 hs6) hne).trans g1;have i2:w7.cell? ⟨bx + 1,0,none⟩=some (.int .i64 d):=(f7.cell (Nat.lt_trans hbx2 hs6) hne2).trans g2;have Q7:=lh h7;have F7:=lh (F6.out.trans f7);have hs7:tk < w7.heap.size:=Ye hs6 f7.size;have HBK7:=lh ((f7.block tk hs6 HTKN.out).trans HBK6.out);clear f7 g1 g2 HS h7 HBK6 hs6;go_wp2_with fail
 have HS:=Z1i Q7.out Zi;have hE:=HE.out;by_cases hn:Zl Zi σ=true
 ·rw [hn] at HS;rw [Yb rfl] at HS;rw [Yb hn] at hE;obtain ⟨l, σ1, hl, hE⟩ := Zn hE;obtain ⟨rfl, rfl⟩ : Tree.mk 38 ByteArray.empty 0 l.kids = t ∧ σ1 = σ' := by simpa using hE
  have HL:=lh hl;clear hE hn hl;refine HS.mono ?_;rintro e w8 ⟨rfl,h8,f8⟩;have j1:w8.cell? ⟨bx,0,none⟩=some (.pointer (some ⟨C.rb,0,none⟩)):=(f8.cell (Nat.lt_trans hbx1 hs7) hne).trans i1;have j2:w8.cell? ⟨bx + 1,0,none⟩=some (.int .i64 d):=(f8.cell (Nat.lt_trans hbx2 hs7) hne2).trans i2;have Q8:=lh h8;have F8:=lh (F7.out.trans f8);have hs8:tk < w8.heap.size:=Ye hs7 f8.size;clear f8 i1 i2 HS h8;go_wp2_with fail
  refine (Zhh f d 125 #[.pointer (some ⟨bx,0,none⟩),.pointer (some ⟨bx + 1,0,none⟩)] Z01 .props (fun g σ=>Z0n (refF g .value (d + 1) (Z0y Z2s (Zw σ).2)) fun v σ'=>some (.mk 39 (Zw σ).1 0 [v],σ')) Zm9 (fun g acc σ=>by rw [refF]; simp only [Zjh]; rfl) w8 C B HR.out (Ya HB.out F8.out.size) (fun g hg w2 σ x σ' hF hQ hi=>?_) _ Q8.out l σ1 HL.out).mono ?_
  ·obtain ⟨v, σ2, hv, hi⟩ := Zn hi;obtain ⟨rfl, rfl⟩ : Tree.mk 39 (Zw σ).1 0 [v] = x ∧ σ2 = σ' := by simpa using hi
   exact Zma g (HV.out g hg) w2 C B bx (bx + 1) d σ _ v (by have:=HD.out; omega) hv hQ HR.out (Ya HB.out (F8.out.trans hF).size) ((hF.cell (Nat.lt_trans hbx1 hs8) hne).trans j1) ((hF.cell (Nat.lt_trans hbx2 hs8) hne2).trans j2) (by have:=hF.size; omega) (by have:=hF.size; omega) hne hne2
  rintro e w9 ⟨v,kids,rfl,h1,h2,h3,_⟩;obtain ⟨p,cp,rfl⟩:=h1.slice;have N9:=lh ((h1.pre (w0:=w) F8.out.size).node (k:=38) (tx:=⟨#[]⟩) (n:=0) (Ya HB.out (F8.out.trans h3).size) (F8.out.trans h3).size);have hal:Below w9.heap.size w9 (w9.alloc (.cells #[.int .i64 38,.string ⟨#[]⟩,.int .i64 0,.slice p l.kids.length cp] 38)):=(Y8 _ _).alloc (Y5 _) _;have Q9:=lh (h2.below hal);have F9:=lh ((F8.out.trans h3).trans (RFr.below hal));clear h1 h2 h3 hal j1 j2;go_wp2;go_ret;exact ⟨_,rfl,N9.out,Q9.out,F9.out⟩
 have hn:Zl Zi σ=false:=by simpa using hn
 rw [hn] at HS;simp only [Bool.false_eq_true,if_false] at HS;rw [Y9 (by simp [hn])] at hE;replace HE:=lh hE
 clear hE hn;refine HS.mono ?_;rintro e w8 ⟨rfl,h8,f8⟩;have j1:w8.cell? ⟨bx,0,none⟩=some (.pointer (some ⟨C.rb,0,none⟩)):=(f8.cell (Nat.lt_trans hbx1 hs7) hne).trans i1;have Q8:=lh h8;have F8:=lh (F7.out.trans f8);have hs8:tk < w8.heap.size:=Ye hs7 f8.size;have hbk8:w8.heap[tk]?=some (.cells #[.int .i64 k,.string tx,.int .i64 tn,.int .i64 ta] 48 (0,0)):=(f8.block tk hs7 HTKN.out).trans HBK7.out;obtain ⟨i8,hi8,hA8⟩:=h8;have HA8:=lh hA8;have HI8:=lh hi8;have hlt8:=lh hA8.lt;have hfew8:=lh hA8.few
 have hHLEN:tx.size≤maxLen:=by have h:=HSM.out; rw [← HI.out,← HT.out] at h; exact h
 have HLEN:=lh hHLEN;have hrb8:=hA8.rlt;clear f8 i1 i2 HS hA8 hi8 hHLEN HBK7 hs7;have hmm:=@run_makeMap Tryz.prog;have h0:=World.ownsMap_made (H:=Unit) w8 Tryz.prog 9 (plainElem Tryz.prog 3);have hB0:Below w8.heap.size w8 (w8.alloc (.map #[] 0)):=(Y8 _ _).alloc (Y5 _) _;have HB4:=lh (show ∀ v1 v2 v3 v4:World,(w8.alloc (.map #[] 0)).grownBy v1 (some w8.heap.size)→v1.grownBy v2 (some w8.heap.size)→v2.grownBy v3 (some w8.heap.size)→v3.grownBy v4 (some w8.heap.size)→Below w8.heap.size w8 v4 from fun v1 v2 v3 v4 g1 g2 g3 g4=>by
  have B1:=Z00 hB0 g1 (Y5 _) hB0.size;have B2:=Z00 B1 g2 (Y5 _) B1.size;have B3:=Z00 B2 g3 (Y5 _) B2.size;exact Z00 B3 g4 (Y5 _) B3.size)
 have HY4:=lh (show ∀ v1 v2 v3 v4:World,(w8.alloc (.map #[] 0)).grownBy v1 (some w8.heap.size)→v1.grownBy v2 (some w8.heap.size)→v2.grownBy v3 (some w8.heap.size)→v3.grownBy v4 (some w8.heap.size)→v4.cell? ⟨tk,0,none⟩=some (.int .i64 k)∧v4.cell? ⟨tk,1,none⟩=some (.string tx)∧v4.cell? ⟨bx,0,none⟩=some (.pointer (some ⟨C.rb,0,none⟩))∧v4.cell? ⟨C.rb,1,none⟩=some (.int .i64 i8)∧v4.frozen? ⟨C.rb,1,none⟩=false from fun v1 v2 v3 v4 g1 g2 g3 g4=>by
  have hb:=HB4.out v1 v2 v3 v4 g1 g2 g3 g4;have hk:=(hb.block tk hs8).trans hbk8;exact ⟨by simp [World.cell?,hk],by simp [World.cell?,hk],(Yj (hb.block bx (Nat.lt_trans hbx1 hs8))).trans j1,(Yj (hb.block C.rb hrb8)).trans HA8.out.c1,(World.frozen?_of_block (hb.block C.rb hrb8)).trans (HA8.out.fz 1)⟩)
 have CKEY:=lh (show ∀ c:Int,Z5j.atKey (.string tx.data.toList) (.lit (.int .i64 0))=.lit (.int .i64 c)→Z33 tx=c from fun c h=>by
  have e:=(Zhg tx).symm.trans h;simpa using e)
 clear hB0 hbk8 j1;have hE:=HE.out;by_cases hk2:k=2
 ·subst hk2;rcases Zbt tx with hc0 | hc0
  ·rw [Y9 (by simp [hc0])] at hE;obtain ⟨rfl, rfl⟩ : gT = t ∧ Z39 3 σ = σ' := by simpa using hE
   clear hE
   go_wp2_with (first | ((try rw [hdr]); refine Z9 _ rfl _ _ _ 82 rfl 9 3 Tryz.keyedS Tryz.underlying82 _ _ 0 _ rfl h0 (by unfold maxLen; omega) _ _ _ rfl rfl (Yw Yr (by decide)) _ [] (plainElem_int Ys (by decide)) ?_; intro v1 h1 g1) | (refine Z9 _ rfl _ _ _ 82 rfl 9 3 Tryz.keyedS Tryz.underlying82 _ _ 1 _ rfl h1 (by unfold maxLen; omega) _ _ _ rfl rfl (Yw Yr (by decide)) _ [] (plainElem_int Ys (by decide)) ?_; intro v2 h2 g2) | (refine Z9 _ rfl _ _ _ 82 rfl 9 3 Tryz.keyedS Tryz.underlying82 _ _ 2 _ rfl h2 (by unfold maxLen; omega) _ _ _ rfl rfl (Yw Yr (by decide)) _ [] (plainElem_int Ys (by decide)) ?_; intro v3 h3 g3) | (refine Z9 _ rfl _ _ _ 82 rfl 9 3 Tryz.keyedS Tryz.underlying82 _ _ 3 _ rfl h3 (by unfold maxLen; omega) _ _ _ rfl rfl (Yw Yr (by decide)) _ [] (plainElem_int Ys (by decide)) ?_; intro v4 h4 g4; obtain ⟨Y0,Y1,Y2,Y3,Y4⟩:=HY4.out v1 v2 v3 v4 g1 g2 g3 g4) | (at_lookup; refine wpList_lookup_own_int _ rfl _ _ 82 rfl 9 3 .i64 Tryz.keyedS Tryz.underlying82 Ys (Tryz.zeroI _) _ 4 _ rfl h4 _ _ rfl (Yw Yr HLEN.out) ?_; intro c hat hwc; obtain rfl:Z33 tx=c:=CKEY.out c hat))
   have hb4:=HB4.out v1 v2 v3 v4 g1 g2 g3 g4;have Q9:=lh (Q8.out.below hb4);have F9:=lh (F8.out.trans (RFr.below (rb:=C.rb) hb4));clear hb4 hat hwc h0 h1 h2 h3 h4 g1 g2 g3 g4 hmm;refine (Z2t Q9.out 3 (by decide) B HR.out (Ya HB.out F9.out.size)).mono ?_;rintro e w9 ⟨a,rfl,h9⟩;have H9:=lh h9;clear h9;go_wp2;go_ret;exact Z27.pre F9.out ⟨a,rfl,H9.out⟩
  ·rw [Yb ⟨rfl, by omega⟩] at hE;obtain ⟨rfl, rfl⟩ : Tree.mk (Z33 tx) ByteArray.empty 0 [] = t ∧ advR σ = σ' := by simpa using hE
   clear hE;have hl8:i8≤4000:=by have:=hlt8.out; have:=hfew8.out; omega
   go_wp2_with (first | ((try rw [hdr]); refine Z9 _ rfl _ _ _ 82 rfl 9 3 Tryz.keyedS Tryz.underlying82 _ _ 0 _ rfl h0 (by unfold maxLen; omega) _ _ _ rfl rfl (Yw Yr (by decide)) _ [] (plainElem_int Ys (by decide)) ?_; intro v1 h1 g1) | (refine Z9 _ rfl _ _ _ 82 rfl 9 3 Tryz.keyedS Tryz.underlying82 _ _ 1 _ rfl h1 (by unfold maxLen; omega) _ _ _ rfl rfl (Yw Yr (by decide)) _ [] (plainElem_int Ys (by decide)) ?_; intro v2 h2 g2) | (refine Z9 _ rfl _ _ _ 82 rfl 9 3 Tryz.keyedS Tryz.underlying82 _ _ 2 _ rfl h2 (by unfold maxLen; omega) _ _ _ rfl rfl (Yw Yr (by decide)) _ [] (plainElem_int Ys (by decide)) ?_; intro v3 h3 g3) | (refine Z9 _ rfl _ _ _ 82 rfl 9 3 Tryz.keyedS Tryz.underlying82 _ _ 3 _ rfl h3 (by unfold maxLen; omega) _ _ _ rfl rfl (Yw Yr (by decide)) _ [] (plainElem_int Ys (by decide)) ?_; intro v4 h4 g4; obtain ⟨Y0,Y1,Y2,Y3,Y4⟩:=HY4.out v1 v2 v3 v4 g1 g2 g3 g4) | (at_lookup; refine wpList_lookup_own_int _ rfl _ _ 82 rfl 9 3 .i64 Tryz.keyedS Tryz.underlying82 Ys (Tryz.zeroI _) _ 4 _ rfl h4 _ _ rfl (Yw Yr HLEN.out) ?_; intro c hat hwc; obtain rfl:Z33 tx=c:=CKEY.out c hat))
   have hb4:=HB4.out v1 v2 v3 v4 g1 g2 g3 g4;have F9:=(F8.out.trans (RFr.below (rb:=C.rb) hb4)).set 1 (.int .i64 ((i8:Int) + 1));have Q9:QS (v4.setCell ⟨C.rb,1,none⟩ (.int .i64 ((i8:Int) + 1))) C (advR σ):=by
    have h:=QS.adv (HA8.out.below hb4) (x:=(i8:Int) + 1) (by rw [← HI8.out,← HT.out]; simp) rfl;have e:(⟨C.L.drop i8,σ.f⟩:RS)=σ:=by rw [← HI8.out]
    rwa [e] at h
   go_ret;have h:=Zh0 (k:=Z33 tx) (n:=0) (tx:=⟨#[]⟩) HR.out HB.out F9 Q9;rw [Yn] at h;exact h
 ·have n2 : (k == 2) = false := by simpa using hk2
  rw [Y9 (fun h=>hk2 h.1)] at hE;obtain ⟨rfl,rfl⟩:gT=t∧Z39 3 σ=σ':=by simpa using hE
  clear hE hk2
  go_wp2_with (first | ((try rw [hdr]); refine Z9 _ rfl _ _ _ 82 rfl 9 3 Tryz.keyedS Tryz.underlying82 _ _ 0 _ rfl h0 (by unfold maxLen; omega) _ _ _ rfl rfl (Yw Yr (by decide)) _ [] (plainElem_int Ys (by decide)) ?_; intro v1 h1 g1) | (refine Z9 _ rfl _ _ _ 82 rfl 9 3 Tryz.keyedS Tryz.underlying82 _ _ 1 _ rfl h1 (by unfold maxLen; omega) _ _ _ rfl rfl (Yw Yr (by decide)) _ [] (plainElem_int Ys (by decide)) ?_; intro v2 h2 g2) | (refine Z9 _ rfl _ _ _ 82 rfl 9 3 Tryz.keyedS Tryz.underlying82 _ _ 2 _ rfl h2 (by unfold maxLen; omega) _ _ _ rfl rfl (Yw Yr (by decide)) _ [] (plainElem_int Ys (by decide)) ?_; intro v3 h3 g3) | (refine Z9 _ rfl _ _ _ 82 rfl 9 3 Tryz.keyedS Tryz.underlying82 _ _ 3 _ rfl h3 (by unfold maxLen; omega) _ _ _ rfl rfl (Yw Yr (by decide)) _ [] (plainElem_int Ys (by decide)) ?_; intro v4 h4 g4; obtain ⟨Y0,Y1,Y2,Y3,Y4⟩:=HY4.out v1 v2 v3 v4 g1 g2 g3 g4) | (at_lookup; refine wpList_lookup_own_int _ rfl _ _ 82 rfl 9 3 .i64 Tryz.keyedS Tryz.underlying82 Ys (Tryz.zeroI _) _ 4 _ rfl h4 _ _ rfl (Yw Yr HLEN.out) ?_; intro c hat hwc; obtain rfl:Z33 tx=c:=CKEY.out c hat))
  have hb4:=HB4.out v1 v2 v3 v4 g1 g2 g3 g4;have Q9:=lh (Q8.out.below hb4);have F9:=lh (F8.out.trans (RFr.below (rb:=C.rb) hb4));clear hb4 hat hwc h0 h1 h2 h3 h4 g1 g2 g3 g4 hmm;refine (Z2t Q9.out 3 (by decide) B HR.out (Ya HB.out F9.out.size)).mono ?_;rintro e w9 ⟨a,rfl,h9⟩;have H9:=lh h9;clear h9;go_wp2;go_ret;exact Z27.pre F9.out ⟨a,rfl,H9.out⟩
def unS:List (ByteArray×Int):=[(Z5g,32),(Z1l,33),(Z1t,34)]
def unE:DataW Unit:=litD unS
theorem Zlv:unE=.map [(.string Z5g.data.toList,.lit (.int .i64 32)),(.string Z1t.data.toList,.lit (.int .i64 34)),(.string Z1l.data.toList,.lit (.int .i64 33))]:=by kernel_rfl
theorem Zmf {kl:Lit} (h:Maps.has unE kl=true):∃ x∈unS,kl=.string x.1.data.toList:=by
 rw [Zlv] at h;obtain ⟨p,hp,hk⟩:=List.any_eq_true.1 h;have e:=WideAt.sameKey_eq hk;simp only [List.mem_cons,List.not_mem_nil,or_false] at hp;rcases hp with rfl | rfl | rfl;·exact ⟨(Z5g,32),by simp [unS],e.symm⟩
 ·exact ⟨(Z1t,34),by simp [unS],e.symm⟩
 ·exact ⟨(Z1l,33),by simp [unS],e.symm⟩
theorem Zmm {x:ByteArray×Int} (h:x∈unS):Maps.has unE (.string x.1.data.toList)=true∧unE.atKey (.string x.1.data.toList) (.lit (.int .i64 0))=.lit (.int .i64 x.2):=by
 simp only [unS,List.mem_cons,List.not_mem_nil,or_false] at h;rcases h with rfl | rfl | rfl <;> exact ⟨by kernel_rfl,by kernel_rfl⟩
theorem Z2n {s s':ByteArray} {σ:RS} (h:Zl s σ=true) (hn:s≠s'):Zl s' σ=false:=by
 have:=Z6w (Z31 h) hn;simp [Zl,this]
theorem Zmd {x:ByteArray×Int} {σ:RS} (h:x∈unS) (hx:Zl x.1 σ=true):Z68 σ=x.2∧x.2≠0:=by
 simp only [unS,List.mem_cons,List.not_mem_nil,or_false] at h;rcases h with rfl | rfl | rfl;·exact ⟨by unfold Z68; rw [Yb hx],by decide⟩
 ·exact ⟨by unfold Z68; rw [Z2n hx (s':=Z5g) (by decide)]; simp only at hx; simp [hx],by decide⟩
 ·exact ⟨by unfold Z68; rw [Z2n hx (s':=Z5g) (by decide),Z2n hx (s':=Z1l) (by decide)]; simp only at hx; simp [hx],by decide⟩
theorem Zk7 {σ:RS} (h:∀ x∈unS,Zl x.1 σ=false):Z68 σ=0:=by
 have h1:=h (Z5g,32) (by simp [unS]); have h2:=h (Z1l,33) (by simp [unS]); have h3:=h (Z1t,34) (by simp [unS]);simp only at h1 h2 h3;simp [Z68,h1,h2,h3]
theorem Z04 {w:World} {C:QC} {σ:RS} (h:QS w C σ) (s:ByteArray) (hs:Zl s σ=false):Calls Tryz.prog 35 #[.pointer (some ⟨C.rb,0,none⟩),.string s] w fun e w'=>
 e=.returned (.bool false)∧Below w.heap.size w w':=by
 have HN:=Zk h s;rw [hs] at HN;have HN:=lh HN;clear h hs;go_enter Tryz.func35,Tryz.ntmps35
 go_wp2_with fail
 refine HN.out.mono ?_;rintro e w1 ⟨rfl,hB1⟩;have HB:=lh hB1;clear hB1;go_wp2;go_ret;exact ⟨rfl,HB.out⟩
theorem Z8e {P:Program} (w:World) (base:Nat) (t ty e:TypeId) (i:TypeInfo) (size:Nat) (ht:P.underlying t=some (.slice e)) (hi:P.info? e=some i)
 (v:Value) (n:Nat) (xs:List Value) (hown:w.ownsRow base e size v n xs) (p:Option Addr) (c:Nat) :
 (Builtin.append_ #[t,t] ty #[v,.slice p 0 c]).run P w=.ok v w:=by
 rcases hown.2 with ⟨rfl,rfl⟩ | ⟨g,cap,cur,rfl,_,_,hnc,_⟩;·cases p <;> simp [Builtin.append_,run_underlying ht,sizeOf,typeInfo,hi,Builtin.lenOf,Builtin.firstCells,loadCells,loadCellsFrom,Result.andThen]
 ·cases p <;> simp [Builtin.append_,run_underlying ht,sizeOf,typeInfo,hi,Builtin.lenOf,Builtin.firstCells,hnc,storeCells,loadCells,loadCellsFrom,Result.andThen]
theorem Z6v {P:Program} {w:World} {ops:Array Oper} {rest:List Oper} {o:Oper} {a:Act} {Q:Exit→Act→World→Prop} (hgd:o.guard=none) (s x:Operand) (t:TypeId)
 (ho:o.op=.call { callee:=.builtin .append,args:=#[s,x],argTypes:=#[t,t] })
 (base:Nat) (e:TypeId) (i:TypeInfo) (size:Nat) (ht:P.underlying t=some (.slice e)) (hi:P.info? e=some i)
 (v:Value) (n:Nat) (xs:List Value) (hs:a.eval s=v) (hown:w.ownsRow base e size v n xs) (p:Option Addr) (c:Nat) (hx:a.eval x=.slice p 0 c)
 (h:wpList P ops Q rest (a.put o.dst v) w):wpList P ops Q (o :: rest) a w:=by
 refine wpList_plain hgd fun K hK=>?_;have hrun:=Z8e (P:=P) w base t o.type e i size ht hi v n xs hown p c;unfold Oper.wp;simp [execOp,ho,resolve,invoke,builtin,hs,hx,hrun,Result.andThen];exact hK _ _ h
section
variable {w0 w w2 wA:World} {B rb:Nat} {v:Value} {kids ks':List ATree} {ts ts':List Tree}
theorem KidsAt.app (h:KidsAt w0 B w kids ts) (hA:∀ x∈Z0f kids,x < wA.heap.size) (k:KidsAt wA B w ks' ts') (h0:w0.heap.size≤wA.heap.size):KidsAt w0 B w (kids ++ ks') (ts ++ ts'):=by
 refine ⟨by rw [Z2j,h.tree,k.tree],fun x hx=>?_,?_,fun x hx=>?_⟩
 ·rcases List.mem_append.1 hx with hx | hx;·exact h.at' x hx
  ·exact k.at' x hx
 ·rw [Z20,List.nodup_append];exact ⟨h.nodup,k.nodup,fun x hx y hy e=>by have h1:=hA x hx; have h2:=k.new y hy; omega⟩
 ·rw [Z20, List.mem_append] at hx;rcases hx with hx | hx;·exact h.new x hx
  ·have:=k.new x hx; omega
theorem ListAt.pushL {g cap:Nat} (L:ListAt w0 B w v kids ts) (hLA:∀ x∈Z0f kids,x < wA.heap.size) (K:KidsAt wA B w ks' ts') (hvK:∀ x,v.ownBlock=some x→x ∉ Z0f ks') (h0:w0.heap.size≤wA.heap.size)
 (hg:w.grownBy w2 v.ownBlock) (hown:w2.ownsRow B 22 1 (.slice (some ⟨g,0,none⟩) (kids.length + ks'.length) cap) (kids.length + ks'.length) (kids.map ATree.ptr ++ ks'.map ATree.ptr))
 (hat:v.ownBlock=some g∨w.heap.size≤g) (hgl:g < w2.heap.size) (hF:RFr w0 w rb) :
 ListAt w0 B w2 (.slice (some ⟨g,0,none⟩) (kids.length + ks'.length) cap) (kids ++ ks') (ts ++ ts')∧(∀ x,x < w.heap.size→v.ownBlock≠some x→w2.heap[x]?=w.heap[x]?)∧RFr w0 w2 rb:=by
 have far:∀ x,x < w.heap.size→v.ownBlock≠some x→w2.heap[x]?=w.heap[x]?:=fun x hx hn=>hg.block x hx (fun e=>hn e.symm);have hgk:g ∉ Z0f kids:=fun hm=>by
  rcases hat with h | h;·exact (L.own g h).2.2 hm
  ·have:=(L.ks.new g hm).2; omega
 have hga:g ∉ Z0f ks':=fun hm=>by
  rcases hat with h | h;·exact hvK g h hm
  ·have:=(K.new g hm).2; omega
 have hg0:w0.heap.size≤g:=by
  rcases hat with h | h;·exact (L.own g h).1
  ·have:=hF.size; omega
 have hkeep:∀ x∈Z0f kids,w2.heap[x]?=w.heap[x]?:=fun x hx=>far x (L.ks.new x hx).2 fun e=>(L.own x e).2.2 hx;have hkeepA:∀ x∈Z0f ks',w2.heap[x]?=w.heap[x]?:=fun x hx=>far x (K.new x hx).2 fun e=>hvK x e hx;have hs:=hg.size;have KK:=L.ks.app hLA K h0;refine ⟨⟨⟨KK.tree,fun x hx=>?_,KK.nodup,fun x hx=>?_⟩,?_,fun g' hg'=>?_⟩,far,⟨?_,?_,?_,?_,?_⟩⟩
 ·refine (KK.at' x hx).keepB fun y hy => ?_;rcases List.mem_append.1 hx with hx | hx;·exact hkeep y (by rw [Z1k]; exact List.mem_flatMap.2 ⟨x, hx, hy⟩)
  ·exact hkeepA y (by rw [Z1k]; exact List.mem_flatMap.2 ⟨x,hx,hy⟩)
 ·have:=KK.new x hx; omega
 ·rw [Yq,Yu]; exact hown
 ·simp only [Value.ownBlock,Option.some.injEq] at hg';subst hg';refine ⟨hg0,hgl,fun hm=>?_⟩;rw [Z20,List.mem_append] at hm;exact hm.elim hgk hga
 ·exact hg.os.trans hF.os
 ·exact hg.tape.trans hF.tape
 ·exact hg.output.trans hF.output
 ·have:=hF.size; omega
 ·intro x hx hn;have:=hF.size;exact (far x (by omega) (fun e=>by have:=(L.own x e).1; omega)).trans (hF.block x hx hn)
end
def SInv (w wb:World) (C:QC) (B d f:Nat) (t:Tree) (σ':RS) (g:Nat) (v:Value) (wr:World):Prop:=
 ∃ (x:Tree) (a:ATree) (σ:RS),v=.pointer (some ⟨a.b,0,none⟩)∧refF g (.singleL x) d σ=some (t,σ')∧Got w B wr a x∧QS wr C σ∧RFr wb wr C.rb
theorem Zhz (f:Nat) (hS:Z1s 97 qd .single f) (hFi:Z1s 113 qd .first f) (hV:∀ g,g < f→Z1s 41 qd .value g) :
 Z1s 97 qd .single (f + 1):=by
 intro w C B d σ t σ' hQ hr hB hd hp;rw [refF] at hp;have HR:=lh hr;have HB:=lh hB;have HD:=lh hd;have HS:=lh hS;have HV:=lh hV;have HFI:=lh hFi;have HP:=lh hp;obtain ⟨bx,hbx⟩:=zX w.heap.size
 obtain ⟨wb,hwb⟩:=zX ((w.alloc (.cells #[.pointer (some ⟨C.rb,0,none⟩)] 43)).alloc (.cells #[.int .i64 d] 3))
 have hbb:Below w.heap.size w wb:=by rw [hwb]; exact ((Y8 _ _).alloc (Y5 _) _).alloc (by simp) _
 have hzb:wb.heap.size=bx + 2:=by rw [hwb,hbx]; simp
 have q1:wb.cell? ⟨bx,0,none⟩=some (.pointer (some ⟨C.rb,0,none⟩)):=by
  rw [hwb,hbx];exact (Z8 (by simp)).trans (World.cell?_alloc_new w _ _ 0)
 have q2:wb.cell? ⟨bx + 1,0,none⟩=some (.int .i64 d):=by
  have e:bx + 1=(w.alloc (.cells #[.pointer (some ⟨C.rb,0,none⟩)] 43)).heap.size:=by rw [hbx]; simp
  rw [hwb,e];exact World.cell?_alloc_new _ _ _ 0
 have HNE:=lh (show bx≠C.rb by have:=hQ.rlt; omega);have HNE2:=lh (show bx + 1≠C.rb by have:=hQ.rlt; omega);have HQB:=lh (hQ.below hbb);have FB:=lh (RFr.below (rb:=C.rb) hbb);have HBX1:=lh (show bx < wb.heap.size by omega);have HBX2:=lh (show bx + 1 < wb.heap.size by omega);have HQ1:=lh q1;have HQ2:=lh q2;have HWB:=lh hwb;have HBX:=lh hbx;have hmm:=@run_makeMap Tryz.prog;have h0:=World.ownsMap_made (H:=Unit) wb Tryz.prog 9 (plainElem Tryz.prog 3);have hB0:Below wb.heap.size wb (wb.alloc (.map #[] 0)):=(Y8 _ _).alloc (Y5 _) _
 have HB0:=lh hB0;rw [HWB.out,World.size_alloc,World.size_alloc] at h0;clear hB0 hQ hr hB hd hp hS hV hFi hbb hwb hbx hzb q1 q2;unfold qd;go_enter Tryz.func97,Tryz.ntmps97
 go_wp2_with (first | (refine Z9 _ rfl _ _ _ 82 rfl 9 3 Tryz.keyedS Tryz.underlying82 _ _ 0 _ rfl h0 (by unfold maxLen; omega) _ _ _ rfl rfl (Yw Yr (by decide)) _ [] (plainElem_int Ys (by decide)) ?_; intro v1 h1 g1) | (refine Z9 _ rfl _ _ _ 82 rfl 9 3 Tryz.keyedS Tryz.underlying82 _ _ 1 _ rfl h1 (by unfold maxLen; omega) _ _ _ rfl rfl (Yw Yr (by decide)) _ [] (plainElem_int Ys (by decide)) ?_; intro v2 h2 g2) | (refine Z9 _ rfl _ _ _ 82 rfl 9 3 Tryz.keyedS Tryz.underlying82 _ _ 2 _ rfl h2 (by unfold maxLen; omega) _ _ _ rfl rfl (Yw Yr (by decide)) _ [] (plainElem_int Ys (by decide)) ?_; intro v3 h3 g3) | (at_range; refine wpList_range_own _ rfl _ 82 rfl 9 3 Tryz.keyedS Tryz.underlying82 _ _ _ _ rfl h3 ?_; intro v4 hrg0 hg4 hs4))
 obtain ⟨mb,hmb⟩:=zX (w.heap.size + 1 + 1)
 have hz1:wb.heap.size=mb:=by rw [HWB.out,hmb]; simp
 obtain ⟨it,hit⟩:=zX v3.heap.size
 have B1':=Z00 HB0.out (by rw [← HWB.out] at g1; exact g1) (by omega) HB0.out.size;have B2:=Z00 B1' g2 (by omega) B1'.size;have B3:=Z00 B2 g3 (by omega) B2.size;have B4:Below wb.heap.size wb v4:=B3.grown hg4 B3.size (fun j hj=>by cases hj);have hitl:wb.heap.size≤it:=by rw [hit]; exact B3.size
 have hrg:v4.ranges Tryz.prog 9 (plainElem Tryz.prog 3) mb it 3 unE (Maps.has unE) (Maps.size unE):=by rw [hmb,hit]; exact hrg0
 have HRG:=lh hrg;have B4:=lh B4;rw [← hmb,← hit];have HMB:=lh hmb;have HIT:=lh hit;have HZ1:=lh hz1;have HITL:=lh hitl;rw [← HBX.out];clear hrg0 hg4 hs4 h0 h1 h2 h3 g1 g2 g3 B1' B2 B3 hrg hmb hit hz1 hitl HB0 hmm
 go_loopw [] (fun wr=>∃ (left:Lit→Bool) (cnt:Nat),wr.ranges Tryz.prog 9 (plainElem Tryz.prog 3) mb it 3 unE left cnt∧Hid (∀ kl,left kl=true→Maps.has unE kl=true) ∧
  Hid (∀ s:ByteArray,Maps.has unE (.string s.data.toList)=true→left (.string s.data.toList)=false→Zl s σ=false)∧Hid (Below wb.heap.size wb wr)) (fun wr=>wr.rangeLeft mb it)
 case atStart=>exact ⟨_,_,HRG.out,lh (fun _ h=>h),lh (fun s h1 h2=>by rw [h1] at h2; cases h2),B4⟩
 case round=>
  obtain ⟨left,cnt,hrg,HLE,HNO,BW⟩:=hrel;go_wp2_with (at_next; refine wpList_next_ranges _ rfl _ rfl 9 Tryz.keyedS _ (fun x:ByteArray=>Value.string x) (fun c:Int=>Value.int .i64 c) (fun key kl h=>by obtain ⟨x,h,_⟩:=keyOf_string_inv Yr h; exact ⟨x,h⟩) (fun v y h=>by obtain ⟨c,h,_⟩:=plainElem_int_inv Ys h; exact ⟨c,h⟩) mb it 3 _ left cnt rfl hrg ?_ ?_)
  ·intro _ hl0;have hnone : Z68 σ = 0 := Zk7 fun x hx => HNO.out x.1 (Zmm hx).1 (hl0 _);have hq := HP.out;rw [Y9 (fun h => h hnone)] at hq;obtain ⟨x0, σ1, hx, hl⟩ := Zn hq;have HX := lh hx;have HL := lh hl;have QW := lh (HQB.out.below BW.out);have FW := lh (RFr.below (rb := C.rb) BW.out);have j1 : wr.cell? ⟨bx, 0, none⟩ = some (.pointer (some ⟨C.rb, 0, none⟩)) := (Yj (BW.out.block bx HBX1.out)).trans HQ1.out;have j2 : wr.cell? ⟨bx + 1, 0, none⟩ = some (.int .i64 d) := (Yj (BW.out.block _ HBX2.out)).trans HQ2.out;clear hl0 hnone hq hrg hx hl
   go_wp2_with fail
   refine (HFI.out wr C B d _ _ _ QW.out HR.out (Ya HB.out (FB.out.trans FW.out).size) (by have:=HD.out; omega) HX.out).mono ?_;rintro e w1 ⟨a0,rfl,h1,h2,h3⟩;have ST:=lh (show ∃ g,g≤f∧SInv w wb C B d f t σ' g (.pointer (some ⟨a0.b,0,none⟩)) w1 from ⟨f,Y5 _,x0,a0,σ1,rfl,HL.out,h1.pre (FB.out.trans FW.out),h2,FW.out.trans h3⟩);clear h1 h2 h3 j1 j2;go_wp2_with fail
   go_loopw [7] (fun v wr=>∃ g,g≤f∧SInv w wb C B d f t σ' g v wr) (fun v wr=>least fun g=>g≤f∧SInv w wb C B d f t σ' g v wr)
   case atStart=>exact ST.out
   case round=>
    clear ST;have hI:=Z3y hrel;obtain ⟨g,hg⟩:=zX (least fun g=>g≤f∧SInv w wb C B d f t σ' g u7 wr)
    rw [← hg] at hI;have HG:=lh hg;clear hg hrel;obtain ⟨hgF,x,a,σ2,rfl,hp,hN,hQ,hF⟩:=hI;cases g with
    | zero=>simp [refF] at hp
    | succ g=>
    rw [refF] at hp;have HO:=Z2f hQ;have hxw:=hF.size;have j1:wr.cell? ⟨bx,0,none⟩=some (.pointer (some ⟨C.rb,0,none⟩)):=(hF.cell HBX1.out HNE.out).trans HQ1.out;have j2:wr.cell? ⟨bx + 1,0,none⟩=some (.int .i64 d):=(hF.cell HBX2.out HNE2.out).trans HQ2.out;have HN:=lh hN;have Q2:=lh hQ;have F2:=lh hF;have HGF:=lh hgF;have HW:=lh hxw;clear hN hQ hF hgF hxw;by_cases hf:σ2.f.isNone=true;rotate_left
    ·have hf : σ2.f.isNone = false := Bool.eq_false_iff.2 hf;rw [hf] at HO;rw [Y9 (by simp [Zl, hf]), Y9 (by simp [Zl, hf])] at hp;simp only [Option.some.injEq, Prod.mk.injEq] at hp;have HO := lh HO;have HE := lh hp;clear hf hp;go_wp2_with fail
     refine HO.out.mono ?_;rintro e w3 ⟨rfl,rfl⟩;go_wp2;go_ret;obtain ⟨h4,h5⟩:=HE.out;exact ⟨a,rfl,by rw [← h4]; exact HN.out,by rw [← h5]; exact Q2.out,FB.out.trans F2.out⟩
    rw [hf] at HO;have HO:=lh HO;have HE:=lh hp;clear hf hp;go_wp2_with fail
    refine HO.out.mono ?_;rintro e w3 ⟨rfl,rfl⟩;clear HO;go_wp2_with fail
    have HT:=Z1i Q2.out Z98;have hE:=HE.out;by_cases hd:Zl Z98 σ2=true
    ·rw [hd, Yb rfl] at HT;rw [Yb hd] at hE;replace HE := lh hE
     clear hE hd;refine HT.mono ?_;rintro e w3 ⟨rfl,h3,f3⟩;have k1:=(f3.cell (Ye HBX1.out HW.out) HNE.out).trans j1;have Q3:=lh h3;have F3:=lh f3;clear h3 f3 HT j1 j2;go_wp2_with fail
     refine (Z34 Q3.out B HR.out (Ya HB.out ((FB.out.trans F2.out).trans F3.out).size)).mono ?_;rintro e w4 ⟨rfl,h4,f4⟩;have Q4:=lh h4;have F4:=lh (F3.out.trans f4);clear h4 f4 k1;go_wp2;have hal:=(Y8 w4.heap.size w4).alloc (Y5 _) (.cells #[.pointer (some ⟨a.b,0,none⟩)] 22);have hFF:=(FB.out.trans F2.out).trans F4.out;have hfin:=Got.one (k:=36) (t:=(Zw (advR σ2)).1) HB.out hFF (HN.out.rfr HR.out F4.out)
     have hinv:g≤f∧SInv w wb C B d f t σ' g (.pointer (some ⟨w4.heap.size + 1,0,none⟩)) ((w4.alloc (.cells #[.pointer (some ⟨a.b,0,none⟩)] 22)).alloc (.cells #[.int .i64 36,.string (Zw (advR σ2)).1,.int .i64 0,.slice (some ⟨w4.heap.size,0,none⟩) 1 1] 38)):=
      ⟨by have:=HGF.out; omega,_,_,_,rfl,HE.out,hfin,(Q4.out.below hal).below ((Y8 _ _).alloc (Y5 _) _),((F2.out.trans F4.out).trans (RFr.below hal)).trans (RFr.below ((Y8 _ _).alloc (Y5 _) _))⟩
     exact ⟨⟨g,hinv⟩,by rw [← HG.out]; exact Nat.lt_succ_of_le (Z3c hinv)⟩
    have hd:Zl Z98 σ2=false:=by simpa using hd
    rw [hd] at HT;simp only [Bool.false_eq_true,if_false] at HT;rw [Y9 (by simp [hd])] at hE;replace HE:=lh hE
    clear hE hd;refine HT.mono ?_;rintro e w3 ⟨rfl,h3,f3⟩;have k1:=(f3.cell (Ye HBX1.out HW.out) HNE.out).trans j1;have k2:=(f3.cell (Ye HBX2.out HW.out) HNE2.out).trans j2;have Q3:=lh h3;have F3:=lh f3;clear h3 f3 HT j1 j2;go_wp2_with fail
    have HT:=Z1i Q3.out Z0u;have hE:=HE.out;by_cases hd:Zl Z0u σ2=true;rotate_left
    ·have hd : Zl Z0u σ2 = false := by simpa using hd
     rw [hd] at HT;simp only [Bool.false_eq_true,if_false] at HT;rw [Y9 (by simp [hd])] at hE;obtain ⟨rfl,rfl⟩:x=t∧σ2=σ':=by simpa using hE
     clear hE hd;refine HT.mono ?_;rintro e w4 ⟨rfl,h4,f4⟩;have Q4:=lh h4;have F4:=lh (F3.out.trans f4);clear h4 f4 HT k1 k2;go_wp2;go_ret;exact ⟨a,rfl,HN.out.rfr HR.out F4.out,Q4.out,(FB.out.trans F2.out).trans F4.out⟩
    rw [hd,Yb rfl] at HT;rw [Yb hd] at hE;obtain ⟨l,σ4,hl,hE⟩:=Zn hE;replace HE:=lh hE
    have HLL:=lh hl;clear hE hd hl;refine HT.mono ?_;rintro e w4 ⟨rfl,h4,f4⟩;have hw34:wr.heap.size≤w4.heap.size:=(F3.out.trans f4).size;have i1:=(f4.cell (Ye HBX1.out (Ya HW.out F3.out.size)) HNE.out).trans k1;have i2:=(f4.cell (Ye HBX2.out (Ya HW.out F3.out.size)) HNE2.out).trans k2;have Q4:=lh h4;have F4:=lh (F3.out.trans f4);have HW4:=lh (Ya HW.out hw34);clear h4 f4 HT k1 k2 hw34;go_wp2_with fail
    refine (Zhh g d 114 #[.pointer (some ⟨bx,0,none⟩),.pointer (some ⟨bx + 1,0,none⟩)] Z0v .args (fun g σ=>refF g .value (d + 1) σ) Zm8 (fun g acc σ=>by rw [refF]) w4 C B HR.out (Ya HB.out ((FB.out.trans F2.out).trans F4.out).size) (fun g' hg' w2 σ x σ' hF hQ hi=>?_) _ Q4.out l σ4 HLL.out).mono ?_
    ·exact Zmz g' (HV.out g' (by have:=HGF.out; omega)) w2 C B bx (bx + 1) d σ _ _ (by have:=HD.out; have:=HGF.out; omega) hi hQ HR.out (Ya HB.out (((FB.out.trans F2.out).trans F4.out).trans hF).size) ((hF.cell (Ye HBX1.out HW4.out) HNE.out).trans i1) ((hF.cell (Ye HBX2.out HW4.out) HNE2.out).trans i2)
    rintro e w5 ⟨v,kids,rfl,h1,h2,h3,h8⟩;obtain ⟨p,cp,rfl⟩:=h1.slice;have hX5:Got w B w5 a x:=(HN.out.rfr HR.out F4.out).rfr HR.out h3;have hF5:RFr w w5 C.rb:=((FB.out.trans F2.out).trans F4.out).trans h3;have hrow1:=(KidsAt.one hX5).lit (Ya HB.out hF5.size) hF5.size (by simp);have hal5:=(Y8 w5.heap.size w5).alloc (Y5 _) (.cells #[a.ptr] 22);have R1:=lh hrow1;have X5:=lh hX5;have L5:=lh h1;have Q5:=lh (h2.below hal5);have F5:=lh (hF5.trans (RFr.below (rb:=C.rb) hal5))
    have FW5:=lh (((F2.out.trans F4.out).trans h3).trans (RFr.below (rb:=C.rb) hal5));have HKL:=lh h1.len;have HW5:=lh (show wb.heap.size≤w5.heap.size from ((F2.out.trans F4.out).trans h3).size);have HWW5:=lh hF5.size;have H8:=lh h8;have HXA:=lh (fun y hy=>Ye (HN.out.new y hy).2 F4.out.size);have HS4:=lh ((FB.out.trans F2.out).trans F4.out).size;have hrw:=h1.row;obtain ⟨i0,hi,hz0,hz1,hz2⟩:=info_parts Tryz.infoPtr;clear h1 h2 h3 h8 hX5 hF5 hrow1 hal5 i1 i2;cases hkk:kids with
    | nil =>
      subst hkk;have hl0:l.kids.length=0:=HKL.out.symm;have hlk:l.kids=[]:=List.eq_nil_of_length_eq_zero hl0;have HLK:=lh hlk;rw [hl0];clear hl0 hlk hrw;go_wp2_with (at_builtin; go_must (refine Z6v rfl (.tmp 55) (.tmp 56) 36 rfl B 22 i0 1 Tryz.underlying36 hi (.slice (some ⟨w5.heap.size,0,none⟩) 1 1) 1 [a.ptr] rfl R1.out.row p cp rfl ?_))
      have hfin:=R1.out.node (k:=35) (tx:=⟨#[]⟩) (n:=0) (Ya HB.out F5.out.size) F5.out.size;have hinv:g≤f∧SInv w wb C B d f t σ' g (.pointer (some ⟨(w5.alloc (.cells #[a.ptr] 22)).heap.size,0,none⟩)) ((w5.alloc (.cells #[a.ptr] 22)).alloc (.cells #[.int .i64 35,.string ⟨#[]⟩,.int .i64 0,.slice (some ⟨w5.heap.size,0,none⟩) 1 1] 38)):=
       ⟨by have:=HGF.out; omega,_,_,_,rfl,(by have h:=HE.out; rw [HLK.out] at h; exact h),hfin,Q5.out.below ((Y8 _ _).alloc (Y5 _) _),FW5.out.trans (RFr.below ((Y8 _ _).alloc (Y5 _) _))⟩
      rw [World.size_alloc] at hinv;exact ⟨⟨g,hinv⟩,by rw [← HG.out]; exact Nat.lt_succ_of_le (Z3c hinv)⟩
    | cons k0 ks =>
      rcases Zp hrw with ⟨_,h2⟩ | ⟨g0,cap0,hv0,b1,b2,b3⟩;·rw [hkk] at h2; simp at h2
      obtain rfl:p=some ⟨g0,0,none⟩:=by simp only [Value.slice.injEq] at hv0; exact hv0.1
      have hm0:0 < kids.length:=by rw [hkk]; simp
      clear hkk k0 ks;have hg0:g0 < w5.heap.size:=(hrw.lt g0 rfl).2;have NEWS:=lh (show ∀ (j:Nat) (u:Value),(kids.map ATree.ptr)[j]?=some u→(w5.alloc (.cells #[a.ptr] 22)).cell? ((⟨g0,0,none⟩:Addr).add j)=some u from fun j u hu=>by
       have hadd:(⟨g0,0,none⟩:Addr).add j=⟨g0,j,none⟩:=by unfold Addr.add; split <;> simp_all
       rw [hadd];exact (Z8 hg0).trans (Z17 hrw (g:=g0) rfl hu))
      have hl8:kids.length≤8:=by rw [HKL.out]; exact H8.out
      rw [← HKL.out];have HG0:=lh hg0;clear hrw hv0 b1 b2 b3 hg0;go_wp2_with (at_builtin; go_must (refine wpList_append_lies _ rfl (.tmp 55) (.tmp 56) 36 rfl B 22 i0 _ 1 8 Tryz.underlying36 hi hz0 hz1 hz2 rfl (by decide) (.slice (some ⟨w5.heap.size,0,none⟩) 1 1) 1 [a.ptr] rfl R1.out.row ⟨g0,0,none⟩ kids.length cp (kids.map ATree.ptr) rfl (by simp) NEWS.out (fun u hu=>by obtain ⟨z,_,rfl⟩:=List.mem_map.1 hu; rfl) hm0 (by unfold maxLen; omega) (by omega) (Ya HB.out F5.out.size) (w5.heap.size + 1) (by simp) ?_); intro gg cap w6 hown2 hgrow2 hat2 hgl2)
      have hal5:=(Y8 w5.heap.size w5).alloc (Y5 _) (.cells #[a.ptr] 22);have hpush:=R1.out.pushL (wA:=w4) (fun y hy=>HXA.out y (by simpa [Z0f] using hy)) (L5.out.rfr HR.out (RFr.below (rb:=C.rb) hal5)).ks (fun y hy hm=>by
       simp only [Value.ownBlock,Option.some.injEq] at hy;have:=(L5.out.ks.new _ hm).2; omega) HS4.out hgrow2 hown2 (by rcases hat2 with h | h; (exact .inl h); (exact .inr (by simp; omega))) hgl2 F5.out
      have hfin:=hpush.1.node (k:=35) (tx:=⟨#[]⟩) (n:=0) (Ya HB.out hpush.2.2.size) hpush.2.2.size;have hF6:RFr wb w6 C.rb:=by
       refine ⟨hgrow2.os.trans FW5.out.os,hgrow2.tape.trans FW5.out.tape,hgrow2.output.trans FW5.out.output,Ya FW5.out.size hgrow2.size,fun y hy hn=>?_⟩;have h5:=FW5.out.size;refine (hpush.2.1 y (Ye hy h5) (fun e=>?_)).trans (FW5.out.block y hy hn);simp only [Value.ownBlock,Option.some.injEq] at e;have:=HS4.out; have:=FW5.out.size; have:=HW5.out; omega
      have hQ6:=Q5.out.keep (w':=w6) fun y hy=>hpush.2.1 y (Nat.lt_of_le_of_lt hy Q5.out.rlt) (fun e=>by
       simp only [Value.ownBlock,Option.some.injEq] at e;have:=HR.out; have:=HB.out; have:=HWW5.out; omega)
      have hinv:g≤f∧SInv w wb C B d f t σ' g (.pointer (some ⟨w6.heap.size,0,none⟩)) (w6.alloc (.cells #[.int .i64 35,.string ⟨#[]⟩,.int .i64 0,.slice (some ⟨gg,0,none⟩) (1 + kids.length) cap] 38)):=
       ⟨by have:=HGF.out; omega,_,_,_,rfl,HE.out,hfin,hQ6.below ((Y8 _ _).alloc (Y5 _) _),hF6.trans (RFr.below ((Y8 _ _).alloc (Y5 _) _))⟩
      exact ⟨⟨g,hinv⟩,by rw [← HG.out]; exact Nat.lt_succ_of_le (Z3c hinv)⟩
  ·intro x c kl y ys w2 cnt2 hkx hlx hvx hat hrg2 hcnt hg2 hs2 hen;have hb2 : Below wb.heap.size wb w2 := Z00 BW.out hg2 HITL.out BW.out.size;have B2 := lh hb2;obtain ⟨x', e, rfl⟩ := keyOf_string_inv Yr hkx;obtain rfl : x = x' := by cases e; rfl
   obtain ⟨z,hz,hzx⟩:=Zmf (HLE.out _ hlx);have hxz:x=z.1:=by
    have:x.data.toList=z.1.data.toList:=by simpa using hzx
    exact Z25 (by rw [Lib.toList_data,Lib.toList_data]; exact this)
   obtain ⟨c',e1,e2,_⟩:=plainElem_int_inv Ys hvx;obtain rfl:c=c':=by cases e1; rfl
   have hcz:c=z.2:=by
    have h1:=hat (.lit (.int .i64 0));simp only [Prod.mk.injEq] at e2;rw [hxz,(Zmm hz).2,e2.1] at h1;simpa using h1.symm
   have HZ:=lh hz;have HXZ:=lh hxz;have HCZ:=lh hcz;have HRG2:=lh hrg2;have HRG:=lh hrg;have HLT:=lh hcnt;have Q2:=HQB.out.below hb2;have j1:w2.cell? ⟨bx,0,none⟩=some (.pointer (some ⟨C.rb,0,none⟩)):=(Yj (hb2.block bx HBX1.out)).trans HQ1.out;have j2:w2.cell? ⟨bx + 1,0,none⟩=some (.int .i64 d):=(Yj (hb2.block _ HBX2.out)).trans HQ2.out;clear e hzx hxz e1 e2 hcz hz hrg2 hrg hlx hvx hat hkx hcnt hg2 hs2;by_cases hs:Zl x σ=true
   ·have hh := Zmd HZ.out (σ := σ) (by rw [← HXZ.out]; exact hs);have hq := HP.out;rw [Yb (by rw [hh.1]; exact hh.2), hh.1, ← HCZ.out] at hq;have HT := Z1i Q2 x;rw [hs, Yb rfl] at HT;have HT := lh HT;have HQ := lh hq;have F2 := lh (FB.out.trans (RFr.below (rb := C.rb) hb2));have hz2 := lh hb2.size;clear hs hh hq Q2 hb2;go_wp2_with fail
    refine HT.out.mono ?_;rintro e w3 ⟨rfl,h3,f3⟩;have k1:w3.cell? ⟨bx,0,none⟩=some (.pointer (some ⟨C.rb,0,none⟩)):=(f3.cell (Ye HBX1.out hz2.out) HNE.out).trans j1;have k2:w3.cell? ⟨bx + 1,0,none⟩=some (.int .i64 d):=(f3.cell (Ye HBX2.out hz2.out) HNE2.out).trans j2;have Q3:=lh h3;have F3:=lh (F2.out.trans f3);have hdd:=HD.out;clear h3 f3 j1 j2 HT;by_cases h30:30 < d + 1
    ·have n30 : ((d : Int) + 1 > 30) = true := by simp; omega
     have hq:=HQ.out;rw [Yb h30] at hq;obtain ⟨rfl,rfl⟩:gT=t∧Z39 4 (advR σ)=σ':=by simpa using hq
     clear hq;go_wp2_with fail
     refine (Z2t Q3.out 4 (by decide) B HR.out (Ya HB.out F3.out.size)).mono ?_;rintro e w4 ⟨a,rfl,h4⟩;have H4:=lh h4;clear h4;go_wp2;go_ret;exact Z27.pre F3.out ⟨a,rfl,H4.out⟩
    ·have hq := HQ.out;rw [Y9 h30] at hq;obtain ⟨x1, σ1, hx, hq⟩ := Zn hq;obtain ⟨rfl, rfl⟩ : Tree.mk c ByteArray.empty 0 [x1] = t ∧ σ1 = σ' := by simpa using hq
     have HX:=lh hx;clear hq hx;go_wp2_with fail
     refine (HS.out w3 C B (d + 1) _ _ _ Q3.out HR.out (Ya HB.out F3.out.size) (by omega) HX.out).mono ?_;rintro e w4 ⟨a,rfl,h4,h5,h6⟩;have G4:=lh h4;have Q4:=lh h5;have F4:=lh h6;clear h4 h5 h6 k1 k2;go_wp2;go_ret;have hal:=(Y8 w4.heap.size w4).alloc (Y5 _) (.cells #[.pointer (some ⟨a.b,0,none⟩)] 22)
     refine ⟨_,?_,Got.one (k:=c) (t:=⟨#[]⟩) HB.out (F3.out.trans F4.out) (G4.out.pre F3.out),(Q4.out.below hal).below ((Y8 _ _).alloc (Y5 _) _),((F3.out.trans F4.out).trans (RFr.below hal)).trans (RFr.below ((Y8 _ _).alloc (Y5 _) _))⟩;simp [ATree.b]
   ·have hs' : Zl x σ = false := by simpa using hs
    have HT:=lh (Z04 Q2 x hs');have HSN:=lh hs';clear hs hs' Q2 hb2;go_wp2_with fail
    refine HT.out.mono ?_;rintro e w3 ⟨rfl,hB3⟩;have B3:=lh hB3;have hg3:w2.grownBy w3 none:=⟨hB3.os,hB3.tape,hB3.output,hB3.size,fun i hi _=>hB3.block i hi⟩
    have HRG3:=lh (HRG2.out.kept hg3 (by simp) (by simp));clear hB3 hg3;go_wp2;go_roundw
    case rel=>
     refine ⟨_,cnt2,HRG3.out,lh (fun kl hkl=>HLE.out kl (by simp only [Bool.and_eq_true] at hkl; exact hkl.1)),lh (fun s h1 h2=>?_),lh (B2.out.trans (B3.out.mono B2.out.size))⟩;by_cases hl:left (.string s.data.toList)=true
     ·rw [hl] at h2;simp only [Bool.true_and,Bool.not_eq_false'] at h2;have e:=WideAt.sameKey_eq h2;have:s=x:=Z25 (by rw [Lib.toList_data,Lib.toList_data]; simpa using e);rw [this]; exact HSN.out
     ·exact HNO.out s h1 (by simpa using hl)
    case measure=>rw [HRG3.out.left_eq,HRG.out.left_eq]; exact HLT.out
end Go.Proofs.YtmeiggjboakmpaaGreatDoor
