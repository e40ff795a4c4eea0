/- Package run: function. -/
import Derived.Test.YtjikfacdcdiddaaGreatDoorJ19
set_option maxRecDepth 100000
set_option maxHeartbeats 20000000
set_option linter.unusedVariables false
set_option linter.unusedSimpArgs false
namespace Go.Proofs.YtjikfacdcdiddaaGreatDoor
open Go Go.RowKit
theorem Tryz.infoCloM:(Tryz.prog.info? 119).map (λi=>(i.zero,i.size,i.bytes))=some (some (.agg #[.pointer none,vI 0,.bool false]),3,24):=by kernel_rfl
theorem Z6t{P:Program}{ah:Array Oper}{Q:Exit->Act->World->Prop}{S:World->Prop}{o:Oper}{r:List (Bool×Oper)}{a:Act}{w:World}
 (g:S w)(h:xw P ah Q S r (a.put o.dst undef) w)(m:Region.wanted o (yielded ah a.tmps)=false):xw P ah Q S ((false,o)::r) a w:=
 Z6 λK p=>by rw[Y3 (by simp[m])];exact p _ _ g h
theorem Zs6{A B:Prop}{H R:World->Nat->MRep->Prop}(m:Hid (∀W p M,H W p M->R W p M)->A)(o:Hid (∀W p M,H W p M->R W p M)->B)(g:∀W p M,H W p M->R W p M):A∧B:=⟨m (lh g),o (lh g)⟩
section
variable {C:RCtx}{M M':MRep}{w w':World}{s s':MSt}{B:Nat}{a:ATree}{V:VF}{D:DF}{b:Int}{sc:Int}{fr:Frm}{d:Nat}
def ML(C:RCtx)(wE:World)(M:MRep)(w:World)(s':MSt)(n:Int)(W:World)(p:Nat)(M':MRep):Prop:=MAt C M' W s'∧MFr M M' w W∧Lo C M' wE W p #[vI 5,vI n,.string ⟨#[]⟩] 55
theorem Zat(h:MAt C M w s)(hI:Inv s (d+4))(y:TreeAt w B a)(hf:a.free M){pn body:ATree}(jj:a.kids=[pn,body])(hnm:(a.nt C.N).named=false)(sc:Int)(fr:Frm)(h0:0<=sc)(h1:sc<s.H.scopes.length)(ja:zU (a.nt C.N)) :
 Calls Tryz.prog 21 #[vP C.mb,a.ptr,vI sc,.agg #[.bool fr.strict,vI fr.vars]] w λe w'=>e=.returned (.agg #[vI 5,vI s.nextO,.string ⟨#[]⟩])∧Does C M w (s.funS (a.nt C.N) sc fr) w':=by
 obtain⟨i0,hi,aD,bo,bT⟩:=info_parts Tryz.infoCloM;obtain⟨S4,m⟩:=zX (s.funS (a.nt C.N) sc fr)
 rw[<-m];have Y:(a.nt C.N).kid 1=body.nt C.N:=sp Rv;unfold MSt.funS at m;simp only[hnm,if_true,Bool.false_eq_true,if_false,Y,ZJ,Zz,Wz]at m;refine Kz ?_;intro aI lf lr z hz;rw[<-hz]at aI lf lr;have Z:=h.below aI;have I:=y.bel aI;obtain⟨kg,kc,c3,ct,aR,J,ba,eU⟩:=y.row hf Rp;rw[jj]at c3 ct J;have O:body∈a.kids:=Rp
 have k1:=J 1 body rfl;simp only[List.length_cons,List.length_nil]at c3 ct;have E:=y.lt;have c0:=y.c0;have c1:=y.c1;have bG:(a.kind==37)=false∨a.kind=37∧a.text=⟨#[]⟩:=by
  by_cases e:a.kind=37
  .refine .inr ⟨e,?_⟩;unfold NT.named at hnm;rw[Zc,Zz,e]at hnm;simpa[Zg]using hnm
  .exact .inl (by simp[e])
 obtain⟨st,hst⟩:=zX fr.strict
 rw[<-hst]at lf hz m ⊢;have p:=(aI.cell E).trans c0;have u:=(aI.cell E).trans c1;have ap:∀W M',MFr M M' z W->vC W a.b 0 (vI a.kind)∧vC W a.b 1 (.string a.text)∧vC W w.heap.size 0 (.bool st)∧vC W a.b 3 (.slice (some ⟨kg,0,none⟩) 2 kc)∧vC W kg 1 (vP body.b):=λW M' f=>
  have g:MFr M M' w W:=(MFr.of_below aI).trans f;⟨(g.cell E hf.blk).trans c0,(g.cell E hf.blk).trans c1,(lf.fr f).cell rfl,(g.cell E hf.blk).trans c3,(g.cell ba eU).trans k1⟩
 have HS:=lh ap;have ar:=lh lr;have bJ:=lh aI;have HM:=lh Z;have fI:=lh I;have GM:=lh (I.kid O);have ea:=lh hf;have GN:=lh (hf.kid O);have HO:=lh h.old.size;have Mc:=lh (show∀b∈a.blocks,¬M.has b from hf);obtain⟨so,aV⟩:=zX s
 have U:=hI.less (d':=d+3) O';rw[<-aV]at U m;obtain⟨nx,F⟩:=zX sc
 rw[<-F]at m ⊢;have yd:=lh aV;clear aV;rw[hz]at p u;have yf:=lh lf;have ig:=lh (show zU (a.nt C.N)∧0<=nx∧nx<so.H.scopes.length from⟨ja,by rw[F];exact h0,by rw[F,yd.o];exact h1⟩);have np:=lh m;have na:=lh U;have HZ:=lh hz;clear F;clear hz Z lf lr ap c0 c1 c3 k1 J aI I y hf h hI m U jj Y hnm hst O;unfold ATree.ptr;rcases bG with bG|⟨lR,bg⟩<;>cases st
 .go_enter Tryz.func21,Tryz.ntmps21
  go_wp2_with fail
  rw[<-HZ.o];clear p u;refine Zn2 ?_;intro M0 w2 cF fJ cw;rw[<-cw];clear cw;refine Si ?_;intro lP r9 fh cv fD xs cI n0 hn0;rw[<-fD]at r9 fh;rw[<-cI,show jS so M0.cl 3=n0 from hn0.symm]at fh;simp only[mK,mZ,rowO]at r9 fh;refine WJ ?_;intro gL hn S0 d9 cf aN bz oM mj oN km qL ir gY kj cJ kZ;obtain⟨s7,s8,jU,jV,jW⟩:=S0;clear cF fJ fh fD cI hn0 gL cf aN;go_wp2_with fail
  refine V4 ?_;intro bu K hK wq qN;rw[qN];refine hK _ _ ⟨r9,jU,jV,jW⟩ ?_;clear hK K qN;refine RQ ?_;intro rE oL rF K hK;refine VY ?_;refine Wy ?_;clear hK K d9;intro gg cap w5 kL e9 HG HW iK kM;go_wp2_with fail
  refine V6 ?_;intro hg s3 cL ae M2 aQ aq;refine Wr ?_;intro aQ aq s9 w4 ew;rw[<-ew]at aQ aq s9 ⊢;have qJ:Inv s3 (d+2):=by
   exact Zr6
  exact tr4
 .go_enter Tryz.func21,Tryz.ntmps21
  go_wp2_with fail
  rw[<-HZ.o];clear p u;refine Zn2 ?_;intro M0 w2 cF fJ cw;rw[<-cw];clear cw;refine Si ?_;intro lP r9 fh cv fD xs cI n0 hn0;rw[<-fD]at r9 fh;rw[<-cI,show jS so M0.cl 3=n0 from hn0.symm]at fh;simp only[mK,mZ,rowO]at r9 fh;refine WJ ?_;intro gL hn S0 d9 cf aN bz oM mj oN km qL ir gY kj cJ kZ;obtain⟨s7,s8,jU,jV,jW⟩:=S0;clear cF fJ fh fD cI hn0 gL cf aN;go_wp2_with fail
  refine Z8 [0,2,4,6,8,10,12,14,16,18,20,22,24,26,28,30,33,34,36,39,41] [21,22,23] (λW=>vC W C.mb 9 cv∧vC W w.heap.size 0 (.bool true)∧vC W a.b 3 (.slice (some ⟨kg,0,none⟩) 2 kc)∧vC W kg 1 (vP body.b)) ⟨r9,jU,jV,jW⟩ λ_=>?_;refine dW ?_
  iterate 16
   refine dV ?_
  refine Z6t ⟨r9,jU,jV,jW⟩ ?_ Po;simp only[Act.put,zA,zB,zC];refine RQ ?_;intro rE oL rF K hK;refine VE ?_;refine Wy ?_;clear hK K d9;intro gg cap w5 kL e9 HG HW iK kM;go_wp2_with fail
  refine VK ?_;intro hg s3 cL ae M2 aQ aq;refine Wr ?_;intro aQ aq s9 w4 ew;rw[<-ew]at aQ aq s9 ⊢;have qJ:Inv s3 (d+2):=by
   exact Zql
  exact tr4
 .rw[lR]at p;rw[bg]at u;go_enter Tryz.func21,Tryz.ntmps21
  go_wp2_with fail
  rw[<-HZ.o];clear p u;refine Zn2 ?_;intro M0 w2 cF fJ cw;rw[<-cw];clear cw;refine Si ?_;intro lP r9 fh cv fD xs cI n0 hn0;rw[<-fD]at r9 fh;rw[<-cI,show jS so M0.cl 3=n0 from hn0.symm]at fh;simp only[mK,mZ,rowO]at r9 fh;refine WJ ?_;intro gL hn S0 d9 cf aN bz oM mj oN km qL ir gY kj cJ kZ;obtain⟨s7,s8,jU,jV,jW⟩:=S0;clear cF fJ fh fD cI hn0 gL cf aN;go_wp2_with fail
  refine V4 ?_;intro bu K hK wq qN;rw[qN];refine hK _ _ ⟨r9,jU,jV,jW⟩ ?_;clear hK K qN;refine RQ ?_;intro rE oL rF K hK;refine VY ?_;refine Wy ?_;clear hK K d9;intro gg cap w5 kL e9 HG HW iK kM;go_wp2_with fail
  refine V6 ?_;intro hg s3 cL ae M2 aQ aq;refine Wr ?_;intro aQ aq s9 w4 ew;rw[<-ew]at aQ aq s9 ⊢;have qJ:Inv s3 (d+2):=by
   exact Zr6
  exact tr2
 .rw[lR]at p;rw[bg]at u;go_enter Tryz.func21,Tryz.ntmps21
  go_wp2_with fail
  rw[<-HZ.o];clear p u;refine Zn2 ?_;intro M0 w2 cF fJ cw;rw[<-cw];clear cw;refine Si ?_;intro lP r9 fh cv fD xs cI n0 hn0;rw[<-fD]at r9 fh;rw[<-cI,show jS so M0.cl 3=n0 from hn0.symm]at fh;simp only[mK,mZ,rowO]at r9 fh;refine WJ ?_;intro gL hn S0 d9 cf aN bz oM mj oN km qL ir gY kj cJ kZ;obtain⟨s7,s8,jU,jV,jW⟩:=S0;clear cF fJ fh fD cI hn0 gL cf aN;go_wp2_with fail
  refine Z8 [0,2,4,6,8,10,12,14,16,18,20,22,24,26,28,30,33,34,36,39,41] [21,22,23] (λW=>vC W C.mb 9 cv∧vC W w.heap.size 0 (.bool true)∧vC W a.b 3 (.slice (some ⟨kg,0,none⟩) 2 kc)∧vC W kg 1 (vP body.b)) ⟨r9,jU,jV,jW⟩ λ_=>?_;refine dW ?_
  iterate 16
   refine dV ?_
  refine Z6t ⟨r9,jU,jV,jW⟩ ?_ Po;simp only[Act.put,zA,zB,zC];refine RQ ?_;intro rE oL rF K hK;refine VE ?_;refine Wy ?_;clear hK K d9;intro gg cap w5 kL e9 HG HW iK kM;go_wp2_with fail
  refine VK ?_;intro hg s3 cL ae M2 aQ aq;refine Wr ?_;intro aQ aq s9 w4 ew;rw[<-ew]at aQ aq s9 ⊢;have qJ:Inv s3 (d+2):=by
   exact Zql
  exact tr2
theorem Z9j(hC:C.Ok)(h:MAt C M w s)(hI:Inv s (d+4))(p:TreeAt w B a)(hf:a.free M){pn body:ATree}(jj:a.kids=[pn,body])(hnm:(a.nt C.N).named=true)(sc:Int)(fr:Frm)(h0:0<=sc)(h1:sc<s.H.scopes.length)(ja:zU (a.nt C.N)) :
 Calls Tryz.prog 21 #[vP C.mb,a.ptr,vI sc,.agg #[.bool fr.strict,vI fr.vars]] w λe w'=>e=.returned (.agg #[vI 5,vI s.nextO,.string ⟨#[]⟩])∧Does C M w (s.funS (a.nt C.N) sc fr) w':=by
 obtain⟨i0,hi,aD,bo,bT⟩:=info_parts Tryz.infoCloM;obtain⟨S4,m⟩:=zX (s.funS (a.nt C.N) sc fr)
 rw[<-m];have kv:(a.nt C.N).kid 1=body.nt C.N:=sp Rv;unfold MSt.funS at m;simp only[hnm,if_true,Bool.false_eq_true,if_false,kv,ZJ,Zz,Wz]at m;refine Kz ?_;intro aI lf lr z hz;rw[<-hz]at aI lf lr;have y:=h.below aI;have E:=p.bel aI;obtain⟨kg,kc,c3,ct,aR,J,ba,eU⟩:=p.row hf Rp;rw[jj]at c3 ct J;have O:body∈a.kids:=Rp
 have k1:=J 1 body rfl;simp only[List.length_cons,List.length_nil]at c3 ct;have u:=p.lt;have c0:=p.c0;have c1:=p.c1;have bG:a.kind=37∧a.text.toList.isEmpty=false:=by
  unfold NT.named at hnm;rw[Zc,Zz,Bool.and_eq_true]at hnm;refine⟨by simpa using hnm.1,?_⟩;rcases he:a.text.toList.isEmpty with _|_;·rfl
  .have h2:a.text=⟨#[]⟩:=Z4y (by rw[List.isEmpty_iff.1 he];simp[ByteArray.toList_eq]);rw[h2]at hnm;exact absurd hnm.2 Pa
 obtain⟨lR,bg⟩:=bG;rw[lR]at c0;obtain⟨st,hst⟩:=zX fr.strict
 rw[<-hst]at lf hz m ⊢;have U:=(aI.cell u).trans c0;have Y:=(aI.cell u).trans c1;have ap:∀W M',MFr M M' z W->vC W a.b 0 (vI 37)∧vC W a.b 1 (.string a.text)∧vC W w.heap.size 0 (.bool st)∧vC W a.b 3 (.slice (some ⟨kg,0,none⟩) 2 kc)∧vC W kg 1 (vP body.b):=λW M' f=>
  have g:MFr M M' w W:=(MFr.of_below aI).trans f;⟨(g.cell u hf.blk).trans c0,(g.cell u hf.blk).trans c1,(lf.fr f).cell rfl,(g.cell u hf.blk).trans c3,(g.cell ba eU).trans k1⟩
 have HS:=lh ap;have ar:=lh lr;have bJ:=lh aI;have HM:=lh y;have fI:=lh E;have GM:=lh (E.kid O);have ea:=lh hf;have GN:=lh (hf.kid O);have HO:=lh h.old.size;have Mc:=lh (show∀b∈a.blocks,¬M.has b from hf);obtain⟨so,aV⟩:=zX (s.opens sc (-1) (C.N a.b))
 have Z:=(hI.opens (d:=d+3) (outer:=sc) (object:=-1) (owner:=C.N a.b) O' h1 O' O').1;rw[<-aV]at Z m;have dM:so.nextO=s.nextO:=Rk
 have gF:so.clos=s.clos:=Rk
 rw[<-gF]at m;have qo:=λW (hB:Below z.heap.size z W)=>TE (y.below hB) hI sc (-1) (C.N a.b);rw[<-aV]at qo;have jK:=lh qo;have F:=lh (Z5l hC y E);have ye:=lh dM;obtain⟨nx,I⟩:=zX s.next
 rw[<-I]at m jK;have OJ:=lh I;rw[hz]at U Y;have Fl:0<=nx∧nx<so.H.scopes.length:=by rw[I,aV];simp[MSt.next,MSt.opens];omega
 clear qo aV dM gF I;have yf:=lh lf;have ig:=lh (show zU (a.nt C.N)∧0<=nx∧nx<so.H.scopes.length from⟨ja,Fl⟩);have np:=lh m;have na:=lh Z;have HZ:=lh hz;clear hz y lf lr ap c0 c1 c3 k1 J aI E p hf h hI m Z jj kv hnm hst O;unfold ATree.ptr;cases st
 .go_enter Tryz.func21,Tryz.ntmps21
  go_wp2_with fail
  rw[<-HZ.o];clear U Y;simp only[ATree.ptr]at F;refine F.o.mono ?_;rintro e w1⟨rfl,rfl⟩;go_wp2_with fail
  refine(jK.o _ (Y2 _ _)).mono ?_;rintro e w2⟨rfl,M0,cF,fJ⟩;refine Si ?_;intro lP r9 fh cv fD xs cI n0 hn0;rw[<-fD]at r9 fh;rw[<-cI,show jS so M0.cl 3=n0 from hn0.symm]at fh;simp only[mK,mZ,rowO]at r9 fh;refine WJ ?_;intro gL hn S0 d9 cf aN bz oM mj oN km qL ir gY kj cJ kZ;obtain⟨s7,s8,jU,jV,jW⟩:=S0;clear cF fJ fh fD cI hn0 gL cf aN;go_wp2_with fail
  refine V4 ?_;intro bu K hK wq qN;rw[qN];refine hK _ _ ⟨r9,jU,jV,jW⟩ ?_;clear hK K qN;refine RQ ?_;intro rE oL rF K hK;refine VY ?_;refine Wy ?_;clear hK K d9;intro gg cap w5 kL e9 HG HW iK kM;go_wp2_with fail
  refine V6 ?_;intro hg s3 cL ae M2 aQ aq;refine Wr ?_;intro aQ aq s9 w4 ew;rw[<-ew]at aQ aq s9 ⊢;have qJ:Inv s3 (d+2):=by
   exact Zr6
  exact tr8
 .go_enter Tryz.func21,Tryz.ntmps21
  go_wp2_with fail
  rw[<-HZ.o];clear U Y;simp only[ATree.ptr]at F;refine F.o.mono ?_;rintro e w1⟨rfl,rfl⟩;go_wp2_with fail
  refine(jK.o _ (Y2 _ _)).mono ?_;rintro e w2⟨rfl,M0,cF,fJ⟩;refine Si ?_;intro lP r9 fh cv fD xs cI n0 hn0;rw[<-fD]at r9 fh;rw[<-cI,show jS so M0.cl 3=n0 from hn0.symm]at fh;simp only[mK,mZ,rowO]at r9 fh;refine WJ ?_;intro gL hn S0 d9 cf aN bz oM mj oN km qL ir gY kj cJ kZ;obtain⟨s7,s8,jU,jV,jW⟩:=S0;clear cF fJ fh fD cI hn0 gL cf aN;go_wp2_with fail
  refine Z8 [0,2,4,6,8,10,12,14,16,18,20,22,24,26,28,30,33,34,36,39,41] [21,22,23] (λW=>vC W C.mb 9 cv∧vC W w.heap.size 0 (.bool true)∧vC W a.b 3 (.slice (some ⟨kg,0,none⟩) 2 kc)∧vC W kg 1 (vP body.b)) ⟨r9,jU,jV,jW⟩ λ_=>?_;refine dW ?_
  iterate 16
   refine dV ?_
  refine Z6t ⟨r9,jU,jV,jW⟩ ?_ Po;simp only[Act.put,zA,zB,zC];refine RQ ?_;intro rE oL rF K hK;refine VE ?_;refine Wy ?_;clear hK K d9;intro gg cap w5 kL e9 HG HW iK kM;go_wp2_with fail
  refine VK ?_;intro hg s3 cL ae M2 aQ aq;refine Wr ?_;intro aQ aq s9 w4 ew;rw[<-ew]at aQ aq s9 ⊢;have qJ:Inv s3 (d+2):=by
   exact Zql
  exact tr8
end
