import Derived.Test.YtkjdnecemhilpaaGreatDoorJ20
set_option maxRecDepth 100000
set_option maxHeartbeats 20000000
set_option linter.all false
namespace Go.Proofs.YtkjdnecemhilpaaGreatDoor
open Go Go.RowKit Go.Proofs.Tryz Tryz
theorem Ms:(Tryz.prog.info? 149).map (λi=>(i.zero,i.size,i.bytes))=some (some (.agg #[.pointer none,vI 0,.bool false]),3,24):=by kernel_rfl
def Zcn{P:Program}{ah:Array Oper}{Q:Exit->Act->kV->Prop}{S:kV->Prop}{o:Oper}{r:List (Bool×Oper)}{a:Act}{w:kV}
 (g:S w)(h:za P ah Q S r (a.put o.dst undef) w)(hw:Region.wanted o (yielded ah a.tmps)=false):za P ah Q S ((false,o)::r) a w:=
 Ze λK m=>by rw[Y3 (by simp[hw])];exact m _ _ g h
theorem Zry{A B:Prop}{H R:kV->Nat->MRep->Prop}(m:Hid (∀W p M,H W p M->R W p M)->A)(o:Hid (∀W p M,H W p M->R W p M)->B)(g:∀W p M,H W p M->R W p M):A/\B:=⟨m (lh g),o (lh g)⟩
section
variable {C:RCtx}{M M':MRep}{w w':kV}{s s':MSt}{B:Nat}{a:ATree}{V:VF}{D:DF}{b:Int}{sc:Int}{fr:Frm}{d:Nat}
def SY(C:RCtx)(wE:kV)(M:MRep)(w:kV)(s':MSt)(n:Int)(W:kV)(p:Nat)(M':MRep):Prop:=MAt C M' W s'/\MFr M M' w W/\Lo C M' wE W p #[vI 5,vI n,.string ⟨#[]⟩] 71
def Zbp(h:MAt C M w s)(hI:Inv s (d+4))(ha:TreeAt w B a)(hf:a.free M){pn body:ATree}(jg:a.kids=[pn,body])(hnm:(a.nt C.N).named=false)(sc:Int)(fr:Frm)(h0:0<=sc)(h1:sc<s.H.scopes.length)(iY:Lp (a.nt C.N)) :
 kC 27 #[vP C.mb,a.ptr,vI sc,.agg #[.bool fr.strict,vI fr.vars]] w λe w'=>e=.returned (.agg #[vI 5,vI s.nextO,.string ⟨#[]⟩])/\Does C M w (s.funS (a.nt C.N) sc fr) w':=by
 obtain⟨i0,hi,aC,bj,bJ⟩:=info_parts Ms;obtain⟨S4,m⟩:=zX (s.funS (a.nt C.N) sc fr)
 rw[<-m];have U:(a.nt C.N).kid 1=body.nt C.N:=xX Sz;unfold MSt.funS at m;simp only[hnm,if_true,Bool.false_eq_true,if_false,U,Z6k,sw,Zck]at m;refine MP ?_;intro aR lf lr z hz;rw[<-hz]at aR lf lr;refine Pq ?_;intro aE aJ;obtain⟨kg,kc,c3,Y,aT,I,aY,eZ⟩:=ha.row hf Ss;rw[jg]at c3 Y I;have J:body∈a.kids:=Ss
 have Z:=I 1 body rfl;simp only[List.length_cons,List.length_nil]at c3 Y;have y:=ha.lt;have c0:=ha.c0;have c1:=ha.c1;have bC:(a.kind==37)=false\/a.kind=37/\a.text=⟨#[]⟩:=by
  by_cases e:a.kind=37
  .refine .inr ⟨e,?_⟩;unfold NT.named at hnm;rw[Za,sw,e]at hnm;simpa[Zh]using hnm
  .exact .inl (by simp[e])
 obtain⟨st,hst⟩:=zX fr.strict
 rw[<-hst]at lf hz m ⊢;have p:=(aR.cell y).trans c0;have u:=(aR.cell y).trans c1;have aq:∀W M',MFr M M' z W->vC W a.b 0 (vI a.kind)/\vC W a.b 1 (.string a.text)/\vC W w.heap.size 0 (.bool st)/\vC W a.b 3 (.slice (some ⟨kg,0,none⟩) 2 kc)/\vC W kg 1 (vP body.b):=λW M' f=>
  have g:MFr M M' w W:=(MFr.of_below aR).trans f;⟨(g.cell y hf.blk).trans c0,(g.cell y hf.blk).trans c1,(lf.fr f).cell rfl,(g.cell y hf.blk).trans c3,(g.cell aY eZ).trans Z⟩
 obtain⟨HS,HLR,HBZ,HM,fB,Ia,dW,Ib,HO,MY⟩:=mR aq lr aR aE aJ (aJ.kid J) hf (hf.kid J) h.old.size (show∀b∈a.blocks,¬M.has b from hf);obtain⟨so,aW⟩:=zX s
 have O:=hI.less (d':=d+3) Qe;rw[<-aW]at O m;obtain⟨nx,F⟩:=zX sc
 rw[<-F]at m ⊢;have yz:=lh aW;clear aW;rw[hz]at p u;have yB:=lh lf;have gW:=lh (show Lp (a.nt C.N)/\0<=nx/\nx<so.H.scopes.length from⟨iY,by rw[F];exact h0,by rw[F,yz.o];exact h1⟩);obtain⟨nB,nj,HZ⟩:=ds m O hz;clear F;clear hz aE lf lr aq c0 c1 c3 Z I aR aJ ha hf h hI m O jg U hnm hst J;unfold ATree.ptr;rcases bC with bC|⟨lU,be⟩<;>cases st
 .go_enter func27,ntmps27
  go_wp2_with fail
  rw[<-HZ.o];clear p u;refine Zp2 ?_;intro M0 w2 cw fC cj;rw[<-cj];clear cj;refine T2 ?_;intro lT r9 eT cv fk xs cC n0 hn0;rw[<-fk]at r9 eT;rw[<-cC,show ky so M0.cl 3=n0 from hn0.symm]at eT;simp only[oj,ov,rowO]at r9 eT;refine tm9 ?_;intro gu hn S0 dV bZ aM bz oP lV oQ jR qT io gX kf cD li;obtain⟨tf,tg,kH,kI,kJ⟩:=S0;clear cw fC eT fk cC hn0 gu bZ aM;go_wp2_with fail
  refine XI ?_;intro bw K hK wq qV;rw[qV];refine hK _ _ ⟨r9,kH,kI,kJ⟩ ?_;clear hK K qV;refine TJ ?_;intro rJ oO rK K hK;refine YI ?_;refine tm2 ?_;clear hK K dV;intro gg cap w5 kG e9 HG HW i8 kK;go_wp2_with fail
  refine XR ?_;intro hg s3 cE ae M2 aO ap;refine tm7 ?_;intro aO ap s9 w4 fW;rw[<-fW]at aO ap s9 ⊢;have qQ:Inv s3 (d+2):=by
   exact Zrr
  exact tr5
 .go_enter func27,ntmps27
  go_wp2_with fail
  rw[<-HZ.o];clear p u;refine Zp2 ?_;intro M0 w2 cw fC cj;rw[<-cj];clear cj;refine T2 ?_;intro lT r9 eT cv fk xs cC n0 hn0;rw[<-fk]at r9 eT;rw[<-cC,show ky so M0.cl 3=n0 from hn0.symm]at eT;simp only[oj,ov,rowO]at r9 eT;refine tm9 ?_;intro gu hn S0 dV bZ aM bz oP lV oQ jR qT io gX kf cD li;obtain⟨tf,tg,kH,kI,kJ⟩:=S0;clear cw fC eT fk cC hn0 gu bZ aM;go_wp2_with fail
  refine Z7 [0,2,4,6,8,10,12,14,16,18,20,22,24,26,28,30,33,34,36,39,41] [21,22,23] (λW=>vC W C.mb 9 cv/\vC W w.heap.size 0 (.bool true)/\vC W a.b 3 (.slice (some ⟨kg,0,none⟩) 2 kc)/\vC W kg 1 (vP body.b)) ⟨r9,kH,kI,kJ⟩ λ_=>?_;refine dS ?_
  iterate 16
   refine dq ?_
  refine Zux ?_;refine TJ ?_;intro rJ oO rK K hK;refine X4 ?_;refine tm2 ?_;clear hK K dV;intro gg cap w5 kG e9 HG HW i8 kK;go_wp2_with fail
  refine XG ?_;intro hg s3 cE ae M2 aO ap;refine tm7 ?_;intro aO ap s9 w4 fW;rw[<-fW]at aO ap s9 ⊢;have qQ:Inv s3 (d+2):=by
   exact Zs7
  exact tr5
 .rw[lU]at p;rw[be]at u;go_enter func27,ntmps27
  go_wp2_with fail
  rw[<-HZ.o];clear p u;refine Zp2 ?_;intro M0 w2 cw fC cj;rw[<-cj];clear cj;refine T2 ?_;intro lT r9 eT cv fk xs cC n0 hn0;rw[<-fk]at r9 eT;rw[<-cC,show ky so M0.cl 3=n0 from hn0.symm]at eT;simp only[oj,ov,rowO]at r9 eT;refine tm9 ?_;intro gu hn S0 dV bZ aM bz oP lV oQ jR qT io gX kf cD li;obtain⟨tf,tg,kH,kI,kJ⟩:=S0;clear cw fC eT fk cC hn0 gu bZ aM;go_wp2_with fail
  refine XI ?_;intro bw K hK wq qV;rw[qV];refine hK _ _ ⟨r9,kH,kI,kJ⟩ ?_;clear hK K qV;refine TJ ?_;intro rJ oO rK K hK;refine YI ?_;refine tm2 ?_;clear hK K dV;intro gg cap w5 kG e9 HG HW i8 kK;go_wp2_with fail
  refine XR ?_;intro hg s3 cE ae M2 aO ap;refine tm7 ?_;intro aO ap s9 w4 fW;rw[<-fW]at aO ap s9 ⊢;have qQ:Inv s3 (d+2):=by
   exact Zrr
  exact tr3
 .rw[lU]at p;rw[be]at u;go_enter func27,ntmps27
  go_wp2_with fail
  rw[<-HZ.o];clear p u;refine Zp2 ?_;intro M0 w2 cw fC cj;rw[<-cj];clear cj;refine T2 ?_;intro lT r9 eT cv fk xs cC n0 hn0;rw[<-fk]at r9 eT;rw[<-cC,show ky so M0.cl 3=n0 from hn0.symm]at eT;simp only[oj,ov,rowO]at r9 eT;refine tm9 ?_;intro gu hn S0 dV bZ aM bz oP lV oQ jR qT io gX kf cD li;obtain⟨tf,tg,kH,kI,kJ⟩:=S0;clear cw fC eT fk cC hn0 gu bZ aM;go_wp2_with fail
  refine Z7 [0,2,4,6,8,10,12,14,16,18,20,22,24,26,28,30,33,34,36,39,41] [21,22,23] (λW=>vC W C.mb 9 cv/\vC W w.heap.size 0 (.bool true)/\vC W a.b 3 (.slice (some ⟨kg,0,none⟩) 2 kc)/\vC W kg 1 (vP body.b)) ⟨r9,kH,kI,kJ⟩ λ_=>?_;refine dS ?_
  iterate 16
   refine dq ?_
  refine Zux ?_;refine TJ ?_;intro rJ oO rK K hK;refine X4 ?_;refine tm2 ?_;clear hK K dV;intro gg cap w5 kG e9 HG HW i8 kK;go_wp2_with fail
  refine XG ?_;intro hg s3 cE ae M2 aO ap;refine tm7 ?_;intro aO ap s9 w4 fW;rw[<-fW]at aO ap s9 ⊢;have qQ:Inv s3 (d+2):=by
   exact Zs7
  exact tr3
def Zah(hC:C.Ok)(h:MAt C M w s)(hI:Inv s (d+4))(ha:TreeAt w B a)(hf:a.free M){pn body:ATree}(jg:a.kids=[pn,body])(hnm:(a.nt C.N).named=true)(sc:Int)(fr:Frm)(h0:0<=sc)(h1:sc<s.H.scopes.length)(iY:Lp (a.nt C.N)) :
 kC 27 #[vP C.mb,a.ptr,vI sc,.agg #[.bool fr.strict,vI fr.vars]] w λe w'=>e=.returned (.agg #[vI 5,vI s.nextO,.string ⟨#[]⟩])/\Does C M w (s.funS (a.nt C.N) sc fr) w':=by
 obtain⟨i0,hi,aC,bj,bJ⟩:=info_parts Ms;obtain⟨S4,m⟩:=zX (s.funS (a.nt C.N) sc fr)
 rw[<-m];have ko:(a.nt C.N).kid 1=body.nt C.N:=xX Sz;unfold MSt.funS at m;simp only[hnm,if_true,Bool.false_eq_true,if_false,ko,Z6k,sw,Zck]at m;refine MP ?_;intro aR lf lr z hz;rw[<-hz]at aR lf lr;refine Pq ?_;intro aE aJ;obtain⟨kg,kc,c3,cB,aT,F,aY,eZ⟩:=ha.row hf Ss;rw[jg]at c3 cB F;have I:body∈a.kids:=Ss
 have k1:=F 1 body rfl;simp only[List.length_cons,List.length_nil]at c3 cB;have p:=ha.lt;have c0:=ha.c0;have c1:=ha.c1;have bC:a.kind=37/\a.text.toList.isEmpty=false:=by
  unfold NT.named at hnm;rw[Za,sw,Bool.and_eq_true]at hnm;refine⟨by simpa using hnm.1,?_⟩;rcases he:a.text.toList.isEmpty with _|_;·rfl
  .have h2:a.text=⟨#[]⟩:=Z5d (by rw[List.isEmpty_iff.1 he];simp[ByteArray.toList_eq]);rw[h2]at hnm;exact absurd hnm.2 Qg
 obtain⟨lU,be⟩:=bC;rw[lU]at c0;obtain⟨st,hst⟩:=zX fr.strict
 rw[<-hst]at lf hz m ⊢;have J:=(aR.cell p).trans c0;have O:=(aR.cell p).trans c1;have aq:∀W M',MFr M M' z W->vC W a.b 0 (vI 37)/\vC W a.b 1 (.string a.text)/\vC W w.heap.size 0 (.bool st)/\vC W a.b 3 (.slice (some ⟨kg,0,none⟩) 2 kc)/\vC W kg 1 (vP body.b):=λW M' f=>
  have g:MFr M M' w W:=(MFr.of_below aR).trans f;⟨(g.cell p hf.blk).trans c0,(g.cell p hf.blk).trans c1,(lf.fr f).cell rfl,(g.cell p hf.blk).trans c3,(g.cell aY eZ).trans k1⟩
 obtain⟨HS,HLR,HBZ,HM,fB,Ia,dW,Ib,HO,MY⟩:=mR aq lr aR aE aJ (aJ.kid I) hf (hf.kid I) h.old.size (show∀b∈a.blocks,¬M.has b from hf);obtain⟨so,aW⟩:=zX (s.opens sc (-1) (C.N a.b))
 have U:=(hI.opens (d:=d+3) (outer:=sc) (object:=-1) (owner:=C.N a.b) Qe h1 Qe Qe).1;rw[<-aW]at U m;have dG:so.nextO=s.nextO:=Sm
 have gd:so.clos=s.clos:=Sm
 rw[<-gd]at m;have Y:=λW (hB:kW z W)=>Wp (aE.below hB) hI sc (-1) (C.N a.b);rw[<-aW]at Y;obtain⟨Z,u,yA⟩:=ds Y (Z5z hC aE aJ) dG;obtain⟨nx,y⟩:=zX s.next
 rw[<-y]at m Z;have PA:=lh y;rw[hz]at J O;have Gd:0<=nx/\nx<so.H.scopes.length:=by rw[y,aW];simp[MSt.next,MSt.opens];omega
 clear Y aW dG gd y;obtain⟨yB,gW,nB,nj,HZ⟩:=gq lf (show Lp (a.nt C.N)/\0<=nx/\nx<so.H.scopes.length from⟨iY,Gd⟩) m U hz;clear hz aE lf lr aq c0 c1 c3 k1 F aR aJ ha hf h hI m U jg ko hnm hst I;unfold ATree.ptr;cases st
 .go_enter func27,ntmps27
  go_wp2_with fail
  rw[<-HZ.o];clear J O;simp only[ATree.ptr]at u;refine u.o.mono ?_;rintro e w1⟨rfl,rfl⟩;go_wp2_with fail
  refine(Z.o _ (Y2 _ _)).mono ?_;rintro e w2⟨rfl,M0,cw,fC⟩;refine T2 ?_;intro lT r9 eT cv fk xs cC n0 hn0;rw[<-fk]at r9 eT;rw[<-cC,show ky so M0.cl 3=n0 from hn0.symm]at eT;simp only[oj,ov,rowO]at r9 eT;refine tm9 ?_;intro gu hn S0 dV bZ aM bz oP lV oQ jR qT io gX kf cD li;obtain⟨tf,tg,kH,kI,kJ⟩:=S0;clear cw fC eT fk cC hn0 gu bZ aM;go_wp2_with fail
  refine XI ?_;intro bw K hK wq qV;rw[qV];refine hK _ _ ⟨r9,kH,kI,kJ⟩ ?_;clear hK K qV;refine TJ ?_;intro rJ oO rK K hK;refine YI ?_;refine tm2 ?_;clear hK K dV;intro gg cap w5 kG e9 HG HW i8 kK;go_wp2_with fail
  refine XR ?_;intro hg s3 cE ae M2 aO ap;refine tm7 ?_;intro aO ap s9 w4 fW;rw[<-fW]at aO ap s9 ⊢;have qQ:Inv s3 (d+2):=by
   exact Zrr
  exact tr9
 .go_enter func27,ntmps27
  go_wp2_with fail
  rw[<-HZ.o];clear J O;simp only[ATree.ptr]at u;refine u.o.mono ?_;rintro e w1⟨rfl,rfl⟩;go_wp2_with fail
  refine(Z.o _ (Y2 _ _)).mono ?_;rintro e w2⟨rfl,M0,cw,fC⟩;refine T2 ?_;intro lT r9 eT cv fk xs cC n0 hn0;rw[<-fk]at r9 eT;rw[<-cC,show ky so M0.cl 3=n0 from hn0.symm]at eT;simp only[oj,ov,rowO]at r9 eT;refine tm9 ?_;intro gu hn S0 dV bZ aM bz oP lV oQ jR qT io gX kf cD li;obtain⟨tf,tg,kH,kI,kJ⟩:=S0;clear cw fC eT fk cC hn0 gu bZ aM;go_wp2_with fail
  refine Z7 [0,2,4,6,8,10,12,14,16,18,20,22,24,26,28,30,33,34,36,39,41] [21,22,23] (λW=>vC W C.mb 9 cv/\vC W w.heap.size 0 (.bool true)/\vC W a.b 3 (.slice (some ⟨kg,0,none⟩) 2 kc)/\vC W kg 1 (vP body.b)) ⟨r9,kH,kI,kJ⟩ λ_=>?_;refine dS ?_
  iterate 16
   refine dq ?_
  refine Zux ?_;refine TJ ?_;intro rJ oO rK K hK;refine X4 ?_;refine tm2 ?_;clear hK K dV;intro gg cap w5 kG e9 HG HW i8 kK;go_wp2_with fail
  refine XG ?_;intro hg s3 cE ae M2 aO ap;refine tm7 ?_;intro aO ap s9 w4 fW;rw[<-fW]at aO ap s9 ⊢;have qQ:Inv s3 (d+2):=by
   exact Zs7
  exact tr9
end
