import Derived.Test.YtkebnpemgkjpkaaGreatDoorJ19
set_option maxRecDepth 100000
set_option maxHeartbeats 20000000
set_option linter.all false
namespace Go.Proofs.YtkebnpemgkjpkaaGreatDoor
open Go Go.RowKit Go.Proofs.Tryz Tryz
theorem Oq:(Tryz.prog.info? 117).map (λi=>(i.zero,i.size,i.bytes))=some (some (.agg #[.pointer none,vI 0,.bool false]),3,24):=by kernel_rfl
def Zc8{P:Program}{ai:Array Oper}{Q:Exit->Act->kV->Prop}{S:kV->Prop}{o:Oper}{r:List (Bool×Oper)}{a:Act}{w:kV}
 (g:S w)(h:zq P ai Q S r (a.put o.dst undef) w)(hw:Region.wanted o (yielded ai a.tmps)=false):zq P ai Q S ((false,o)::r) a w:=
 Ze λK m=>by rw[Y3 (by simp[hw])];exact m _ _ g h
theorem Zt3{A B:Prop}{H R:kV->Nat->MRep->Prop}(m:Hid (∀W p M,H W p M->R W p M)->A)(u:Hid (∀W p M,H W p M->R W p M)->B)(g:∀W p M,H W p M->R W p M):A/\B:=⟨m (lh g),u (lh g)⟩
section
variable {C:RCtx}{M M':MRep}{w w':kV}{s s':MSt}{B:Nat}{a:ATree}{V:VF}{D:DF}{b:Int}{sc:Int}{fr:Frm}{d:Nat}
def Sy(C:RCtx)(wE:kV)(M:MRep)(w:kV)(s':MSt)(n:Int)(W:kV)(p:Nat)(M':MRep):Prop:=MAt C M' W s'/\MFr M M' w W/\Lo C M' wE W p #[vI 5,vI n,.string ⟨#[]⟩] 56
def Zbu(h:MAt C M w s)(hI:Inv s (d+4))(ha:TreeAt w B a)(hf:a.free M){pn body:ATree}(jb:a.kids=[pn,body])(hnm:(a.nt C.N).named=false)(sc:Int)(fr:Frm)(h0:0<=sc)(h1:sc<s.H.scopes.length)(iS:KU (a.nt C.N)) :
 kC 23 #[vP C.mb,a.ptr,vI sc,.agg #[.bool fr.strict,vI fr.vars]] w λe w'=>e=.returned (.agg #[vI 5,vI s.nextO,.string ⟨#[]⟩])/\Does C M w (s.funS (a.nt C.N) sc fr) w':=by
 obtain⟨i0,hi,aC,bo,bQ⟩:=info_parts Oq;obtain⟨S4,m⟩:=zX (s.funS (a.nt C.N) sc fr)
 rw[<-m];have U:(a.nt C.N).kid 1=body.nt C.N:=wX R9;unfold MSt.funS at m;simp only[hnm,if_true,Bool.false_eq_true,if_false,U,Z6e,rH,Zcc]at m;refine Om ?_;intro aP lf lr z hz;rw[<-hz]at aP lf lr;refine Sp ?_;intro aD aI;obtain⟨kg,kc,c3,Y,aR,I,aX,eZ⟩:=ha.row hf RW;rw[jb]at c3 Y I;have J:body∈a.kids:=RW
 have Z:=I 1 body rfl;simp only[List.length_cons,List.length_nil]at c3 Y;have y:=ha.lt;have c0:=ha.c0;have c1:=ha.c1;have bD:(a.kind==37)=false\/a.kind=37/\a.text=⟨#[]⟩:=by
  by_cases e:a.kind=37
  .refine .inr ⟨e,?_⟩;unfold NT.named at hnm;rw[Zb,rH,e]at hnm;simpa[Zg]using hnm
  .exact .inl (by simp[e])
 obtain⟨st,hst⟩:=zX fr.strict
 rw[<-hst]at lf hz m ⊢;have p:=(aP.cell y).trans c0;have u:=(aP.cell y).trans c1;have aq:∀W M',MFr M M' z W->vC W a.b 0 (vI a.kind)/\vC W a.b 1 (.string a.text)/\vC W w.heap.size 0 (.bool st)/\vC W a.b 3 (.slice (some ⟨kg,0,none⟩) 2 kc)/\vC W kg 1 (vP body.b):=λW M' f=>
  have g:MFr M M' w W:=(MFr.of_below aP).trans f;⟨(g.cell y hf.blk).trans c0,(g.cell y hf.blk).trans c1,(lf.fr f).cell rfl,(g.cell y hf.blk).trans c3,(g.cell aX eZ).trans Z⟩
 obtain⟨HS,HLR,HBZ,HM,ft,Hi,dW,Hj,HO,MB⟩:=lB aq lr aP aD aI (aI.kid J) hf (hf.kid J) h.old.size (show∀b∈a.blocks,¬M.has b from hf);obtain⟨so,aU⟩:=zX s
 have O:=hI.less (d':=d+3) Px;rw[<-aU]at O m;obtain⟨nx,F⟩:=zX sc
 rw[<-F]at m ⊢;have yh:=lh aU;clear aU;rw[hz]at p u;have yj:=lh lf;have gX:=lh (show KU (a.nt C.N)/\0<=nx/\nx<so.H.scopes.length from⟨iS,by rw[F];exact h0,by rw[F,yh.o];exact h1⟩);obtain⟨nu,ng,HZ⟩:=ds m O hz;clear F;clear hz aD lf lr aq c0 c1 c3 Z I aP aI ha hf h hI m O jb U hnm hst J;unfold ATree.ptr;rcases bD with bD|⟨lV,bc⟩<;>cases st
 .go_enter func23,ntmps23
  go_wp2_with fail
  rw[<-HZ.o];clear p u;refine Zqw ?_;intro M0 w2 cw fw ci;rw[<-ci];clear ci;refine Tf ?_;intro lU r9 eR cv fh xs cD n0 hn0;rw[<-fh]at r9 eR;rw[<-cD,show kr so M0.cl 3=n0 from hn0.symm]at eR;simp only[nc,nF,rowO]at r9 eR;refine tm9 ?_;intro gr hn S0 dV bV aK bu oP lW oQ j9 qQ ik gY j8 cE kX;obtain⟨s8,te,kD,kE,kF⟩:=S0;clear cw fw eR fh cD hn0 gr bV aK;go_wp2_with fail
  refine Aam ?_;intro bq K hK wq qS;rw[qS];refine hK _ _ ⟨r9,kD,kE,kF⟩ ?_;clear hK K qS;refine TJ ?_;intro rI oO rJ K hK;refine ZI ?_;refine tm2 ?_;clear hK K dV;intro gg cap w5 kA e9 HG HW iU kG;go_wp2_with fail
  refine YQ ?_;intro hg s3 cF ae M2 aM ap;refine tm7 ?_;intro aM ap s9 w4 fV;rw[<-fV]at aM ap s9 ⊢;have qN:Inv s3 (d+2):=by
   exact Zui
  exact tr5
 .go_enter func23,ntmps23
  go_wp2_with fail
  rw[<-HZ.o];clear p u;refine Zqw ?_;intro M0 w2 cw fw ci;rw[<-ci];clear ci;refine Tf ?_;intro lU r9 eR cv fh xs cD n0 hn0;rw[<-fh]at r9 eR;rw[<-cD,show kr so M0.cl 3=n0 from hn0.symm]at eR;simp only[nc,nF,rowO]at r9 eR;refine tm9 ?_;intro gr hn S0 dV bV aK bu oP lW oQ j9 qQ ik gY j8 cE kX;obtain⟨s8,te,kD,kE,kF⟩:=S0;clear cw fw eR fh cD hn0 gr bV aK;go_wp2_with fail
  refine Z7 [0,2,4,6,8,10,12,14,16,18,20,22,24,26,28,30,33,34,36,39,41] [21,22,23] (λW=>vC W C.mb 9 cv/\vC W w.heap.size 0 (.bool true)/\vC W a.b 3 (.slice (some ⟨kg,0,none⟩) 2 kc)/\vC W kg 1 (vP body.b)) ⟨r9,kD,kE,kF⟩ λ_=>?_;refine dU ?_
  iterate 16
   refine fa ?_
  refine Zua ?_;refine TJ ?_;intro rI oO rJ K hK;refine ZK ?_;refine tm2 ?_;clear hK K dV;intro gg cap w5 kA e9 HG HW iU kG;go_wp2_with fail
  refine ZM ?_;intro hg s3 cF ae M2 aM ap;refine tm7 ?_;intro aM ap s9 w4 fV;rw[<-fV]at aM ap s9 ⊢;have qN:Inv s3 (d+2):=by
   exact Zsx
  exact tr5
 .rw[lV]at p;rw[bc]at u;go_enter func23,ntmps23
  go_wp2_with fail
  rw[<-HZ.o];clear p u;refine Zqw ?_;intro M0 w2 cw fw ci;rw[<-ci];clear ci;refine Tf ?_;intro lU r9 eR cv fh xs cD n0 hn0;rw[<-fh]at r9 eR;rw[<-cD,show kr so M0.cl 3=n0 from hn0.symm]at eR;simp only[nc,nF,rowO]at r9 eR;refine tm9 ?_;intro gr hn S0 dV bV aK bu oP lW oQ j9 qQ ik gY j8 cE kX;obtain⟨s8,te,kD,kE,kF⟩:=S0;clear cw fw eR fh cD hn0 gr bV aK;go_wp2_with fail
  refine Aam ?_;intro bq K hK wq qS;rw[qS];refine hK _ _ ⟨r9,kD,kE,kF⟩ ?_;clear hK K qS;refine TJ ?_;intro rI oO rJ K hK;refine ZI ?_;refine tm2 ?_;clear hK K dV;intro gg cap w5 kA e9 HG HW iU kG;go_wp2_with fail
  refine YQ ?_;intro hg s3 cF ae M2 aM ap;refine tm7 ?_;intro aM ap s9 w4 fV;rw[<-fV]at aM ap s9 ⊢;have qN:Inv s3 (d+2):=by
   exact Zui
  exact tr3
 .rw[lV]at p;rw[bc]at u;go_enter func23,ntmps23
  go_wp2_with fail
  rw[<-HZ.o];clear p u;refine Zqw ?_;intro M0 w2 cw fw ci;rw[<-ci];clear ci;refine Tf ?_;intro lU r9 eR cv fh xs cD n0 hn0;rw[<-fh]at r9 eR;rw[<-cD,show kr so M0.cl 3=n0 from hn0.symm]at eR;simp only[nc,nF,rowO]at r9 eR;refine tm9 ?_;intro gr hn S0 dV bV aK bu oP lW oQ j9 qQ ik gY j8 cE kX;obtain⟨s8,te,kD,kE,kF⟩:=S0;clear cw fw eR fh cD hn0 gr bV aK;go_wp2_with fail
  refine Z7 [0,2,4,6,8,10,12,14,16,18,20,22,24,26,28,30,33,34,36,39,41] [21,22,23] (λW=>vC W C.mb 9 cv/\vC W w.heap.size 0 (.bool true)/\vC W a.b 3 (.slice (some ⟨kg,0,none⟩) 2 kc)/\vC W kg 1 (vP body.b)) ⟨r9,kD,kE,kF⟩ λ_=>?_;refine dU ?_
  iterate 16
   refine fa ?_
  refine Zua ?_;refine TJ ?_;intro rI oO rJ K hK;refine ZK ?_;refine tm2 ?_;clear hK K dV;intro gg cap w5 kA e9 HG HW iU kG;go_wp2_with fail
  refine ZM ?_;intro hg s3 cF ae M2 aM ap;refine tm7 ?_;intro aM ap s9 w4 fV;rw[<-fV]at aM ap s9 ⊢;have qN:Inv s3 (d+2):=by
   exact Zsx
  exact tr3
def Zbg(hC:C.Ok)(h:MAt C M w s)(hI:Inv s (d+4))(ha:TreeAt w B a)(hf:a.free M){pn body:ATree}(jb:a.kids=[pn,body])(hnm:(a.nt C.N).named=true)(sc:Int)(fr:Frm)(h0:0<=sc)(h1:sc<s.H.scopes.length)(iS:KU (a.nt C.N)) :
 kC 23 #[vP C.mb,a.ptr,vI sc,.agg #[.bool fr.strict,vI fr.vars]] w λe w'=>e=.returned (.agg #[vI 5,vI s.nextO,.string ⟨#[]⟩])/\Does C M w (s.funS (a.nt C.N) sc fr) w':=by
 obtain⟨i0,hi,aC,bo,bQ⟩:=info_parts Oq;obtain⟨S4,m⟩:=zX (s.funS (a.nt C.N) sc fr)
 rw[<-m];have kh:(a.nt C.N).kid 1=body.nt C.N:=wX R9;unfold MSt.funS at m;simp only[hnm,if_true,Bool.false_eq_true,if_false,kh,Z6e,rH,Zcc]at m;refine Om ?_;intro aP lf lr z hz;rw[<-hz]at aP lf lr;refine Sp ?_;intro aD aI;obtain⟨kg,kc,c3,cC,aR,F,aX,eZ⟩:=ha.row hf RW;rw[jb]at c3 cC F;have I:body∈a.kids:=RW
 have k1:=F 1 body rfl;simp only[List.length_cons,List.length_nil]at c3 cC;have p:=ha.lt;have c0:=ha.c0;have c1:=ha.c1;have bD:a.kind=37/\a.text.toList.isEmpty=false:=by
  unfold NT.named at hnm;rw[Zb,rH,Bool.and_eq_true]at hnm;refine⟨by simpa using hnm.1,?_⟩;rcases he:a.text.toList.isEmpty with _|_;·rfl
  .have h2:a.text=⟨#[]⟩:=Z4b (by rw[List.isEmpty_iff.1 he];simp[ByteArray.toList_eq]);rw[h2]at hnm;exact absurd hnm.2 Py
 obtain⟨lV,bc⟩:=bD;rw[lV]at c0;obtain⟨st,hst⟩:=zX fr.strict
 rw[<-hst]at lf hz m ⊢;have J:=(aP.cell p).trans c0;have O:=(aP.cell p).trans c1;have aq:∀W M',MFr M M' z W->vC W a.b 0 (vI 37)/\vC W a.b 1 (.string a.text)/\vC W w.heap.size 0 (.bool st)/\vC W a.b 3 (.slice (some ⟨kg,0,none⟩) 2 kc)/\vC W kg 1 (vP body.b):=λW M' f=>
  have g:MFr M M' w W:=(MFr.of_below aP).trans f;⟨(g.cell p hf.blk).trans c0,(g.cell p hf.blk).trans c1,(lf.fr f).cell rfl,(g.cell p hf.blk).trans c3,(g.cell aX eZ).trans k1⟩
 obtain⟨HS,HLR,HBZ,HM,ft,Hi,dW,Hj,HO,MB⟩:=lB aq lr aP aD aI (aI.kid I) hf (hf.kid I) h.old.size (show∀b∈a.blocks,¬M.has b from hf);obtain⟨so,aU⟩:=zX (s.opens sc (-1) (C.N a.b))
 have U:=(hI.opens (d:=d+3) (outer:=sc) (object:=-1) (owner:=C.N a.b) Px h1 Px Px).1;rw[<-aU]at U m;have dO:so.nextO=s.nextO:=RN
 have eo:so.clos=s.clos:=RN
 rw[<-eo]at m;have Y:=λW (hB:kW z W)=>Wm (aD.below hB) hI sc (-1) (C.N a.b);rw[<-aU]at Y;obtain⟨Z,u,yi⟩:=ds Y (Z5o hC aD aI) dO;obtain⟨nx,y⟩:=zX s.next
 rw[<-y]at m Z;have O9:=lh y;rw[hz]at J O;have FK:0<=nx/\nx<so.H.scopes.length:=by rw[y,aU];simp[MSt.next,MSt.opens];omega
 clear Y aU dO eo y;obtain⟨yj,gX,nu,ng,HZ⟩:=gp lf (show KU (a.nt C.N)/\0<=nx/\nx<so.H.scopes.length from⟨iS,FK⟩) m U hz;clear hz aD lf lr aq c0 c1 c3 k1 F aP aI ha hf h hI m U jb kh hnm hst I;unfold ATree.ptr;cases st
 .go_enter func23,ntmps23
  go_wp2_with fail
  rw[<-HZ.o];clear J O;simp only[ATree.ptr]at u;refine u.o.mono ?_;rintro e w1⟨rfl,rfl⟩;go_wp2_with fail
  refine(Z.o _ (Y2 _ _)).mono ?_;rintro e w2⟨rfl,M0,cw,fw⟩;refine Tf ?_;intro lU r9 eR cv fh xs cD n0 hn0;rw[<-fh]at r9 eR;rw[<-cD,show kr so M0.cl 3=n0 from hn0.symm]at eR;simp only[nc,nF,rowO]at r9 eR;refine tm9 ?_;intro gr hn S0 dV bV aK bu oP lW oQ j9 qQ ik gY j8 cE kX;obtain⟨s8,te,kD,kE,kF⟩:=S0;clear cw fw eR fh cD hn0 gr bV aK;go_wp2_with fail
  refine Aam ?_;intro bq K hK wq qS;rw[qS];refine hK _ _ ⟨r9,kD,kE,kF⟩ ?_;clear hK K qS;refine TJ ?_;intro rI oO rJ K hK;refine ZI ?_;refine tm2 ?_;clear hK K dV;intro gg cap w5 kA e9 HG HW iU kG;go_wp2_with fail
  refine YQ ?_;intro hg s3 cF ae M2 aM ap;refine tm7 ?_;intro aM ap s9 w4 fV;rw[<-fV]at aM ap s9 ⊢;have qN:Inv s3 (d+2):=by
   exact Zui
  exact tr9
 .go_enter func23,ntmps23
  go_wp2_with fail
  rw[<-HZ.o];clear J O;simp only[ATree.ptr]at u;refine u.o.mono ?_;rintro e w1⟨rfl,rfl⟩;go_wp2_with fail
  refine(Z.o _ (Y2 _ _)).mono ?_;rintro e w2⟨rfl,M0,cw,fw⟩;refine Tf ?_;intro lU r9 eR cv fh xs cD n0 hn0;rw[<-fh]at r9 eR;rw[<-cD,show kr so M0.cl 3=n0 from hn0.symm]at eR;simp only[nc,nF,rowO]at r9 eR;refine tm9 ?_;intro gr hn S0 dV bV aK bu oP lW oQ j9 qQ ik gY j8 cE kX;obtain⟨s8,te,kD,kE,kF⟩:=S0;clear cw fw eR fh cD hn0 gr bV aK;go_wp2_with fail
  refine Z7 [0,2,4,6,8,10,12,14,16,18,20,22,24,26,28,30,33,34,36,39,41] [21,22,23] (λW=>vC W C.mb 9 cv/\vC W w.heap.size 0 (.bool true)/\vC W a.b 3 (.slice (some ⟨kg,0,none⟩) 2 kc)/\vC W kg 1 (vP body.b)) ⟨r9,kD,kE,kF⟩ λ_=>?_;refine dU ?_
  iterate 16
   refine fa ?_
  refine Zua ?_;refine TJ ?_;intro rI oO rJ K hK;refine ZK ?_;refine tm2 ?_;clear hK K dV;intro gg cap w5 kA e9 HG HW iU kG;go_wp2_with fail
  refine ZM ?_;intro hg s3 cF ae M2 aM ap;refine tm7 ?_;intro aM ap s9 w4 fV;rw[<-fV]at aM ap s9 ⊢;have qN:Inv s3 (d+2):=by
   exact Zsx
  exact tr9
end
