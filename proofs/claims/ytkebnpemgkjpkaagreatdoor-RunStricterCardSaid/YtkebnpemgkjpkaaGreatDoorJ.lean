import Derived.Test.YtkebnpemgkjpkaaGreatDoorJ29
import Derived.Test.YtkebnpemgkjpkaaGreatDoorTie
import Derived.Test.YtkebnpemgkjpkaaGreatDoorCards
import Derived.Stop.LaidErr
import Derived.ProofKit
import Derived.OpenShut
import Derived.ShutString
set_option linter.unusedVariables false
set_option maxRecDepth 100000
namespace Go.Proofs.YtkebnpemgkjpkaaGreatDoor.runStricter
open Go.ChangeShapes Go.WideShapes Go.ChangeAt Go.RowKit
open Go.ChangeMaps (open_string shut_string)
theorem own:ownKnob Tryz.prog.godebug=none:=by kernel_rfl
theorem gw:Tryz.prog.globalNamed "sloppyscope/lex.wordList"=some 2:=by kernel_rfl
theorem tw:(Tryz.prog.globals[2]?).map (·.type)=some 180:=by kernel_rfl
def wB:List (List UInt8):=match(Rows.laid_sloppyscope_lex_wordList:DataW Unit)with
 | .agg l => l.map fun
   | .lit (.string bs)=>bs
   |_=>[]
 |_=>[]
theorem words_laid:(Rows.laid_sloppyscope_lex_wordList:DataW Unit)=.agg (wB.map λb=>.lit (.string b)):=by kernel_rfl
theorem words_get(j:Nat)(hj:j<19):∃b,wB[j]?=some b/\VT.getD j ByteArray.empty=⟨b.toArray⟩:=by
 have h:VT=wB.map λb=>(⟨b.toArray⟩:ByteArray):=by kernel_rfl
 have hl:wB.length=19:=by kernel_rfl
 have hg:wB[j]?=some wB[j]:=List.getElem?_eq_getElem (by omega);exact⟨_,hg,by rw[h,List.getD_eq_getElem?_getD,List.getElem?_map,hg];rfl⟩
theorem gl:Tryz.prog.globalNamed "sloppyscope/tree.levels"=some 5:=by kernel_rfl
theorem tl:(Tryz.prog.globals[5]?).map (·.type)=some 228:=by kernel_rfl
def lB:List (List (List UInt8)):=match(Rows.laid_sloppyscope_tree_levels:DataW Unit)with
 | .agg l => l.map fun
   | .slice m _ => m.map fun
     | .lit (.string bs)=>bs
     |_=>[]
   |_=>[]
 |_=>[]
theorem levels_laid:(Rows.laid_sloppyscope_tree_levels:DataW Unit)=.agg (lB.map λr=>.slice (r.map λb=>.lit (.string b)) []):=by kernel_rfl
theorem levels_get(lv:Nat)(h:lv<6):∃r,lB[lv]?=some r/\0<r.length/\j4 lv=r.map λb=>(⟨b.toArray⟩:ByteArray):=by
 match lv,h with
 |0,_=>exact⟨_,rfl,by decide,by kernel_rfl⟩
 |1,_=>exact⟨_,rfl,by decide,by kernel_rfl⟩
 |2,_=>exact⟨_,rfl,by decide,by kernel_rfl⟩
 |3,_=>exact⟨_,rfl,by decide,by kernel_rfl⟩
 |4,_=>exact⟨_,rfl,by decide,by kernel_rfl⟩
 |5,_=>exact⟨_,rfl,by decide,by kernel_rfl⟩
theorem et:Tryz.prog.globalNamed "errors.errorType" =some 1:=by kernel_rfl
theorem rt:(Tryz.prog.cutTypes.find? (·.1== "internal/reflectlite.rtype")).map (·.2)=some 167:=by kernel_rfl
theorem oneRow:((List.range 271).filter λt=>Tryz.prog.rowNamed t [101,114,114,111,114])=[32]:=by kernel_rfl
theorem size:Tryz.prog.types.size=271:=by kernel_rfl
theorem gp:Tryz.prog.globalNamed "internal/strconv.uint64pow10"=some 4:=by kernel_rfl
theorem gq:Tryz.prog.globalNamed "sloppyscope/run.errStop"=some 0:=by kernel_rfl
theorem tq:(Tryz.prog.globals[0]?).map (·.type)=some 32:=by kernel_rfl
theorem starES: "*" ++ "errors.errorString" = "*errors.errorString" :=by decide
theorem rowES(u:TypeId)(h:Tryz.prog.typeName? 3 u=some "*errors.errorString"):u=241:=
 typeName_ptr_named (nm:= "errors.errorString") (by rw[starES];kernel_rfl) (by kernel_rfl) (by decide) u (by rw[starES];exact h)
theorem run_of_laid{W:World}(h':laidMet Tryz.prog [("math/bits.deBruijn32tab",Rows.laid_math_bits_deBruijn32tab),("math/bits.deBruijn64tab",Rows.laid_math_bits_deBruijn64tab),("internal/strconv.uint64pow10",Rows.laid_internal_strconv_uint64pow10),("sloppyscope/lex.wordList",Rows.laid_sloppyscope_lex_wordList),("sloppyscope/tree.levels",Rows.laid_sloppyscope_tree_levels),("sloppyscope/run.errStop",Rows.laid_sloppyscope_run_errStop)] W):K8 W/\∃eb,W.cell? ⟨0,0,none⟩=some (pY eb):=by
 have h2:laidMet Tryz.prog (("internal/strconv.uint64pow10",Lib.tabData .u64 Lib.pow10Tab):: [("sloppyscope/lex.wordList",Rows.laid_sloppyscope_lex_wordList),("sloppyscope/tree.levels",Rows.laid_sloppyscope_tree_levels),("sloppyscope/run.errStop",Rows.laid_sloppyscope_run_errStop)]) W:=(h'.tail.tail)
 have h3:laidMet Tryz.prog (("sloppyscope/run.errStop",.iface "*errors.errorString" (.ptr (.agg [.lit (.string [115,116,111,112,112,101,100])]))):: []) W:=(h'.tail.tail.tail.tail.tail)
 obtain⟨a,s,hv,-⟩:=laid_sentinel h3 gq tq Tryz.underlying32 rowES Tryz.underlying241 Tryz.underlying260 rfl rfl Tryz.underlying9 (by kernel_rfl) (by kernel_rfl);exact⟨Lib.tabIs_of_head (g:=4) (t:=222) (e:=209) (n:=20) gp (by kernel_rfl) Tryz.underlying222 Tryz.underlying209 (by kernel_rfl) (by kernel_rfl) h2,a,by have:=World.var?_cell gq hv 0;simpa[pY]using this⟩
theorem words_of_laid{W:World}(h:laidMetH Tryz.prog Rows.runStricterRow.laid W):Words W/\Gv W W.heap.size/\Tb W/\K8 W/\∃eb,W.cell? ⟨0,0,none⟩=some (pY eb):=by
 have Dk:laidMet Tryz.prog [("math/bits.deBruijn32tab",Rows.laid_math_bits_deBruijn32tab),("math/bits.deBruijn64tab",Rows.laid_math_bits_deBruijn64tab),("internal/strconv.uint64pow10",Rows.laid_internal_strconv_uint64pow10),("sloppyscope/lex.wordList",Rows.laid_sloppyscope_lex_wordList),("sloppyscope/tree.levels",Rows.laid_sloppyscope_tree_levels),("sloppyscope/run.errStop",Rows.laid_sloppyscope_run_errStop)] W/\handlesMet Tryz.prog [("errors.errorType",Rows.laid_errors_errorType)] W:=h
 have ay:∀{p:Addr} {v:Value},W.cell? p=some v->p.block<W.heap.size:=λ{p v} hc=>by
  unfold World.cell? at hc;split at hc
  .rename_i hb;exact(Array.getElem?_eq_some_iff.1 hb).1
  .cases hc
 refine⟨λj hj=>?_,λlv dM=>?_,?_,?_⟩
 .obtain⟨b,hb,hw⟩:=words_get j hj;rw[hw];exact Zdg gw tw Tryz.underlying180 Tryz.underlying9 (by kernel_rfl) (by kernel_rfl) words_laid (Dk.1.tail.tail.tail) j b hb
 .obtain⟨r,hr,fN,hl⟩:=levels_get lv dM;obtain⟨b,off,cap,h1,h2,h3⟩:=Zbw gl tl Tryz.underlying228 Tryz.underlying27 Tryz.underlying9 (by kernel_rfl) (by kernel_rfl) (by kernel_rfl) levels_laid (Dk.1.tail.tail.tail) lv r hr fN;refine⟨b,off,cap,ay h1,?_,by rw[hl,List.length_map];exact h1,by rw[hl,List.length_map];exact h2,λi x hx=>?_⟩
  .obtain⟨x,hx⟩:∃x,r[0]? =some x:=⟨r[0],List.getElem?_eq_getElem fN⟩
   exact ay (h3 0 x hx)
  .rw[hl,List.getElem?_map]at hx;obtain⟨y,hy,rfl⟩:=Option.map_eq_some_iff.1 hx;exact h3 i y hy
 .obtain⟨name,u,ty,e1,e2,e3,e4,e5⟩:=Dk.2 _ (List.mem_singleton.2 rfl);have en:name=[101,114,114,111,114]:=(Option.some.inj e1).symm;subst en;obtain rfl:=Option.some.inj (rt.symm.trans e2);have hm:ty∈(List.range 271).filter λt=>Tryz.prog.rowNamed t [101,114,114,111,114]:=List.mem_filter.2 ⟨List.mem_range.2 (by rw[<-size];exact e3),e4⟩;rw[oneRow]at hm;obtain rfl:=List.mem_singleton.1 hm;have hh:typeHandle Tryz.prog 32= .pointer (some ⟨8,32,none⟩):=by kernel_rfl
  rw[hh]at e5;exact World.var?_cell et e5 0
 .exact run_of_laid Dk.1
def cellOf:DataW Unit->List Value
 | .lit (.string bs)=>[.string ⟨bs.toArray⟩]
 | .lit (.int k z)=>[.int k z]
 |_=>[]
def cellsOfData:DataW Unit->Array Value
 | .agg l => (l.flatMap fun
   | .agg m=>m.flatMap cellOf
   |d=>cellOf d).toArray
 | .slice l _=>(l.flatMap cellOf).toArray
 |_=>#[]
noncomputable def laidWorld(os:Os):World:=
 let w0:=World.holding Tryz.prog os ⟨#[],#[],[]⟩
 let xa (c:Array Value) (o:Obj):Obj:=match o with
  | .cells _ t frozen=>.cells c t frozen
  |o=>o
 let n:=w0.heap.size
 {w0 with heap:=(((((((((((((w0.heap.modify 6 (xa (cellsOfData Rows.laid_math_bits_deBruijn32tab))).modify 7 (xa (cellsOfData Rows.laid_math_bits_deBruijn64tab))).modify 4 (xa (cellsOfData Rows.laid_internal_strconv_uint64pow10))).modify 1 (xa #[.iface 167 (.agg #[.pointer (some ⟨8,32,none⟩)])])).modify 2 (xa (cellsOfData Rows.laid_sloppyscope_lex_wordList))).modify 5 (xa #[.slice (some ⟨n,0,none⟩) 1 1,.slice (some ⟨n+1,0,none⟩) 1 1,.slice (some ⟨n+2,0,none⟩) 1 1,.slice (some ⟨n+3,0,none⟩) 1 1,.slice (some ⟨n+4,0,none⟩) 2 2,.slice (some ⟨n+5,0,none⟩) 1 1])).modify 0 (xa #[.iface 241 (.pointer (some ⟨n+6,0,none⟩))])).push (.cells #[.string ⟨#[124,124]⟩] 9 (0,0))).push (.cells #[.string ⟨#[38,38]⟩] 9 (0,0))).push (.cells #[.string ⟨#[61,61,61]⟩] 9 (0,0))).push (.cells #[.string ⟨#[60]⟩] 9 (0,0))).push (.cells #[.string ⟨#[43]⟩,.string ⟨#[45]⟩] 9 (0,0))).push (.cells #[.string ⟨#[42]⟩] 9 (0,0))).push (.cells #[.string ⟨#[115,116,111,112,112,101,100]⟩] 260 (0,0))}
theorem laidWorld_met(os:Os)(args:Array Value):laidMetH Tryz.prog Rows.runStricterRow.laid ((laidWorld os).forCall (λ_ _=>0) ⟨#[],args,[]⟩).memory:=
 laidMetH_of_parts (laidMet_of_run' 8 (by kernel_rfl) (by kernel_rfl)) (by kernel_rfl)
theorem lifted(os:Os)(kw:os.Started)(H:Type)(enc:TypeId×Value->H) :
 ReturnsInHanded {} Tryz.checked os 3 .any (λw args=>(Rows.runStricterSpec.pre enc Tryz.prog Tryz.f3 [] false w args/\laidMetH Tryz.prog Rows.runStricterRow.laid w)/\sizedMet enc Tryz.prog Tryz.f3 (OpenSpec.ofChange Rows.runStricterSpec) false w args)
  (Rows.runStricterSpec.post enc Tryz.prog Tryz.f3 false true false false):=by
 refine returnsInHanded_of_change_and (C:=Tryz.checked) (X:=λw _=>laidMetH Tryz.prog Rows.runStricterRow.laid w) (λ_ _ _ hh h=>h.of_heap hh) own kw (by kernel_rfl) Tryz.func3
  (ChangeSpec.witness_shaped (enc:=enc) (C:=Tryz.checked) (os:=os) (X:=λw _=>laidMetH Tryz.prog Rows.runStricterRow.laid w) false (laidWorld os) #[.string ByteArray.empty] 8 rfl (World.shaped_of_RefB (by kernel_rfl) (by kernel_rfl)) (by kernel_rfl) (by kernel_rfl) (by kernel_rfl) (laidWorld_met os _)) ?_
 intro W base args ds gs Hh uB hW _ _ hL _;have oh:∀(j:Nat) t v,Tryz.f3.params[j]?=some t->args[j]?=some v->Value.okWide Tryz.prog W .any base t v:=uB;have KV:=hW;obtain⟨p,q,KW,hV,rfl,bu,dH⟩:=hW;have hA:DataW.TrodAll enc Tryz.prog W 0 (λ_=>true) true Tryz.f3.params.toList args.toList ds p:=KW;rw[Tryz.params3]at hA oh;obtain⟨v0,Pv,d0,Pw,p0,q0,nG,rfl,rfl,h0,r0⟩:=trodAll_cons hA;obtain⟨rfl,rfl,rfl⟩:=trodAll_nil r0;obtain rfl:args=#[v0]:=by cases args;simp_all
 obtain⟨rfl,rfl⟩:=trodVars_none hV;obtain⟨a0,rfl,rfl,rfl,w0⟩:=open_string Tryz.underlying9 (oh 0 9 v0 rfl rfl) h0;clear KW uB;simp only[List.append_nil]at KV;obtain⟨q1,q2,q5,q6,eb,q7⟩:=words_of_laid hL;refine(Zb7 W a0 eb ⟨q7,q6,q1,q2,q5⟩).mono λe W' ⟨he,bel⟩=>?_;subst he;exact⟨_,rfl,_,_,_,[],_,[],KV,trodAll_mk1 (shut_bool Tryz.underlying4 _),(trodAll_cons_mk (shut_string Tryz.underlying9 w0) trodAll_mk0),rfl,bel.frame _,λh=>by cases h⟩
theorem over:Rows.RunStricterSaid:=
 OpenClaim.holds_of_wide 3 Tryz.f3 rfl rfl rfl rfl rfl rfl rfl ⟨rfl,rfl,rfl,rfl,rfl⟩ rfl rfl rfl rfl rfl (by kernel_rfl) Tryz.func3 (by kernel_rfl)
  (of_decide_eq_true (by kernel_rfl)) (by unfold Func.isWrapper;rw[if_neg (of_decide_eq_false (by kernel_rfl))];exact⟨rfl,rfl⟩)
  (λos kw H enc _=>lifted os kw H enc)
theorem proved:Rows.RunStricterCardSaid:=
 Claim7.holds_tied_plain_at .later [] [.data,.data,.data,.handle,.widerDeep,.data,.sentinel] true (true, "0af22f56da0f3913b1bb5a8c054bb635f9ce36d454700ec5cc8d439b55b8e7d1") true
  over (λ_ h=>by cases h) (by kernel_rfl) (λ_ h=>by cases h) runStricter_row_tie rfl ⟨rfl,rfl⟩ (by kernel_rfl) rfl
  (fun f fn hf ot => by
   obtain rfl:f=3:=Option.some.inj ((show Tryz.prog.funcNamed "sloppyscope/sloppykeep.RunStricter" =some 3 by kernel_rfl).symm.trans hf)|>.symm
   obtain rfl:fn=Tryz.f3:=(Option.some.inj (Tryz.func3.symm.trans ot)).symm;exact⟨by kernel_rfl,λj t ht=>by
    rw[Tryz.params3]at ht;have h3:t=9:=by
     rcases j with _|j;·simpa using ht.symm
     .simp at ht
    subst h3;exact(show Tryz.prog.wantsStandIn 9=false by kernel_rfl)⟩)
  (by kernel_rfl)
#print axioms proved
end Go.Proofs.YtkebnpemgkjpkaaGreatDoor.runStricter
