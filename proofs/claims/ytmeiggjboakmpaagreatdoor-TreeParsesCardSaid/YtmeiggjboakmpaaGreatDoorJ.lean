import Derived.Test.YtmeiggjboakmpaaGreatDoorJ29
import Derived.Test.YtmeiggjboakmpaaGreatDoorTie
import Derived.Test.YtmeiggjboakmpaaGreatDoorCards
import Derived.Stop.LaidErr
import Derived.ProofKit
import Derived.OpenShut
import Derived.ShutString
import Derived.ChangeOld
import Derived.Below
import Derived.ChangeSame
import Derived.ChangeVars
import Derived.JoinedOf
import Derived.RowKit
import Derived.LaidLaws
import Derived.LaidHandle
import Derived.SevenTiedAt
namespace Go.Proofs.YtmeiggjboakmpaaGreatDoor.treeParses
open Go.ChangeShapes Go.WideShapes Go.ChangeAt Go.RowKit
open Go.ChangeMaps (open_string shut_string)
set_option linter.unusedVariables false
set_option maxRecDepth 100000
theorem own:ownKnob Tryz.prog.godebug=none:=by kernel_rfl
theorem gw:Tryz.prog.globalNamed "sloppyscope/lex.wordList"=some 3:=by kernel_rfl
theorem tw:(Tryz.prog.globals[3]?).map (·.type)=some 110:=by kernel_rfl
def wB:List (List UInt8):=match (Rows.laid_sloppyscope_lex_wordList:DataW Unit) with
 | .agg l => l.map fun
   | .lit (.string bs)=>bs
   | _=>[]
 | _=>[]
theorem words_laid:(Rows.laid_sloppyscope_lex_wordList:DataW Unit)=.agg (wB.map fun b=>.lit (.string b)):=by kernel_rfl
theorem words_get (j:Nat) (hj:j < 19):∃ b,wB[j]?=some b∧Z55.getD j ByteArray.empty=⟨b.toArray⟩:=by
 have h:Z55=wB.map fun b=>(⟨b.toArray⟩:ByteArray):=by kernel_rfl
 have hl:wB.length=19:=by kernel_rfl
 have hg:wB[j]?=some wB[j]:=List.getElem?_eq_getElem (by omega);exact ⟨_,hg,by rw [h,List.getD_eq_getElem?_getD,List.getElem?_map,hg]; rfl⟩
theorem gr:Tryz.prog.globalNamed "sloppyscope/sloppyref.words"=some 2:=by kernel_rfl
theorem tr:(Tryz.prog.globals[2]?).map (·.type)=some 76:=by kernel_rfl
theorem rwl:(Rows.laid_sloppyscope_sloppyref_words:DataW Unit)=.slice (wB.map fun b=>.lit (.string b)) []:=by kernel_rfl
theorem gf:Tryz.prog.globalNamed "sloppyscope/sloppyref.Fine"=some 0:=by kernel_rfl
theorem tf:(Tryz.prog.globals[0]?).map (·.type)=some 25:=by kernel_rfl
theorem gl:Tryz.prog.globalNamed "sloppyscope/tree.levels"=some 9:=by kernel_rfl
theorem tl:(Tryz.prog.globals[9]?).map (·.type)=some 189:=by kernel_rfl
def lB:List (List (List UInt8)):=match (Rows.laid_sloppyscope_tree_levels:DataW Unit) with
 | .agg l => l.map fun
   | .slice m _ => m.map fun
     | .lit (.string bs)=>bs
     | _=>[]
   | _=>[]
 | _=>[]
theorem levels_laid:(Rows.laid_sloppyscope_tree_levels:DataW Unit)=.agg (lB.map fun r=>.slice (r.map fun b=>.lit (.string b)) []):=by kernel_rfl
theorem levels_get (lv:Nat) (h:lv < 6):∃ r,lB[lv]?=some r∧0 < r.length∧levL lv=r.map fun b=>(⟨b.toArray⟩:ByteArray):=by
 match lv,h with
 | 0,_=>exact ⟨_,rfl,by decide,by kernel_rfl⟩
 | 1,_=>exact ⟨_,rfl,by decide,by kernel_rfl⟩
 | 2,_=>exact ⟨_,rfl,by decide,by kernel_rfl⟩
 | 3,_=>exact ⟨_,rfl,by decide,by kernel_rfl⟩
 | 4,_=>exact ⟨_,rfl,by decide,by kernel_rfl⟩
 | 5,_=>exact ⟨_,rfl,by decide,by kernel_rfl⟩
theorem fine_of_head {W : World} {rest : List (String × DataW Unit)} (h : laidMet Tryz.prog (("sloppyscope/sloppyref.Fine", Rows.laid_sloppyscope_sloppyref_Fine) :: rest) W) :
 W.cell? ⟨0,0,none⟩=some (.int .i64 0)∧W.cell? ⟨0,1,none⟩=some (.int .i64 (-1)):=by
 obtain ⟨ps,⟨g',t',cs,fuel,p,q,hg',ht',hvar,hd',_,_⟩,_⟩:=h;obtain rfl:=Option.some.inj (gf.symm.trans hg');obtain rfl:=Option.some.inj (tf.symm.trans ht');obtain ⟨y0,y1,n,hx,hlen,h0,h1⟩:=trod_struct2 Tryz.underlying25 hd';obtain ⟨m0,c0,e0,_⟩:=DataW.trod_int Tryz.underlying23 h0;obtain ⟨m1,c1,e1,_⟩:=DataW.trod_int Tryz.underlying3 h1;rw [e0,e1] at hx;have hx0:Rows.laid_sloppyscope_sloppyref_Fine=(.agg [.lit (.int .i64 m0),.lit (.int .i64 m1)]:DataW Unit):=congrArg Prod.fst hx
 simp only [Rows.laid_sloppyscope_sloppyref_Fine,DataW.agg.injEq,List.cons.injEq,DataW.lit.injEq,Lit.int.injEq,true_and,and_true] at hx0;obtain ⟨rfl,rfl⟩:=hx0;have d0:cs[0]?=some (.int .i64 0):=by
  have:=congrArg (·[0]?) c0;simp [List.getElem?_take] at this;exact this.2
 have d1:cs[1]?=some (.int .i64 (-1)):=by
  have:=congrArg (·[0]?) c1;simp [List.getElem?_take] at this;exact this.2
 exact ⟨(World.var?_cell gf hvar 0).trans d0,(World.var?_cell gf hvar 1).trans d1⟩
theorem et : Tryz.prog.globalNamed "errors.errorType" = some 5 := by kernel_rfl
theorem rt : (Tryz.prog.cutTypes.find? (·.1 == "internal/reflectlite.rtype")).map (·.2) = some 155 := by kernel_rfl
theorem oneRow:((List.range 289).filter fun t=>Tryz.prog.rowNamed t [101,114,114,111,114])=[29]:=by kernel_rfl
theorem size:Tryz.prog.types.size=289:=by kernel_rfl
theorem gp:Tryz.prog.globalNamed "internal/strconv.uint64pow10"=some 10:=by kernel_rfl
theorem gs:Tryz.prog.globalNamed "sloppyscope/tree.signs"=some 4:=by kernel_rfl
theorem ts:(Tryz.prog.globals[4]?).map (·.type)=some 101:=by kernel_rfl
theorem gh:Tryz.prog.globalNamed "sloppyscope/tree.heads"=some 1:=by kernel_rfl
theorem th:(Tryz.prog.globals[1]?).map (·.type)=some 101:=by kernel_rfl
def strsB (d:DataW Unit):List (List UInt8):=match d with
 | .agg l => l.map fun
   | .lit (.string bs)=>bs
   | _=>[]
 | _=>[]
theorem signs_laid:(Rows.laid_sloppyscope_tree_signs:DataW Unit)=.agg ((strsB Rows.laid_sloppyscope_tree_signs).map fun b=>.lit (.string b)):=by kernel_rfl
theorem heads_laid:(Rows.laid_sloppyscope_tree_heads:DataW Unit)=.agg ((strsB Rows.laid_sloppyscope_tree_heads).map fun b=>.lit (.string b)):=by kernel_rfl
theorem signs_bytes:Ziu=(strsB Rows.laid_sloppyscope_tree_signs).map fun b=>(⟨b.toArray⟩:ByteArray):=by kernel_rfl
theorem heads_bytes:hdsL=(strsB Rows.laid_sloppyscope_tree_heads).map fun b=>(⟨b.toArray⟩:ByteArray):=by kernel_rfl
theorem tabs_of_laid {W : World} (h' : laidMet Tryz.prog [("math/bits.deBruijn32tab", Rows.laid_math_bits_deBruijn32tab), ("math/bits.deBruijn64tab", Rows.laid_math_bits_deBruijn64tab), ("internal/strconv.uint64pow10", Rows.laid_internal_strconv_uint64pow10), ("strconv.ErrRange", Rows.laid_strconv_ErrRange), ("strconv.ErrSyntax", Rows.laid_strconv_ErrSyntax), ("sloppyscope/lex.wordList", Rows.laid_sloppyscope_lex_wordList), ("sloppyscope/sloppyref.Fine", Rows.laid_sloppyscope_sloppyref_Fine), ("sloppyscope/sloppyref.words", Rows.laid_sloppyscope_sloppyref_words), ("sloppyscope/tree.levels", Rows.laid_sloppyscope_tree_levels), ("sloppyscope/tree.signs", Rows.laid_sloppyscope_tree_signs), ("sloppyscope/tree.heads", Rows.laid_sloppyscope_tree_heads)] W) : Tabs W := by
 refine ⟨?_,fun j s hs=>?_,fun j s hs=>?_⟩
 ·have h2 : laidMet Tryz.prog (("internal/strconv.uint64pow10", Lib.tabData .u64 Lib.pow10Tab) :: [("strconv.ErrRange", Rows.laid_strconv_ErrRange), ("strconv.ErrSyntax", Rows.laid_strconv_ErrSyntax), ("sloppyscope/lex.wordList", Rows.laid_sloppyscope_lex_wordList), ("sloppyscope/sloppyref.Fine", Rows.laid_sloppyscope_sloppyref_Fine), ("sloppyscope/sloppyref.words", Rows.laid_sloppyscope_sloppyref_words), ("sloppyscope/tree.levels", Rows.laid_sloppyscope_tree_levels), ("sloppyscope/tree.signs", Rows.laid_sloppyscope_tree_signs), ("sloppyscope/tree.heads", Rows.laid_sloppyscope_tree_heads)]) W := (h'.tail.tail)
  exact Lib.tabIs_of_head (g:=10) (t:=199) (e:=147) (n:=20) gp (by kernel_rfl) Tryz.underlying199 Tryz.underlying147 (by kernel_rfl) (by kernel_rfl) h2
 ·rw [signs_bytes,List.getElem?_map] at hs;obtain ⟨b,hb,rfl⟩:=Option.map_eq_some_iff.1 hs;exact Z5v gs ts Tryz.underlying101 Tryz.underlying9 (by kernel_rfl) (by kernel_rfl) signs_laid (h'.tail.tail.tail.tail.tail.tail.tail.tail.tail) j b hb
 ·rw [heads_bytes,List.getElem?_map] at hs;obtain ⟨b,hb,rfl⟩:=Option.map_eq_some_iff.1 hs;exact Z5v gh th Tryz.underlying101 Tryz.underlying9 (by kernel_rfl) (by kernel_rfl) heads_laid (h'.tail.tail.tail.tail.tail.tail.tail.tail.tail.tail) j b hb
theorem words_of_laid {W:World} (h:laidMetH Tryz.prog Rows.treeParsesRow.laid W):Words W∧Z52 W W.heap.size∧Z7k W∧Z7e W∧Z3z W∧Tabs W:=by
 have hh' : laidMet Tryz.prog [("math/bits.deBruijn32tab", Rows.laid_math_bits_deBruijn32tab), ("math/bits.deBruijn64tab", Rows.laid_math_bits_deBruijn64tab), ("internal/strconv.uint64pow10", Rows.laid_internal_strconv_uint64pow10), ("strconv.ErrRange", Rows.laid_strconv_ErrRange), ("strconv.ErrSyntax", Rows.laid_strconv_ErrSyntax), ("sloppyscope/lex.wordList", Rows.laid_sloppyscope_lex_wordList), ("sloppyscope/sloppyref.Fine", Rows.laid_sloppyscope_sloppyref_Fine), ("sloppyscope/sloppyref.words", Rows.laid_sloppyscope_sloppyref_words), ("sloppyscope/tree.levels", Rows.laid_sloppyscope_tree_levels), ("sloppyscope/tree.signs", Rows.laid_sloppyscope_tree_signs), ("sloppyscope/tree.heads", Rows.laid_sloppyscope_tree_heads)] W ∧ handlesMet Tryz.prog [("errors.errorType", Rows.laid_errors_errorType)] W := h
 have hlt:∀ {p:Addr} {v:Value},W.cell? p=some v→p.block < W.heap.size:=fun {p v} hc=>by
  unfold World.cell? at hc;split at hc
  ·rename_i hb;exact (Array.getElem?_eq_some_iff.1 hb).1
  ·cases hc
 refine ⟨fun j hj=>?_,fun lv hlv=>?_,?_,?_,?_,?_⟩
 ·obtain ⟨b,hb,hw⟩:=words_get j hj;rw [hw];exact Z5v gw tw Tryz.underlying110 Tryz.underlying9 (by kernel_rfl) (by kernel_rfl) words_laid (hh'.1.tail.tail.tail.tail.tail) j b hb
 ·obtain ⟨r, hr, hpos, hl⟩ := levels_get lv hlv;obtain ⟨b, off, cap, h1, h2, h3⟩ := Z9n gl tl Tryz.underlying189 Tryz.underlying76 Tryz.underlying9 (by kernel_rfl) (by kernel_rfl) (by kernel_rfl) levels_laid (hh'.1.tail.tail.tail.tail.tail.tail.tail) lv r hr hpos;refine ⟨b, off, cap, hlt h1, ?_, by rw [hl, List.length_map]; exact h1, by rw [hl, List.length_map]; exact h2, fun i x hx => ?_⟩
  ·obtain ⟨x, hx⟩ : ∃ x, r[0]? = some x := ⟨r[0], List.getElem?_eq_getElem hpos⟩
   exact hlt (h3 0 x hx)
  ·rw [hl,List.getElem?_map] at hx;obtain ⟨y,hy,rfl⟩:=Option.map_eq_some_iff.1 hx;exact h3 i y hy
 ·have hl : Z55 = wB.map fun b => (⟨b.toArray⟩ : ByteArray) := by kernel_rfl
  have hn:wB.length=19:=by kernel_rfl
  obtain ⟨b,off,cap,h1,_,h3⟩:=Zcr gr tr Tryz.underlying76 Tryz.underlying9 (by kernel_rfl) rwl (by omega) (hh'.1.tail.tail.tail.tail.tail.tail.tail);refine ⟨b,off,cap,by rw [hl,List.length_map]; exact h1,fun i x hx=>?_⟩;rw [hl,List.getElem?_map] at hx;obtain ⟨y,hy,rfl⟩:=Option.map_eq_some_iff.1 hx;exact h3 i y hy
 ·obtain ⟨f0,f1⟩:=fine_of_head (hh'.1.tail.tail.tail.tail.tail.tail);exact ⟨f0,f1,hlt f0⟩
 ·obtain ⟨name, u, ty, e1, e2, e3, e4, e5⟩ := hh'.2 _ (List.mem_singleton.2 rfl);have en : name = [101, 114, 114, 111, 114] := (Option.some.inj e1).symm;subst en;obtain rfl := Option.some.inj (rt.symm.trans e2);have hm : ty ∈ (List.range 289).filter fun t => Tryz.prog.rowNamed t [101, 114, 114, 111, 114] := List.mem_filter.2 ⟨List.mem_range.2 (by rw [← size]; exact e3), e4⟩;rw [oneRow] at hm;obtain rfl := List.mem_singleton.1 hm;have hh : typeHandle Tryz.prog 29 = .pointer (some ⟨13, 29, none⟩) := by kernel_rfl
  rw [hh] at e5;exact World.var?_cell et e5 0
 ·exact tabs_of_laid hh'.1
def cellOf:DataW Unit→List Value
 | .lit (.string bs)=>[.string ⟨bs.toArray⟩]
 | .lit (.int k z)=>[.int k z]
 | _=>[]
def cellsOfData:DataW Unit→Array Value
 | .agg l => (l.flatMap fun
   | .agg m=>m.flatMap cellOf
   | d=>cellOf d).toArray
 | .slice l _=>(l.flatMap cellOf).toArray
 | _=>#[]
noncomputable def laidWorld (os:Os):World:=
 let w0:=World.holding Tryz.prog os ⟨#[],#[],[]⟩
 let lay (c:Array Value) (o:Obj):Obj:=match o with
  | .cells _ t frozen=>.cells c t frozen
  | o=>o
 let n:=w0.heap.size
 { w0 with heap:=((((((((((((((((((((w0.heap.modify 11 (lay (cellsOfData Rows.laid_math_bits_deBruijn32tab))).modify 12 (lay (cellsOfData Rows.laid_math_bits_deBruijn64tab))).modify 10 (lay (cellsOfData Rows.laid_internal_strconv_uint64pow10))).modify 5 (lay #[.iface 155 (.agg #[.pointer (some ⟨13,29,none⟩)])])).modify 7 (lay #[.iface 186 (.pointer (some ⟨n,0,none⟩))])).modify 6 (lay #[.iface 186 (.pointer (some ⟨n + 1,0,none⟩))])).modify 3 (lay (cellsOfData Rows.laid_sloppyscope_lex_wordList))).modify 0 (lay #[.int .i64 0,.int .i64 (-1)])).modify 2 (lay #[.slice (some ⟨n + 2,0,none⟩) 19 19])).modify 9 (lay #[.slice (some ⟨n + 3,0,none⟩) 1 1,.slice (some ⟨n + 4,0,none⟩) 1 1,.slice (some ⟨n + 5,0,none⟩) 1 1,.slice (some ⟨n + 6,0,none⟩) 1 1,.slice (some ⟨n + 7,0,none⟩) 2 2,.slice (some ⟨n + 8,0,none⟩) 1 1])).modify 4 (lay (cellsOfData Rows.laid_sloppyscope_tree_signs))).modify 1 (lay (cellsOfData Rows.laid_sloppyscope_tree_heads))).push (.cells #[.string ⟨#[118,97,108,117,101,32,111,117,116,32,111,102,32,114,97,110,103,101]⟩] 188 (0,0))).push (.cells #[.string ⟨#[105,110,118,97,108,105,100,32,115,121,110,116,97,120]⟩] 188 (0,0))).push (.cells (cellsOfData Rows.laid_sloppyscope_sloppyref_words) 9 (0,0))).push (.cells #[.string ⟨#[124,124]⟩] 9 (0,0))).push (.cells #[.string ⟨#[38,38]⟩] 9 (0,0))).push (.cells #[.string ⟨#[61,61,61]⟩] 9 (0,0))).push (.cells #[.string ⟨#[60]⟩] 9 (0,0))).push (.cells #[.string ⟨#[43]⟩,.string ⟨#[45]⟩] 9 (0,0))).push (.cells #[.string ⟨#[42]⟩] 9 (0,0)) }
theorem laidWorld_met (os:Os) (args:Array Value):laidMetH Tryz.prog Rows.treeParsesRow.laid ((laidWorld os).forCall (fun _ _=>0) ⟨#[],args,[]⟩).memory:=
 laidMetH_of_parts (laidMet_of_run' 8 (by kernel_rfl) (by kernel_rfl)) (by kernel_rfl)
theorem lifted (os:Os) (started:os.Started) (H:Type) (enc:TypeId×Value→H) :
 ReturnsInHanded {} Tryz.checked os 3 .any (fun w args=>(Rows.treeParsesSpec.pre enc Tryz.prog Tryz.f3 [] false w args∧laidMetH Tryz.prog Rows.treeParsesRow.laid w)∧sizedMet enc Tryz.prog Tryz.f3 (OpenSpec.ofChange Rows.treeParsesSpec) false w args)
  (Rows.treeParsesSpec.post enc Tryz.prog Tryz.f3 false true false false):=by
 refine returnsInHanded_of_change_and (C:=Tryz.checked) (X:=fun w _=>laidMetH Tryz.prog Rows.treeParsesRow.laid w) (fun _ _ _ hh h=>h.of_heap hh) own started (by kernel_rfl) Tryz.func3
  (ChangeSpec.witness_shaped (enc:=enc) (C:=Tryz.checked) (os:=os) (X:=fun w _=>laidMetH Tryz.prog Rows.treeParsesRow.laid w) false (laidWorld os) #[.string ByteArray.empty] 8 rfl (World.shaped_of_RefB (by kernel_rfl) (by kernel_rfl)) (by kernel_rfl) (by kernel_rfl) (by kernel_rfl) (laidWorld_met os _)) ?_
 intro W base args ds gs before hval0 hW _ _ hL _;have hval:∀ (j:Nat) t v,Tryz.f3.params[j]?=some t→args[j]?=some v→Value.okWide Tryz.prog W .any base t v:=hval0;have hW':=hW;obtain ⟨p,q,hA0,hV,rfl,hfz,hnd⟩:=hW;have hA:DataW.TrodAll enc Tryz.prog W 0 (fun _=>true) true Tryz.f3.params.toList args.toList ds p:=hA0;rw [Tryz.params3] at hA hval;obtain ⟨v0,vs0,d0,ds0,p0,q0,hargs,rfl,rfl,h0,r0⟩:=trodAll_cons hA;obtain ⟨rfl,rfl,rfl⟩:=trodAll_nil r0;obtain rfl:args=#[v0]:=by cases args; simp_all
 obtain ⟨rfl,rfl⟩:=trodVars_none hV;obtain ⟨a0,rfl,rfl,rfl,w0⟩:=open_string Tryz.underlying9 (hval 0 9 v0 rfl rfl) h0;clear hA0 hval0;simp only [List.append_nil] at hW';obtain ⟨q1,q2,q3,q4,q5,q6⟩:=words_of_laid hL;refine (Z9s W a0 q1 q2 q3 q4 q5 q6).mono fun e W' ⟨he,bel⟩=>?_;subst he;exact ⟨_,rfl,_,_,_,[],_,[],hW',trodAll_mk1 (shut_bool Tryz.underlying4 _),(trodAll_cons_mk (shut_string Tryz.underlying9 w0) trodAll_mk0),rfl,bel.frame _,fun h=>by cases h⟩
theorem over:Rows.TreeParsesSaid:=
 OpenClaim.holds_of_wide 3 Tryz.f3 rfl rfl rfl rfl rfl rfl rfl ⟨rfl,rfl,rfl,rfl,rfl⟩ rfl rfl rfl rfl rfl (by kernel_rfl) Tryz.func3 (by kernel_rfl)
  (of_decide_eq_true (by kernel_rfl)) (by unfold Func.isWrapper; rw [if_neg (of_decide_eq_false (by kernel_rfl))]; exact ⟨rfl,rfl⟩)
  (fun os started H enc _=>lifted os started H enc)
theorem proved:Rows.TreeParsesCardSaid:=
 Claim7.holds_tied_plain_at .later [] [.data, .data, .data, .handle, .sentinel, .sentinel, .widerDeep, .data, .widerDeep, .data, .data, .data] true (true, "e52a90c477cdecef45e0c532c7309ec3068483d7c774c1c09b28346e08bc0a22") true
  over (fun _ h=>by cases h) (by kernel_rfl) (fun _ h=>by cases h) treeParses_row_tie rfl ⟨rfl,rfl⟩ (by kernel_rfl) rfl
  (fun f fn hf hfn => by
   obtain rfl : f = 3 := Option.some.inj ((show Tryz.prog.funcNamed "sloppyscope/sloppylaw.TreeParses" = some 3 by kernel_rfl).symm.trans hf) |>.symm
   obtain rfl:fn=Tryz.f3:=(Option.some.inj (Tryz.func3.symm.trans hfn)).symm;exact ⟨by kernel_rfl,fun j t ht=>by
    rw [Tryz.params3] at ht;have h3:t=9:=by
     rcases j with _ | j;·simpa using ht.symm
     ·simp at ht
    subst h3;exact (show Tryz.prog.wantsStandIn 9=false by kernel_rfl)⟩)
  (by kernel_rfl)
#print axioms proved
end Go.Proofs.YtmeiggjboakmpaaGreatDoor.treeParses
