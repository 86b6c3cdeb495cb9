/- Spans are computed as the document says, whatever the order of their ends is. No conditions. -/
import Derived.Test.YtpgdefgdboijlaaGreatDoorVc
import Derived.Test.YtpgdefgdboijlaaGreatDoorLd
set_option linter.unusedVariables false
set_option maxRecDepth 100000
set_option maxHeartbeats 16000000
namespace Go.Proofs.YtpgdefgdboijlaaGreatDoor.valueSpans
open Go.ChangeShapes Go.WideShapes Go.ChangeAt Go.RowKit
open Go.ChangeMaps (open_string shut_string)
theorem own:ownKnob Tryz.prog.godebug=none:=by kernel_rfl
theorem tab {W:World} (h:laidMetH Tryz.prog Rows.valueSpansRow.laid W):Tab W:=
 tab_of h (by kernel_rfl) (by simp [Rows.valueSpansRow]) (by simp [Rows.valueSpansRow])
theorem four_fields:∃f0 f1 f2 f3:Field,Tryz.prog.underlying 83=some (.struct #[f0,f1,f2,f3])∧(f0.type=44∧f0.offset=0)∧(f1.type=44∧f1.offset=1)∧(f2.type=44∧f2.offset=2)∧(f3.type=44∧f3.offset=3):=
 ⟨_,_,_,_,Tryz.underlying83,⟨rfl,rfl⟩,⟨rfl,rfl⟩,⟨rfl,rfl⟩,⟨rfl,rfl⟩⟩
theorem four_cells:Tryz.prog.cellsOf 83=4:=by kernel_rfl
theorem val_cells:Tryz.prog.cellsOf 44=1:=by kernel_rfl
section
variable {H:Type} {enc:TypeId × Value→H} {w:World} {base:Nat} {sp:Nat→Bool} {held:Bool}
theorem open_four {r:Reach} {b0:Nat} {v:Value} {d:DataW H} {ps:List MemPlace} (hval:Value.okWide Tryz.prog w r b0 83 v) (hd:DataW.Trod enc Tryz.prog w base sp held 83 v d ps):∃sa sb sc sd:ByteArray,v=.agg #[.string sa,.string sb,.string sc,.string sd]∧d=.agg [.lit (.string sa.data.toList),.lit (.string sb.data.toList),.lit (.string sc.data.toList),.lit (.string sd.data.toList)]∧ps=[]∧sa.size≤maxLen∧sb.size≤maxLen∧sc.size≤maxLen∧sd.size≤maxLen:=by
 obtain⟨f0,f1,f2,f3,ht,⟨t0,o0⟩,⟨t1,o1⟩,⟨t2,o2⟩,⟨t3,o3⟩⟩:=four_fields;obtain⟨cs,rfl,hs⟩:=okWide_struct ht hval;rw [four_cells] at hs
 obtain⟨a,b,c,e,rfl⟩:∃a b c e:Value,cs=#[a,b,c,e]:=by
  obtain⟨l⟩:=cs;have hl:l.length=4:=hs;clear hs hval hd
  rcases l with _|⟨a,_|⟨b,_|⟨c,_|⟨e,_|⟨g,l⟩⟩⟩⟩⟩
  ·simp at hl
  ·simp at hl
  ·simp at hl
  ·simp at hl
  ·exact⟨a,b,c,e,rfl⟩
  ·simp at hl
 obtain⟨fuel,hf⟩:=hd;obtain⟨xs,n,-,hx,-,hlen,hfs⟩:=DataW.trod_struct ht hf;have g0:=hfs 0 f0 rfl;have g1:=hfs 1 f1 rfl;have g2:=hfs 2 f2 rfl;have g3:=hfs 3 f3 rfl;rw [t0,o0,val_cells] at g0;rw [t1,o1,val_cells] at g1;rw [t2,o2,val_cells] at g2;rw [t3,o3,val_cells] at g3
 obtain⟨x0,x1,x2,x3,rfl⟩:∃x0 x1 x2 x3:DataW H × List MemPlace,xs=[x0,x1,x2,x3]:=by
  have hl:xs.length=4:=hlen;clear hlen hfs g0 g1 g2 g3 hx
  rcases xs with _|⟨a,_|⟨b,_|⟨c,_|⟨e,_|⟨g,l⟩⟩⟩⟩⟩
  ·simp at hl
  ·simp at hl
  ·simp at hl
  ·simp at hl
  ·exact⟨a,b,c,e,rfl⟩
  ·simp at hl
 obtain⟨sa,ea,rfl,ma⟩:=DataW.trod_string Tryz.underlying44 g0;obtain⟨sb,eb,rfl,mb⟩:=DataW.trod_string Tryz.underlying44 g1;obtain⟨sc,ec,rfl,mc⟩:=DataW.trod_string Tryz.underlying44 g2;obtain⟨sd,ed,rfl,md⟩:=DataW.trod_string Tryz.underlying44 g3
 simp [Value.cells] at ea eb ec ed
 subst ea eb ec ed
 simp at hx
 exact⟨sa,sb,sc,sd,rfl,hx.1,hx.2,ma,mb,mc,md⟩
theorem shut_four {sa sb sc sd:ByteArray} (ma:sa.size≤maxLen) (mb:sb.size≤maxLen) (mc:sc.size≤maxLen) (md:sd.size≤maxLen):DataW.Trod enc Tryz.prog w base sp held 83 (.agg #[.string sa,.string sb,.string sc,.string sd]) (.agg [.lit (.string sa.data.toList),.lit (.string sb.data.toList),.lit (.string sc.data.toList),.lit (.string sd.data.toList)]) []:=by
 obtain⟨f0,f1,f2,f3,ht,⟨t0,o0⟩,⟨t1,o1⟩,⟨t2,o2⟩,⟨t3,o3⟩⟩:=four_fields
 have hs:∀s:ByteArray,s.size≤maxLen→DataW.trod enc Tryz.prog w base sp held 1 44 [.string s]=some (.lit (.string s.data.toList),[]):=fun s h=>by
  simp [DataW.trod,Tryz.underlying44,h]
 have h:=trod_struct_mk (enc:=enc) (w:=w) (base:=base) (spare:=sp) (held:=held) (n:=1) (cs:=[.string sa,.string sb,.string sc,.string sd]) (xs:=[(.lit (.string sa.data.toList),[]),(.lit (.string sb.data.toList),[]),(.lit (.string sc.data.toList),[]),(.lit (.string sd.data.toList),[])]) ht (by rw [four_cells];rfl) (by simp [t0,t1,t2,t3,o0,o1,o2,o3,val_cells,hs sa ma,hs sb mb,hs sc mc,hs sd md]);exact⟨2,by simpa [Value.cells] using h⟩
end
theorem contract (H:Type) (enc:TypeId × Value→H) (W:World) (base:Nat) (args:Array Value) (ds gs:List (DataW H)) (before:List MemPlace) (hval:∀(j:Nat) t v,Tryz.f15.params[j]?=some t→args[j]?=some v→Value.okWide Tryz.prog W .any base t v) (hW:DataW.Whole enc Tryz.prog Tryz.f15.params.toList Rows.valueSpansSpec.vars false W args.toList ds gs before) (hL:laidMetH Tryz.prog Rows.valueSpansRow.laid W):Calls Tryz.prog 15 args W fun e W'=>∃v,e=.returned v∧Rows.valueSpansSpec.post enc Tryz.prog Tryz.f15 false true false false W args v W':=by
 have hW':=hW;obtain⟨p,q,hA0,hV,rfl,hfz,hnd⟩:=hW;have hA:DataW.TrodAll enc Tryz.prog W 0 (fun _=>true) true Tryz.f15.params.toList args.toList ds p:=hA0;rw [Tryz.params15] at hA hval;obtain⟨v0,vs0,d0,ds0,p0,q0,hargs0,rfl,rfl,h0,r0⟩:=trodAll_cons hA;obtain⟨v1,vs1,d1,ds1,p1,q1,hargs1,rfl,rfl,h1,r1⟩:=trodAll_cons r0;obtain⟨v2,vs2,d2,ds2,p2,q2,hargs2,rfl,rfl,h2,r2⟩:=trodAll_cons r1;obtain⟨rfl,rfl,rfl⟩:=trodAll_nil r2;obtain rfl:args=#[v0,v1,v2]:=by cases args;simp_all
 obtain⟨rfl,rfl⟩:=trodVars_none hV;obtain⟨sa,sb,sc,sd,rfl,rfl,rfl,ma,mb,mc,md⟩:=open_four (hval 0 83 v0 rfl rfl) h0;obtain⟨a1,rfl,rfl,rfl,w1⟩:=open_int Tryz.underlying3 (hval 1 3 v1 rfl rfl) h1;obtain⟨a2,rfl,rfl,rfl,w2⟩:=open_int Tryz.underlying3 (hval 2 3 v2 rfl rfl) h2;clear hA0
 simp only [List.append_nil] at hW'
 obtain⟨la,rfl⟩:∃l:List UInt8,sa=⟨l.toArray⟩:=⟨sa.data.toList,by cases sa;simp⟩
 have hba:la.length≤9223372036854775807:=by
  have h:la.length≤maxLen:=by simpa [ByteArray.size] using ma
  have e:maxLen≤9223372036854775807:=by decide
  omega
 obtain⟨lb,rfl⟩:∃l:List UInt8,sb=⟨l.toArray⟩:=⟨sb.data.toList,by cases sb;simp⟩
 have hbb:lb.length≤9223372036854775807:=by
  have h:lb.length≤maxLen:=by simpa [ByteArray.size] using mb
  have e:maxLen≤9223372036854775807:=by decide
  omega
 obtain⟨lc,rfl⟩:∃l:List UInt8,sc=⟨l.toArray⟩:=⟨sc.data.toList,by cases sc;simp⟩
 have hbc:lc.length≤9223372036854775807:=by
  have h:lc.length≤maxLen:=by simpa [ByteArray.size] using mc
  have e:maxLen≤9223372036854775807:=by decide
  omega
 obtain⟨ld,rfl⟩:∃l:List UInt8,sd=⟨l.toArray⟩:=⟨sd.data.toList,by cases sd;simp⟩
 have hbd:ld.length≤9223372036854775807:=by
  have h:ld.length≤maxLen:=by simpa [ByteArray.size] using md
  have e:maxLen≤9223372036854775807:=by decide
  omega
 refine(spans_law la lb lc ld hba hbb hbc hbd a1 a2 _ (show min (max a1 0) 64=(((min (max a1 0) 64).toNat:Nat):Int) by omega) _ rfl W (tab hL)).mono fun e W' ⟨he,hk⟩=>?_;subst he;exact⟨_,rfl,post_ext hW' (fun _ _ _=>trodAll_cons_mk (shut_bool Tryz.underlying4 _) trodAll_mk0) (fun _=>trodAll_cons_mk (shut_four ma mb mc md) (trodAll_cons_mk (shut_int Tryz.underlying3 w1) (trodAll_cons_mk (shut_int Tryz.underlying3 w2) (trodAll_mk0)))) (fun _=>rfl) hk (ok_one (by kernel_rfl) rfl (okWide_bool_mk Tryz.underlying4 _))⟩
theorem laid_met (os:Os):laidMet Tryz.prog Rows.valueSpansRow.laid ((World.laidAll Tryz.prog os Rows.valueSpansRow.laid).forCall (fun _ _=>0) ⟨#[],#[.agg #[.string .empty,.string .empty,.string .empty,.string .empty],.int .i64 0,.int .i64 0],[]⟩).memory:=
 laidMet_laidAll _ (by kernel_rfl) (by kernel_rfl)
theorem reads (os:Os) {H:Type} (enc:TypeId × Value→H):∃places,DataW.whole enc Tryz.prog ((World.laidAll Tryz.prog os Rows.valueSpansRow.laid).forCall (fun _ _=>0) ⟨#[],#[.agg #[.string .empty,.string .empty,.string .empty,.string .empty],.int .i64 0,.int .i64 0],[]⟩).memory Tryz.f15.params.toList Rows.valueSpansSpec.vars false (#[.agg #[.string .empty,.string .empty,.string .empty,.string .empty],.int .i64 0,.int .i64 0]:Array Value).toList 8=some ([.agg [.lit (.string []),.lit (.string []),.lit (.string []),.lit (.string [])],.lit (.int .i64 0),.lit (.int .i64 0)],[],places):=
 ⟨[],by kernel_rfl⟩
theorem lifted (os:Os) (started:os.Started) (H:Type) (enc:TypeId × Value→H) (F:Stop.Interp):ReturnsInHanded {} Tryz.checked os 15 .any ((OpenSpec.ofChange Rows.valueSpansSpec).preRow enc Tryz.prog Tryz.f15 Rows.valueSpansRow.domain false Rows.valueSpansRow.laid) (((OpenSpec.ofChange Rows.valueSpansSpec).at F).post enc Tryz.prog Tryz.f15 false true false false):=by
 obtain⟨places,hx⟩:=reads os enc;refine returnsInHanded_of_row (C:=Tryz.checked) (s:=OpenSpec.ofChange Rows.valueSpansSpec) own started (by kernel_rfl) Tryz.func15 (witness_row_at (enc:=enc) (C:=Tryz.checked) false (World.laidAll Tryz.prog os Rows.valueSpansRow.laid) #[.agg #[.string .empty,.string .empty,.string .empty,.string .empty],.int .i64 0,.int .i64 0] (World.laidAll_os _ _ _) (by kernel_rfl) (by kernel_rfl) (by kernel_rfl) (OpenSpec.preRow_of_cond 8 hx (by kernel_rfl) (fun k hk=>by cases hk) (by kernel_rfl) (laid_met os))) ?_;intro W base args ds gs before hval hW _ _ _ hL _ _;exact contract H enc W base args ds gs before hval hW hL
theorem facts:joinedFacts Tryz.pinned.checked.prog 15 Tryz.f15 (OpenSpec.ofChange Rows.valueSpansSpec).bare Rows.valueSpansRow=true:=by
 unfold joinedFacts
 simp only [Bool.and_eq_true]
 repeat' apply And.intro
 all_goals as_aux_lemma=>kernel_rfl
theorem said:Rows.ValueSpansSaid:=
 OpenClaim.holds_of_cond 15 Tryz.f15 rfl rfl rfl rfl rfl rfl rfl ⟨rfl,rfl,rfl,rfl,rfl⟩ rfl rfl rfl rfl rfl (by kernel_rfl) Tryz.func15 facts (of_decide_eq_true (by kernel_rfl)) (by unfold Func.isWrapper;first|(rw [if_pos (by decide +kernel)];kernel_rfl)|(rw [if_neg (by decide +kernel)];exact⟨rfl,rfl⟩)) (fun os started H enc _ F=>by rw [OpenClaim.pre_eq_preRow];exact lifted os started H enc F)
theorem plain (f:FuncId) (fn:Func) (hf:Tryz.pinned.checked.prog.funcNamed "pentode/pentodelaw01.ValueSpans"=some f) (hfn:Tryz.pinned.checked.prog.funcs[f]?=some fn):false=Tryz.pinned.checked.prog.looks []∧∀(j:Nat) t,fn.params[j]?=some t→Tryz.pinned.checked.prog.wantsStandIn t=false:=by
 obtain rfl:f=15:=Option.some.inj ((show Tryz.prog.funcNamed "pentode/pentodelaw01.ValueSpans"=some 15 by kernel_rfl).symm.trans hf) |>.symm
 obtain rfl:fn=Tryz.f15:=(Option.some.inj (Tryz.func15.symm.trans hfn)).symm;refine⟨by kernel_rfl,fun j t ht=>?_⟩;rw [Tryz.params15] at ht;have hm:=Array.mem_of_getElem? ht;have hm':t=3∨t=83:=by simpa [or_comm,or_assoc,or_left_comm] using hm
 rcases hm' with rfl|rfl
 ·exact(show Tryz.prog.wantsStandIn 3=false by kernel_rfl)
 ·exact(show Tryz.prog.wantsStandIn 83=false by kernel_rfl)
theorem card:Rows.ValueSpansCardSaid:=
 Claim7.holds_tied_plain_at .later [] _ _ _ _ said (fun _ h=>by cases h) (by kernel_rfl) (fun _ h=>by cases h) valueSpans_row_tie rfl ⟨rfl,rfl⟩ (by kernel_rfl) rfl plain (by kernel_rfl)
end Go.Proofs.YtpgdefgdboijlaaGreatDoor.valueSpans
