/- PolyPlaces returns true for all lists and arrays of strings where the tables are laid: counts of a product are sums of counts; a rectangle beyond the bound has all roots. -/
import Derived.Test.YtkoaakefgacokaaGreatDoorGZb
import Derived.Test.YtkoaakefgacokaaGreatDoorGOk
set_option linter.unusedVariables false
set_option maxRecDepth 100000
set_option maxHeartbeats 64000000
namespace Go.Proofs.YtkoaakefgacokaaGreatDoor.polyPlaces
open Go.ChangeShapes Go.WideShapes Go.ChangeAt Go.RowKit
theorem own:ownKnob Tryz.prog.godebug=none:=by kernel_rfl
theorem tab {W:World} (h:laidMetH Tryz.prog Rows.polyPlacesRow.laid W):Tens W:=
 tensP_of h (by kernel_rfl) (by simp [Rows.polyPlacesRow])
theorem contract (H:Type) (enc:TypeId × Value→H) (W:World) (base:Nat) (args:Array Value) (ds gs:List (DataW H)) (before:List MemPlace) (hval:∀(j:Nat) t v,Tryz.f3.params[j]?=some t→args[j]?=some v→Value.okWide Tryz.prog W .any base t v) (hW:DataW.Whole enc Tryz.prog Tryz.f3.params.toList Rows.polyPlacesSpec.vars false W args.toList ds gs before) (hL:laidMetH Tryz.prog Rows.polyPlacesRow.laid W):Calls Tryz.prog 3 args W fun e W'=>∃v,e=.returned v∧Rows.polyPlacesSpec.post enc Tryz.prog Tryz.f3 false true false false W args v W':=by
 have hW':=hW;obtain⟨p,q,hA0,hV,rfl,hfz,hnd⟩:=hW;have hA:DataW.TrodAll enc Tryz.prog W 0 (fun _=>true) true Tryz.f3.params.toList args.toList ds p:=hA0;rw [Tryz.params3] at hA hval;obtain⟨v0,vs0,d0,ds0,p0,q0,hargs0,rfl,rfl,h0,r0⟩:=trodAll_cons hA;obtain⟨v1,vs1,d1,ds1,p1,q1,hargs1,rfl,rfl,h1,r1⟩:=trodAll_cons r0;obtain⟨v2,vs2,d2,ds2,p2,q2,hargs2,rfl,rfl,h2,r2⟩:=trodAll_cons r1;obtain⟨rfl,rfl,rfl⟩:=trodAll_nil r2;obtain rfl:args=#[v0,v1,v2]:=by cases args;simp_all
 obtain⟨rfl,rfl⟩:=trodVars_none hV;obtain⟨l0,hs0,hr0⟩:=open_stl Tryz.underlying22 Tryz.underlying23 (by kernel_rfl) (hval 0 22 v0 rfl rfl) h0;obtain⟨l1,hs1,hr1⟩:=open_stl Tryz.underlying22 Tryz.underlying23 (by kernel_rfl) (hval 1 22 v1 rfl rfl) h1;obtain⟨s2a,s2b,s2c,s2d,rfl,m2a,m2b,m2c,m2d,hr2⟩:=open_four Tryz.underlying24 Tryz.underlying23 (by kernel_rfl) (by kernel_rfl) (hval 2 24 v2 rfl rfl) h2;clear hA0
 simp only [List.append_nil] at hW'
 refine(places_c _ _ l0 l1 s2a s2b s2c s2d W hs0 hs1 m2a m2b m2c m2d (tab hL)).mono fun e W' ⟨he,hk⟩=>?_;subst he;refine⟨_,rfl,post_extP hW' (fun _ _ _=>trodAll_cons_mk (shut_bool Tryz.underlying4 _) trodAll_mk0) (fun sp hp0=>?_) (fun _=>rfl) hk (ok_one (by kernel_rfl) rfl (okWide_bool_mk Tryz.underlying4 _))⟩;have h:=trodAll_cons_mk (hr0 W' hk sp (fun p hp=>hp0 p (by simp [hp]))) (trodAll_cons_mk (hr1 W' hk sp (fun p hp=>hp0 p (by simp [hp]))) (trodAll_cons_mk (hr2 W' sp) (trodAll_mk0)))
 simp only [List.append_nil] at h
 simp only [List.append_nil]
 exact h
theorem laid_met (os:Os):laidMet Tryz.prog Rows.polyPlacesRow.laid ((World.laidAll Tryz.prog os Rows.polyPlacesRow.laid).forCall (fun _ _=>0) ⟨#[],#[.slice none 0 0,.slice none 0 0,.agg #[.string .empty,.string .empty,.string .empty,.string .empty]],[]⟩).memory:=
 laidMet_laidAll _ (by kernel_rfl) (by kernel_rfl)
theorem reads (os:Os) {H:Type} (enc:TypeId × Value→H):∃places,DataW.whole enc Tryz.prog ((World.laidAll Tryz.prog os Rows.polyPlacesRow.laid).forCall (fun _ _=>0) ⟨#[],#[.slice none 0 0,.slice none 0 0,.agg #[.string .empty,.string .empty,.string .empty,.string .empty]],[]⟩).memory Tryz.f3.params.toList Rows.polyPlacesSpec.vars false (#[.slice none 0 0,.slice none 0 0,.agg #[.string .empty,.string .empty,.string .empty,.string .empty]]:Array Value).toList 8=some ([.nil,.nil,.agg [.lit (.string []),.lit (.string []),.lit (.string []),.lit (.string [])]],[],places):=
 ⟨[],by kernel_rfl⟩
theorem lifted (os:Os) (started:os.Started) (H:Type) (enc:TypeId × Value→H) (F:Stop.Interp):ReturnsInHanded {} Tryz.checked os 3 .any ((OpenSpec.ofChange Rows.polyPlacesSpec).preRow enc Tryz.prog Tryz.f3 Rows.polyPlacesRow.domain false Rows.polyPlacesRow.laid) (((OpenSpec.ofChange Rows.polyPlacesSpec).at F).post enc Tryz.prog Tryz.f3 false true false false):=by
 obtain⟨places,hx⟩:=reads os enc;refine returnsInHanded_of_row (C:=Tryz.checked) (s:=OpenSpec.ofChange Rows.polyPlacesSpec) own started (by kernel_rfl) Tryz.func3 (witness_row_at (enc:=enc) (C:=Tryz.checked) false (World.laidAll Tryz.prog os Rows.polyPlacesRow.laid) #[.slice none 0 0,.slice none 0 0,.agg #[.string .empty,.string .empty,.string .empty,.string .empty]] (World.laidAll_os _ _ _) (by kernel_rfl) (by kernel_rfl) (by kernel_rfl) (OpenSpec.preRow_of_cond 8 hx (by kernel_rfl) (fun k hk=>by cases hk) (by kernel_rfl) (laid_met os))) ?_;intro W base args ds gs before hval hW _ _ _ hL _ _;exact contract H enc W base args ds gs before hval hW hL
theorem facts:joinedFacts Tryz.pinned.checked.prog 3 Tryz.f3 (OpenSpec.ofChange Rows.polyPlacesSpec).bare Rows.polyPlacesRow=true:=by
 unfold joinedFacts
 simp only [Bool.and_eq_true]
 repeat' apply And.intro
 all_goals as_aux_lemma=>kernel_rfl
theorem said:Rows.PolyPlacesSaid:=
 OpenClaim.holds_of_cond 3 Tryz.f3 rfl rfl rfl rfl rfl rfl rfl ⟨rfl,rfl,rfl,rfl,rfl⟩ rfl rfl rfl rfl rfl (by kernel_rfl) Tryz.func3 facts (of_decide_eq_true (by kernel_rfl)) (by unfold Func.isWrapper;first|(rw [if_pos (by decide +kernel)];kernel_rfl)|(rw [if_neg (by decide +kernel)];exact⟨rfl,rfl⟩)) (fun os started H enc _ F=>by rw [OpenClaim.pre_eq_preRow];exact lifted os started H enc F)
theorem plain (f:FuncId) (fn:Func) (hf:Tryz.pinned.checked.prog.funcNamed "pentode/pentodelaw02.PolyPlaces"=some f) (hfn:Tryz.pinned.checked.prog.funcs[f]?=some fn):false=Tryz.pinned.checked.prog.looks []∧∀(j:Nat) t,fn.params[j]?=some t→Tryz.pinned.checked.prog.wantsStandIn t=false:=by
 obtain rfl:f=3:=Option.some.inj ((show Tryz.prog.funcNamed "pentode/pentodelaw02.PolyPlaces"=some 3 by kernel_rfl).symm.trans hf) |>.symm
 obtain rfl:fn=Tryz.f3:=(Option.some.inj (Tryz.func3.symm.trans hfn)).symm;refine⟨by kernel_rfl,fun j t ht=>?_⟩;rw [Tryz.params3] at ht;have hm:=Array.mem_of_getElem? ht;have hm':t=22∨t=24:=by simpa using hm
 rcases hm' with rfl|rfl
 ·exact(show Tryz.prog.wantsStandIn 22=false by kernel_rfl)
 ·exact(show Tryz.prog.wantsStandIn 24=false by kernel_rfl)
theorem card:Rows.PolyPlacesCardSaid:=
 Claim7.holds_tied_plain_at .later [] _ _ _ _ said (fun _ h=>by cases h) (by kernel_rfl) (fun _ h=>by cases h) polyPlaces_row_tie rfl ⟨rfl,rfl⟩ (by kernel_rfl) rfl plain (by kernel_rfl)
end Go.Proofs.YtkoaakefgacokaaGreatDoor.polyPlaces
