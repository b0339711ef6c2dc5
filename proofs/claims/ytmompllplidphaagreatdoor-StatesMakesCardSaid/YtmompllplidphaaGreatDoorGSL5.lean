/- Part of the proofs over this seat: see the text that holds the theorem. Conditions: each theorem bears its own. -/
import Derived.Test.YtmompllplidphaaGreatDoorGSW22Z
import Derived.Test.YtmompllplidphaaGreatDoorCards
import Derived.Test.YtmompllplidphaaGreatDoorTie
namespace Go.Proofs.YtmompllplidphaaGreatDoor
open Go Go.HL Go.Proofs Go.HL.Kl Go.HL.Kl.Mc Go.HL.cm
theorem oQ (os:Os)(started:os.Started)(H:Type)(enc:TypeId×Value→H) :
   ReturnsInHanded {} Tryz.checked os 3 .any (fun w args=>(Rows.statesMakesSpec.pre enc Tryz.prog Tryz.f3 [] false w args∧laidMetH Tryz.prog Rows.statesMakesRow.laid w)∧sizedMet enc Tryz.prog Tryz.f3 (OpenSpec.ofChange Rows.statesMakesSpec) false w args) (Rows.statesMakesSpec.post enc Tryz.prog Tryz.f3 false true false false):=by
 refine HH (C:=Tryz.checked) (bt:=4) (by kernel_rfl) own started (by kernel_rfl) Tryz.func3
   (ChangeSpec.witness_shaped (enc:=enc) (C:=Tryz.checked) (os:=os) (X:=fun w _=>laidMetH Tryz.prog Rows.statesMakesRow.laid w) false (World.doorLaid Tryz.prog 400 os) #[.slice none 0 0] 8 rfl (World.shaped_of_RefB (by kernel_rfl) (by kernel_rfl)) (by kernel_rfl) (by kernel_rfl) (by kernel_rfl) (IP os _)) rfl rfl Tryz.underlying4 laidOut (by kernel_rfl) (fun H ds h=>by
     match ds,h with
     | [_],_=>rfl) ?_
 intro W args ds ps hA U9 xJ hL
 have hT:=Ns hL
 have B9:DataW.TrodAll enc Tryz.prog W 0 (fun _=>true) true [22] args.toList ds ps:=hA
 obtain⟨v0,vs0,d0,ds0,p0,q0,akq,rfl,rfl,h0,r0⟩:=ChangeShapes.trodAll_cons B9
 obtain⟨rfl,rfl,rfl⟩:=ChangeShapes.trodAll_nil r0
 obtain rfl:args = #[v0]:=by cases args;simp_all
 have w0:∀ n∈DataW.weights Tryz.prog 22 d0,n≤reachBytes:=fun n hn=>xJ n (DataW.weights_mem_each (ts:=[22]) (ds:=[d0]) (j:=0) rfl rfl n hn)
 obtain⟨r,rfl,agy,agz,apW⟩:=Gy (_E:=En) Tryz.underlying22 (Av Tryz.underlying22 (by kernel_rfl) (by decide) (of_decide_eq_true (by kernel_rfl)) Nt) (U9 0 22 v0 rfl rfl) h0 w0
 exact (vE r.a r.c r.xs (fun x hx=>agz x hx)).calls W ⟨agy,hT⟩ (Has.nil W)
theorem sW:Rows.statesMakesRow.holds Tryz.pinned (OpenSpec.ofChange Rows.statesMakesSpec):=
 OpenClaim.holds_of_wide 3 Tryz.f3 rfl rfl rfl rfl rfl rfl rfl ⟨rfl,rfl,rfl,rfl,rfl⟩ rfl rfl rfl rfl rfl (by kernel_rfl) Tryz.func3 (by kernel_rfl)
   (of_decide_eq_true (by kernel_rfl)) (by unfold Func.isWrapper;first|(rw[if_pos (by decide +kernel)];kernel_rfl)|(rw[if_neg (by decide +kernel)];exact⟨rfl,rfl⟩))
   (fun os started H enc _=>oQ os started H enc)
theorem statesMakes_card:Rows.StatesMakesCardSaid:=
 Claim7.holds_tied_plain_at .later [] [.data,.data,.data] true (true,"66d80a5834bd52db63885eb6a0c54e96d28f8fdbbefc0dd5b33dbc8a3daa3a9a") false
   sW (fun _ h=>by cases h) (by kernel_rfl) (fun _ h=>by cases h) statesMakes_row_tie rfl ⟨rfl,rfl⟩ (by kernel_rfl) rfl
   (fun f fn hf Nc=>by
     obtain rfl:f=3:=Option.some.inj ((show Tryz.prog.funcNamed "galley/galleylaw09.StatesMakes"=some 3 by kernel_rfl).symm.trans hf) |>.symm
     obtain rfl:fn=Tryz.f3:=(Option.some.inj (Tryz.func3.symm.trans Nc)).symm
     exact⟨by kernel_rfl,fun j t ht=>by
       have hm:t∈Tryz.f3.params.toList:=List.mem_of_getElem? (by rw[Array.getElem?_toList];exact ht)
       have hp:Tryz.f3.params.toList = [22]:=rfl
       rw[hp] at hm
       simp only[List.mem_cons,List.not_mem_nil,or_false] at hm
       rcases hm with rfl
       exact (show Tryz.prog.wantsStandIn 22=false by kernel_rfl)⟩)
   (by kernel_rfl)
end Go.Proofs.YtmompllplidphaaGreatDoor
