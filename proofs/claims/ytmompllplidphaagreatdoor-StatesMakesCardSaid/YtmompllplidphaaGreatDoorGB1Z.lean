/- Part of the proofs over this seat: see the text that holds the theorem. Conditions: each theorem bears its own. -/
import Derived.Test.YtmompllplidphaaGreatDoorHTZ
import Derived.Test.YtmompllplidphaaGreatDoorHlB
import Derived.Lib.TrailingZeros
namespace Go.Proofs.YtmompllplidphaaGreatDoor
open Go Go.HL Go.Proofs
theorem tY (b:Nat)(cs:List Value)(hb:cs[0]?=some (.slice none 0 0)):HL.Fn Tryz.prog 50 [.pointer (some ⟨b,0,none⟩)] (fun w=>r9 w b 0 cs) [] (fun v _=>v = .bool true):=by
 refine aW Tryz.func50 rfl rfl rfl fun w0 hw=>?_;refine cR fun _ bI=>?_;refine oA (oZ bI (ah fun _ bJ=>?_));refine cR fun _ bK=>?_;refine oA (oZ bK (ai ?_));refine aL (fun (k:Nat)=>k=0) (fun (k:Nat)=>[(3,.int .i64 k)]) [(0,_),(2,_)] (fun (k:Nat)=>[]) (fun (k:Nat)=>k) 0 rfl aH aH aP ?_
 rintro k hk
 subst hk;refine ah fun _ bU=>?_;refine cR fun _ bT=>?_;refine oM (oM ?_);refine oS sN ?_;refine oS sF ?_;refine oS (az rfl ((aI.bj hw).iU hb rfl)) ?_;refine oS sC ?_;refine oS (bH rfl rfl (by decide)) ?_;refine oZ bT ?_;refine cF ?_;refine ay ?_;refine ad (ad (ag (xZ bJ (cR fun _ bZ=>?_))));refine oA (oA (oZ bZ (ah fun _ cj=>?_)));refine cR fun _ ck=>?_;refine oA (oZ ck ?_)
 refine ai ?_;refine aL (fun (k:Nat)=>k=0) (fun (k:Nat)=>[(7,.int .i64 k),(6,.slice none 0 0),(5,.slice none 0 0)]) [(0,_),(2,_)] (fun (k:Nat)=>[]) (fun (k:Nat)=>k) 0 rfl aH aH aP ?_
 rintro k hk
 subst hk;refine ah fun _ cQ=>?_;refine cR fun _ bw=>?_;refine oM (oM ?_);refine oS sN ?_;refine oS sF ?_;refine oS (az rfl ((aI.bj hw).iU hb rfl)) ?_;refine oS sC ?_;refine oS (bH rfl rfl (by decide)) ?_;refine oZ bw ?_;refine cF ?_;refine ay ?_;refine ad (ad (ag (xZ cj (ah fun _ bF=>?_))));refine cR fun _ bD=>?_;refine oA (oZ bD (ai ?_))
 refine aL (fun (k:Nat)=>k=0) (fun (k:Nat)=>[(10,.int .i64 k)]) [(0,_),(5,_),(6,_)] (fun (k:Nat)=>[]) (fun (k:Nat)=>k) 0 rfl aH aH aP ?_
 rintro k hk
 subst hk;refine ah fun _ cb=>?_;refine cR fun _ bL=>?_;refine oM (oM ?_);refine oS sC ?_;refine oS (bH rfl rfl (by decide)) ?_;refine oZ bL ?_;refine cF ?_;refine ay ?_;refine ad (ad (ag (xZ bF (cR fun _ bQ=>?_))));refine oA (oZ bQ (aA ?_));refine ?_;exact xR rfl rfl (rfl)
theorem tZ (b:Nat)(cs:List Value)(hb:cs[3]?=some (.slice none 0 0)):HL.Fn Tryz.prog 53 [.pointer (some ⟨b,0,none⟩)] (fun w=>r9 w b 0 cs) [] (fun v _=>v = .bool true):=by
 refine aW Tryz.func53 rfl rfl rfl fun w0 hw=>?_;refine cR fun _ bI=>?_;refine oA (oZ bI (ah fun _ bJ=>?_));refine cR fun _ bK=>?_;refine oA (oZ bK (ai ?_));refine aL (fun (k:Nat)=>k=0) (fun (k:Nat)=>[(3,.int .i64 k)]) [(0,_),(2,_)] (fun (k:Nat)=>[]) (fun (k:Nat)=>k) 0 rfl aH aH aP ?_
 rintro k hk
 subst hk;refine ah fun _ bU=>?_;refine cR fun _ bT=>?_;refine oM (oM ?_);refine oS sN ?_;refine oS sF ?_;refine oS (az rfl ((aI.bj hw).iU hb rfl)) ?_;refine oS sC ?_;refine oS (bH rfl rfl (by decide)) ?_;refine oZ bT ?_;refine cF ?_;refine ay ?_;refine ad (ad (ag (xZ bJ (cR fun _ bZ=>?_))));refine oA (oA (oZ bZ (ah fun _ cj=>?_)));refine cR fun _ ck=>?_;refine oA (oZ ck ?_)
 refine ai ?_;refine aL (fun (k:Nat)=>k=0) (fun (k:Nat)=>[(7,.int .i64 k),(6,.slice none 0 0),(5,.slice none 0 0)]) [(0,_),(2,_)] (fun (k:Nat)=>[]) (fun (k:Nat)=>k) 0 rfl aH aH aP ?_
 rintro k hk
 subst hk;refine ah fun _ cQ=>?_;refine cR fun _ bw=>?_;refine oM (oM ?_);refine oS sN ?_;refine oS sF ?_;refine oS (az rfl ((aI.bj hw).iU hb rfl)) ?_;refine oS sC ?_;refine oS (bH rfl rfl (by decide)) ?_;refine oZ bw ?_;refine cF ?_;refine ay ?_;refine ad (ad (ag (xZ cj (ah fun _ bF=>?_))));refine cR fun _ bD=>?_;refine oA (oZ bD (ai ?_))
 refine aL (fun (k:Nat)=>k=0) (fun (k:Nat)=>[(10,.int .i64 k)]) [(0,_),(5,_),(6,_)] (fun (k:Nat)=>[]) (fun (k:Nat)=>k) 0 rfl aH aH aP ?_
 rintro k hk
 subst hk;refine ah fun _ cb=>?_;refine cR fun _ bL=>?_;refine oM (oM ?_);refine oS sC ?_;refine oS (bH rfl rfl (by decide)) ?_;refine oZ bL ?_;refine cF ?_;refine ay ?_;refine ad (ad (ag (xZ bF (cR fun _ bQ=>?_))));refine oA (oZ bQ (aA ?_));refine ?_;exact xR rfl rfl (rfl)
theorem ub (b:Nat)(cs:List Value)(hb:cs[4]?=some (.slice none 0 0)):HL.Fn Tryz.prog 54 [.pointer (some ⟨b,0,none⟩)] (fun w=>r9 w b 0 cs) [] (fun v _=>v = .bool true):=by
 refine aW Tryz.func54 rfl rfl rfl fun w0 hw=>?_;refine cR fun _ bI=>?_;refine oA (oZ bI (ah fun _ bJ=>?_));refine cR fun _ bK=>?_;refine oA (oZ bK (ai ?_));refine aL (fun (k:Nat)=>k=0) (fun (k:Nat)=>[(3,.int .i64 k)]) [(0,_),(2,_)] (fun (k:Nat)=>[]) (fun (k:Nat)=>k) 0 rfl aH aH aP ?_
 rintro k hk
 subst hk;refine ah fun _ bU=>?_;refine cR fun _ bT=>?_;refine oM (oM ?_);refine oS sN ?_;refine oS sF ?_;refine oS (az rfl ((aI.bj hw).iU hb rfl)) ?_;refine oS sC ?_;refine oS (bH rfl rfl (by decide)) ?_;refine oZ bT ?_;refine cF ?_;refine ay ?_;refine ad (ad (ag (xZ bJ (cR fun _ bZ=>?_))));refine oA (oA (oZ bZ (ah fun _ cj=>?_)));refine cR fun _ ck=>?_;refine oA (oZ ck ?_)
 refine ai ?_;refine aL (fun (k:Nat)=>k=0) (fun (k:Nat)=>[(7,.int .i64 k),(6,.slice none 0 0),(5,.slice none 0 0)]) [(0,_),(2,_)] (fun (k:Nat)=>[]) (fun (k:Nat)=>k) 0 rfl aH aH aP ?_
 rintro k hk
 subst hk;refine ah fun _ cQ=>?_;refine cR fun _ bw=>?_;refine oM (oM ?_);refine oS sN ?_;refine oS sF ?_;refine oS (az rfl ((aI.bj hw).iU hb rfl)) ?_;refine oS sC ?_;refine oS (bH rfl rfl (by decide)) ?_;refine oZ bw ?_;refine cF ?_;refine ay ?_;refine ad (ad (ag (xZ cj (ah fun _ bF=>?_))));refine cR fun _ bD=>?_;refine oA (oZ bD (ai ?_))
 refine aL (fun (k:Nat)=>k=0) (fun (k:Nat)=>[(10,.int .i64 k)]) [(0,_),(5,_),(6,_)] (fun (k:Nat)=>[]) (fun (k:Nat)=>k) 0 rfl aH aH aP ?_
 rintro k hk
 subst hk;refine ah fun _ cb=>?_;refine cR fun _ bL=>?_;refine oM (oM ?_);refine oS sC ?_;refine oS (bH rfl rfl (by decide)) ?_;refine oZ bL ?_;refine cF ?_;refine ay ?_;refine ad (ad (ag (xZ bF (cR fun _ bQ=>?_))));refine oA (oZ bQ (aA ?_));refine ?_;exact xR rfl rfl (rfl)
theorem ud (b:Nat)(cs:List Value)(hb:cs[5]?=some (.slice none 0 0)):HL.Fn Tryz.prog 55 [.pointer (some ⟨b,0,none⟩)] (fun w=>r9 w b 0 cs) [] (fun v _=>v = .bool true):=by
 refine aW Tryz.func55 rfl rfl rfl fun w0 hw=>?_;refine cR fun _ bI=>?_;refine oA (oZ bI (ah fun _ bJ=>?_));refine cR fun _ bK=>?_;refine oA (oZ bK (ai ?_));refine aL (fun (k:Nat)=>k=0) (fun (k:Nat)=>[(3,.int .i64 k)]) [(0,_),(2,_)] (fun (k:Nat)=>[]) (fun (k:Nat)=>k) 0 rfl aH aH aP ?_
 rintro k hk
 subst hk;refine ah fun _ bU=>?_;refine cR fun _ bT=>?_;refine oM (oM ?_);refine oS sN ?_;refine oS sF ?_;refine oS (az rfl ((aI.bj hw).iU hb rfl)) ?_;refine oS sC ?_;refine oS (bH rfl rfl (by decide)) ?_;refine oZ bT ?_;refine cF ?_;refine ay ?_;refine ad (ad (ag (xZ bJ (cR fun _ bZ=>?_))));refine oA (oA (oZ bZ (ah fun _ cj=>?_)));refine cR fun _ ck=>?_;refine oA (oZ ck ?_)
 refine ai ?_;refine aL (fun (k:Nat)=>k=0) (fun (k:Nat)=>[(7,.int .i64 k),(6,.slice none 0 0),(5,.slice none 0 0)]) [(0,_),(2,_)] (fun (k:Nat)=>[]) (fun (k:Nat)=>k) 0 rfl aH aH aP ?_
 rintro k hk
 subst hk;refine ah fun _ cQ=>?_;refine cR fun _ bw=>?_;refine oM (oM ?_);refine oS sN ?_;refine oS sF ?_;refine oS (az rfl ((aI.bj hw).iU hb rfl)) ?_;refine oS sC ?_;refine oS (bH rfl rfl (by decide)) ?_;refine oZ bw ?_;refine cF ?_;refine ay ?_;refine ad (ad (ag (xZ cj (ah fun _ bF=>?_))));refine cR fun _ bD=>?_;refine oA (oZ bD (ai ?_))
 refine aL (fun (k:Nat)=>k=0) (fun (k:Nat)=>[(10,.int .i64 k)]) [(0,_),(5,_),(6,_)] (fun (k:Nat)=>[]) (fun (k:Nat)=>k) 0 rfl aH aH aP ?_
 rintro k hk
 subst hk;refine ah fun _ cb=>?_;refine cR fun _ bL=>?_;refine oM (oM ?_);refine oS sC ?_;refine oS (bH rfl rfl (by decide)) ?_;refine oZ bL ?_;refine cF ?_;refine ay ?_;refine ad (ad (ag (xZ bF (cR fun _ bQ=>?_))));refine oA (oZ bQ (aA ?_));refine ?_;exact xR rfl rfl (rfl)
theorem wv (b:Nat)(cs:List Value)(hb:cs[6]?=some (.slice none 0 0)):HL.Fn Tryz.prog 56 [.pointer (some ⟨b,0,none⟩)] (fun w=>r9 w b 0 cs) [] (fun v _=>v = .bool true):=by
 refine aW Tryz.func56 rfl rfl rfl fun w0 hw=>?_;refine cR fun _ bI=>?_;refine oA (oZ bI (ah fun _ bJ=>?_));refine cR fun _ bK=>?_;refine oA (oZ bK (ai ?_));refine aL (fun (k:Nat)=>k=0) (fun (k:Nat)=>[(3,.int .i64 k)]) [(0,_),(2,_)] (fun (k:Nat)=>[]) (fun (k:Nat)=>k) 0 rfl aH aH aP ?_
 rintro k hk
 subst hk;refine ah fun _ bU=>?_;refine cR fun _ bT=>?_;refine oM (oM ?_);refine oS sN ?_;refine oS sF ?_;refine oS (az rfl ((aI.bj hw).iU hb rfl)) ?_;refine oS sC ?_;refine oS (bH rfl rfl (by decide)) ?_;refine oZ bT ?_;refine cF ?_;refine ay ?_;refine ad (ad (ag (xZ bJ (cR fun _ bZ=>?_))));refine oA (oA (oZ bZ (ah fun _ cj=>?_)));refine cR fun _ ck=>?_;refine oA (oZ ck ?_)
 refine ai ?_;refine aL (fun (k:Nat)=>k=0) (fun (k:Nat)=>[(7,.int .i64 k),(6,.slice none 0 0),(5,.slice none 0 0)]) [(0,_),(2,_)] (fun (k:Nat)=>[]) (fun (k:Nat)=>k) 0 rfl aH aH aP ?_
 rintro k hk
 subst hk;refine ah fun _ cQ=>?_;refine cR fun _ bw=>?_;refine oM (oM ?_);refine oS sN ?_;refine oS sF ?_;refine oS (az rfl ((aI.bj hw).iU hb rfl)) ?_;refine oS sC ?_;refine oS (bH rfl rfl (by decide)) ?_;refine oZ bw ?_;refine cF ?_;refine ay ?_;refine ad (ad (ag (xZ cj (ah fun _ bF=>?_))));refine cR fun _ bD=>?_;refine oA (oZ bD (ai ?_))
 refine aL (fun (k:Nat)=>k=0) (fun (k:Nat)=>[(10,.int .i64 k)]) [(0,_),(5,_),(6,_)] (fun (k:Nat)=>[]) (fun (k:Nat)=>k) 0 rfl aH aH aP ?_
 rintro k hk
 subst hk;refine ah fun _ cb=>?_;refine cR fun _ bL=>?_;refine oM (oM ?_);refine oS sC ?_;refine oS (bH rfl rfl (by decide)) ?_;refine oZ bL ?_;refine cF ?_;refine ay ?_;refine ad (ad (ag (xZ bF (cR fun _ bQ=>?_))));refine oA (oZ bQ (aA ?_));refine ?_;exact xR rfl rfl (rfl)
theorem su (b:Nat)(cs:List Value)(hb:cs[9]?=some (.slice none 0 0)):HL.Fn Tryz.prog 59 [.pointer (some ⟨b,0,none⟩)] (fun w=>r9 w b 0 cs) [] (fun v _=>v = .bool true):=by
 refine aW Tryz.func59 rfl rfl rfl fun w0 hw=>?_;refine cR fun _ bI=>?_;refine oA (oZ bI (ah fun _ bJ=>?_));refine cR fun _ bK=>?_;refine oA (oZ bK (ai ?_));refine aL (fun (k:Nat)=>k=0) (fun (k:Nat)=>[(3,.int .i64 k)]) [(0,_),(2,_)] (fun (k:Nat)=>[]) (fun (k:Nat)=>k) 0 rfl aH aH aP ?_
 rintro k hk
 subst hk;refine ah fun _ bU=>?_;refine cR fun _ bT=>?_;refine oM (oM ?_);refine oS sN ?_;refine oS sF ?_;refine oS (az rfl ((aI.bj hw).iU hb rfl)) ?_;refine oS sC ?_;refine oS (bH rfl rfl (by decide)) ?_;refine oZ bT ?_;refine cF ?_;refine ay ?_;refine ad (ad (ag (xZ bJ (cR fun _ bZ=>?_))));refine oA (oA (oZ bZ (ah fun _ cj=>?_)));refine cR fun _ ck=>?_;refine oA (oZ ck ?_)
 refine ai ?_;refine aL (fun (k:Nat)=>k=0) (fun (k:Nat)=>[(7,.int .i64 k),(6,.slice none 0 0),(5,.slice none 0 0)]) [(0,_),(2,_)] (fun (k:Nat)=>[]) (fun (k:Nat)=>k) 0 rfl aH aH aP ?_
 rintro k hk
 subst hk;refine ah fun _ cQ=>?_;refine cR fun _ bw=>?_;refine oM (oM ?_);refine oS sN ?_;refine oS sF ?_;refine oS (az rfl ((aI.bj hw).iU hb rfl)) ?_;refine oS sC ?_;refine oS (bH rfl rfl (by decide)) ?_;refine oZ bw ?_;refine cF ?_;refine ay ?_;refine ad (ad (ag (xZ cj (ah fun _ bF=>?_))));refine cR fun _ bD=>?_;refine oA (oZ bD (ai ?_))
 refine aL (fun (k:Nat)=>k=0) (fun (k:Nat)=>[(10,.int .i64 k)]) [(0,_),(5,_),(6,_)] (fun (k:Nat)=>[]) (fun (k:Nat)=>k) 0 rfl aH aH aP ?_
 rintro k hk
 subst hk;refine ah fun _ cb=>?_;refine cR fun _ bL=>?_;refine oM (oM ?_);refine oS sC ?_;refine oS (bH rfl rfl (by decide)) ?_;refine oZ bL ?_;refine cF ?_;refine ay ?_;refine ad (ad (ag (xZ bF (cR fun _ bQ=>?_))));refine oA (oZ bQ (aA ?_));refine ?_;exact xR rfl rfl (rfl)
theorem sw (b:Nat)(cs:List Value)(hb:cs[10]?=some (.slice none 0 0)):HL.Fn Tryz.prog 60 [.pointer (some ⟨b,0,none⟩)] (fun w=>r9 w b 0 cs) [] (fun v _=>v = .bool true):=by
 refine aW Tryz.func60 rfl rfl rfl fun w0 hw=>?_;refine cR fun _ bI=>?_;refine oA (oZ bI (ah fun _ bJ=>?_));refine cR fun _ bK=>?_;refine oA (oZ bK (ai ?_));refine aL (fun (k:Nat)=>k=0) (fun (k:Nat)=>[(3,.int .i64 k)]) [(0,_),(2,_)] (fun (k:Nat)=>[]) (fun (k:Nat)=>k) 0 rfl aH aH aP ?_
 rintro k hk
 subst hk;refine ah fun _ bU=>?_;refine cR fun _ bT=>?_;refine oM (oM ?_);refine oS sN ?_;refine oS sF ?_;refine oS (az rfl ((aI.bj hw).iU hb rfl)) ?_;refine oS sC ?_;refine oS (bH rfl rfl (by decide)) ?_;refine oZ bT ?_;refine cF ?_;refine ay ?_;refine ad (ad (ag (xZ bJ (cR fun _ bZ=>?_))));refine oA (oA (oZ bZ (ah fun _ cj=>?_)));refine cR fun _ ck=>?_;refine oA (oZ ck ?_)
 refine ai ?_;refine aL (fun (k:Nat)=>k=0) (fun (k:Nat)=>[(7,.int .i64 k),(6,.slice none 0 0),(5,.slice none 0 0)]) [(0,_),(2,_)] (fun (k:Nat)=>[]) (fun (k:Nat)=>k) 0 rfl aH aH aP ?_
 rintro k hk
 subst hk;refine ah fun _ cQ=>?_;refine cR fun _ bw=>?_;refine oM (oM ?_);refine oS sN ?_;refine oS sF ?_;refine oS (az rfl ((aI.bj hw).iU hb rfl)) ?_;refine oS sC ?_;refine oS (bH rfl rfl (by decide)) ?_;refine oZ bw ?_;refine cF ?_;refine ay ?_;refine ad (ad (ag (xZ cj (ah fun _ bF=>?_))));refine cR fun _ bD=>?_;refine oA (oZ bD (ai ?_))
 refine aL (fun (k:Nat)=>k=0) (fun (k:Nat)=>[(10,.int .i64 k)]) [(0,_),(5,_),(6,_)] (fun (k:Nat)=>[]) (fun (k:Nat)=>k) 0 rfl aH aH aP ?_
 rintro k hk
 subst hk;refine ah fun _ cb=>?_;refine cR fun _ bL=>?_;refine oM (oM ?_);refine oS sC ?_;refine oS (bH rfl rfl (by decide)) ?_;refine oZ bL ?_;refine cF ?_;refine ay ?_;refine ad (ad (ag (xZ bF (cR fun _ bQ=>?_))));refine oA (oZ bQ (aA ?_));refine ?_;exact xR rfl rfl (rfl)
theorem uf (b:Nat)(cs:List Value)(hb:cs[11]?=some (.slice none 0 0)):HL.Fn Tryz.prog 61 [.pointer (some ⟨b,0,none⟩)] (fun w=>r9 w b 0 cs) [] (fun v _=>v = .bool true):=by
 refine aW Tryz.func61 rfl rfl rfl fun w0 hw=>?_;refine cR fun _ bI=>?_;refine oA (oZ bI (ah fun _ bJ=>?_));refine cR fun _ bK=>?_;refine oA (oZ bK (ai ?_));refine aL (fun (k:Nat)=>k=0) (fun (k:Nat)=>[(3,.int .i64 k)]) [(0,_),(2,_)] (fun (k:Nat)=>[]) (fun (k:Nat)=>k) 0 rfl aH aH aP ?_
 rintro k hk
 subst hk;refine ah fun _ bU=>?_;refine cR fun _ bT=>?_;refine oM (oM ?_);refine oS sN ?_;refine oS sF ?_;refine oS (az rfl ((aI.bj hw).iU hb rfl)) ?_;refine oS sC ?_;refine oS (bH rfl rfl (by decide)) ?_;refine oZ bT ?_;refine cF ?_;refine ay ?_;refine ad (ad (ag (xZ bJ (cR fun _ bZ=>?_))));refine oA (oA (oZ bZ (ah fun _ cj=>?_)));refine cR fun _ ck=>?_;refine oA (oZ ck ?_)
 refine ai ?_;refine aL (fun (k:Nat)=>k=0) (fun (k:Nat)=>[(7,.int .i64 k),(6,.slice none 0 0),(5,.slice none 0 0)]) [(0,_),(2,_)] (fun (k:Nat)=>[]) (fun (k:Nat)=>k) 0 rfl aH aH aP ?_
 rintro k hk
 subst hk;refine ah fun _ cQ=>?_;refine cR fun _ bw=>?_;refine oM (oM ?_);refine oS sN ?_;refine oS sF ?_;refine oS (az rfl ((aI.bj hw).iU hb rfl)) ?_;refine oS sC ?_;refine oS (bH rfl rfl (by decide)) ?_;refine oZ bw ?_;refine cF ?_;refine ay ?_;refine ad (ad (ag (xZ cj (ah fun _ bF=>?_))));refine cR fun _ bD=>?_;refine oA (oZ bD (ai ?_))
 refine aL (fun (k:Nat)=>k=0) (fun (k:Nat)=>[(10,.int .i64 k)]) [(0,_),(5,_),(6,_)] (fun (k:Nat)=>[]) (fun (k:Nat)=>k) 0 rfl aH aH aP ?_
 rintro k hk
 subst hk;refine ah fun _ cb=>?_;refine cR fun _ bL=>?_;refine oM (oM ?_);refine oS sC ?_;refine oS (bH rfl rfl (by decide)) ?_;refine oZ bL ?_;refine cF ?_;refine ay ?_;refine ad (ad (ag (xZ bF (cR fun _ bQ=>?_))));refine oA (oZ bQ (aA ?_));refine ?_;exact xR rfl rfl (rfl)
theorem ug (b:Nat)(cs:List Value)(hb:cs[12]?=some (.slice none 0 0)):HL.Fn Tryz.prog 62 [.pointer (some ⟨b,0,none⟩)] (fun w=>r9 w b 0 cs) [] (fun v _=>v = .bool true):=by
 refine aW Tryz.func62 rfl rfl rfl fun w0 hw=>?_;refine cR fun _ bI=>?_;refine oA (oZ bI (ah fun _ bJ=>?_));refine cR fun _ bK=>?_;refine oA (oZ bK (ai ?_));refine aL (fun (k:Nat)=>k=0) (fun (k:Nat)=>[(3,.int .i64 k)]) [(0,_),(2,_)] (fun (k:Nat)=>[]) (fun (k:Nat)=>k) 0 rfl aH aH aP ?_
 rintro k hk
 subst hk;refine ah fun _ bU=>?_;refine cR fun _ bT=>?_;refine oM (oM ?_);refine oS sN ?_;refine oS sF ?_;refine oS (az rfl ((aI.bj hw).iU hb rfl)) ?_;refine oS sC ?_;refine oS (bH rfl rfl (by decide)) ?_;refine oZ bT ?_;refine cF ?_;refine ay ?_;refine ad (ad (ag (xZ bJ (cR fun _ bZ=>?_))));refine oA (oA (oZ bZ (ah fun _ cj=>?_)));refine cR fun _ ck=>?_;refine oA (oZ ck ?_)
 refine ai ?_;refine aL (fun (k:Nat)=>k=0) (fun (k:Nat)=>[(7,.int .i64 k),(6,.slice none 0 0),(5,.slice none 0 0)]) [(0,_),(2,_)] (fun (k:Nat)=>[]) (fun (k:Nat)=>k) 0 rfl aH aH aP ?_
 rintro k hk
 subst hk;refine ah fun _ cQ=>?_;refine cR fun _ bw=>?_;refine oM (oM ?_);refine oS sN ?_;refine oS sF ?_;refine oS (az rfl ((aI.bj hw).iU hb rfl)) ?_;refine oS sC ?_;refine oS (bH rfl rfl (by decide)) ?_;refine oZ bw ?_;refine cF ?_;refine ay ?_;refine ad (ad (ag (xZ cj (ah fun _ bF=>?_))));refine cR fun _ bD=>?_;refine oA (oZ bD (ai ?_))
 refine aL (fun (k:Nat)=>k=0) (fun (k:Nat)=>[(10,.int .i64 k)]) [(0,_),(5,_),(6,_)] (fun (k:Nat)=>[]) (fun (k:Nat)=>k) 0 rfl aH aH aP ?_
 rintro k hk
 subst hk;refine ah fun _ cb=>?_;refine cR fun _ bL=>?_;refine oM (oM ?_);refine oS sC ?_;refine oS (bH rfl rfl (by decide)) ?_;refine oZ bL ?_;refine cF ?_;refine ay ?_;refine ad (ad (ag (xZ bF (cR fun _ bQ=>?_))));refine oA (oZ bQ (aA ?_));refine ?_;exact xR rfl rfl (rfl)
theorem wy (b:Nat)(cs:List Value)(hb:cs[13]?=some (.slice none 0 0)):HL.Fn Tryz.prog 63 [.pointer (some ⟨b,0,none⟩)] (fun w=>r9 w b 0 cs) [] (fun v _=>v = .bool true):=by
 refine aW Tryz.func63 rfl rfl rfl fun w0 hw=>?_;refine cR fun _ bI=>?_;refine oA (oZ bI (ah fun _ bJ=>?_));refine cR fun _ bK=>?_;refine oA (oZ bK (ai ?_));refine aL (fun (k:Nat)=>k=0) (fun (k:Nat)=>[(3,.int .i64 k)]) [(0,_),(2,_)] (fun (k:Nat)=>[]) (fun (k:Nat)=>k) 0 rfl aH aH aP ?_
 rintro k hk
 subst hk;refine ah fun _ bU=>?_;refine cR fun _ bT=>?_;refine oM (oM ?_);refine oS sN ?_;refine oS sF ?_;refine oS (az rfl ((aI.bj hw).iU hb rfl)) ?_;refine oS sC ?_;refine oS (bH rfl rfl (by decide)) ?_;refine oZ bT ?_;refine cF ?_;refine ay ?_;refine ad (ad (ag (xZ bJ (cR fun _ bZ=>?_))));refine oA (oA (oZ bZ (ah fun _ cj=>?_)));refine cR fun _ ck=>?_;refine oA (oZ ck ?_)
 refine ai ?_;refine aL (fun (k:Nat)=>k=0) (fun (k:Nat)=>[(7,.int .i64 k),(6,.slice none 0 0),(5,.slice none 0 0)]) [(0,_),(2,_)] (fun (k:Nat)=>[]) (fun (k:Nat)=>k) 0 rfl aH aH aP ?_
 rintro k hk
 subst hk;refine ah fun _ cQ=>?_;refine cR fun _ bw=>?_;refine oM (oM ?_);refine oS sN ?_;refine oS sF ?_;refine oS (az rfl ((aI.bj hw).iU hb rfl)) ?_;refine oS sC ?_;refine oS (bH rfl rfl (by decide)) ?_;refine oZ bw ?_;refine cF ?_;refine ay ?_;refine ad (ad (ag (xZ cj (ah fun _ bF=>?_))));refine cR fun _ bD=>?_;refine oA (oZ bD (ai ?_))
 refine aL (fun (k:Nat)=>k=0) (fun (k:Nat)=>[(10,.int .i64 k)]) [(0,_),(5,_),(6,_)] (fun (k:Nat)=>[]) (fun (k:Nat)=>k) 0 rfl aH aH aP ?_
 rintro k hk
 subst hk;refine ah fun _ cb=>?_;refine cR fun _ bL=>?_;refine oM (oM ?_);refine oS sC ?_;refine oS (bH rfl rfl (by decide)) ?_;refine oZ bL ?_;refine cF ?_;refine ay ?_;refine ad (ad (ag (xZ bF (cR fun _ bQ=>?_))));refine oA (oZ bQ (aA ?_));refine ?_;exact xR rfl rfl (rfl)
theorem sx (b:Nat)(cs:List Value)(hb:cs[15]?=some (.slice none 0 0)):HL.Fn Tryz.prog 65 [.pointer (some ⟨b,0,none⟩)] (fun w=>r9 w b 0 cs) [] (fun v _=>v = .bool true):=by
 refine aW Tryz.func65 rfl rfl rfl fun w0 hw=>?_;refine cR fun _ bI=>?_;refine oA (oZ bI (ah fun _ bJ=>?_));refine cR fun _ bK=>?_;refine oA (oZ bK (ai ?_));refine aL (fun (k:Nat)=>k=0) (fun (k:Nat)=>[(3,.int .i64 k)]) [(0,_),(2,_)] (fun (k:Nat)=>[]) (fun (k:Nat)=>k) 0 rfl aH aH aP ?_
 rintro k hk
 subst hk;refine ah fun _ bU=>?_;refine cR fun _ bT=>?_;refine oM (oM ?_);refine oS sN ?_;refine oS sF ?_;refine oS (az rfl ((aI.bj hw).iU hb rfl)) ?_;refine oS sC ?_;refine oS (bH rfl rfl (by decide)) ?_;refine oZ bT ?_;refine cF ?_;refine ay ?_;refine ad (ad (ag (xZ bJ (cR fun _ bZ=>?_))));refine oA (oA (oZ bZ (ah fun _ cj=>?_)));refine cR fun _ ck=>?_;refine oA (oZ ck ?_)
 refine ai ?_;refine aL (fun (k:Nat)=>k=0) (fun (k:Nat)=>[(7,.int .i64 k),(6,.slice none 0 0),(5,.slice none 0 0)]) [(0,_),(2,_)] (fun (k:Nat)=>[]) (fun (k:Nat)=>k) 0 rfl aH aH aP ?_
 rintro k hk
 subst hk;refine ah fun _ cQ=>?_;refine cR fun _ bw=>?_;refine oM (oM ?_);refine oS sN ?_;refine oS sF ?_;refine oS (az rfl ((aI.bj hw).iU hb rfl)) ?_;refine oS sC ?_;refine oS (bH rfl rfl (by decide)) ?_;refine oZ bw ?_;refine cF ?_;refine ay ?_;refine ad (ad (ag (xZ cj (ah fun _ bF=>?_))));refine cR fun _ bD=>?_;refine oA (oZ bD (ai ?_))
 refine aL (fun (k:Nat)=>k=0) (fun (k:Nat)=>[(10,.int .i64 k)]) [(0,_),(5,_),(6,_)] (fun (k:Nat)=>[]) (fun (k:Nat)=>k) 0 rfl aH aH aP ?_
 rintro k hk
 subst hk;refine ah fun _ cb=>?_;refine cR fun _ bL=>?_;refine oM (oM ?_);refine oS sC ?_;refine oS (bH rfl rfl (by decide)) ?_;refine oZ bL ?_;refine cF ?_;refine ay ?_;refine ad (ad (ag (xZ bF (cR fun _ bQ=>?_))));refine oA (oZ bQ (aA ?_));refine ?_;exact xR rfl rfl (rfl)
theorem sy (b:Nat)(cs:List Value)(hb:cs[16]?=some (.slice none 0 0)):HL.Fn Tryz.prog 66 [.pointer (some ⟨b,0,none⟩)] (fun w=>r9 w b 0 cs) [] (fun v _=>v = .bool true):=by
 refine aW Tryz.func66 rfl rfl rfl fun w0 hw=>?_;refine cR fun _ bI=>?_;refine oA (oZ bI (ah fun _ bJ=>?_));refine cR fun _ bK=>?_;refine oA (oZ bK (ai ?_));refine aL (fun (k:Nat)=>k=0) (fun (k:Nat)=>[(3,.int .i64 k)]) [(0,_),(2,_)] (fun (k:Nat)=>[]) (fun (k:Nat)=>k) 0 rfl aH aH aP ?_
 rintro k hk
 subst hk;refine ah fun _ bU=>?_;refine cR fun _ bT=>?_;refine oM (oM ?_);refine oS sN ?_;refine oS sF ?_;refine oS (az rfl ((aI.bj hw).iU hb rfl)) ?_;refine oS sC ?_;refine oS (bH rfl rfl (by decide)) ?_;refine oZ bT ?_;refine cF ?_;refine ay ?_;refine ad (ad (ag (xZ bJ (cR fun _ bZ=>?_))));refine oA (oA (oZ bZ (ah fun _ cj=>?_)));refine cR fun _ ck=>?_;refine oA (oZ ck ?_)
 refine ai ?_;refine aL (fun (k:Nat)=>k=0) (fun (k:Nat)=>[(7,.int .i64 k),(6,.slice none 0 0),(5,.slice none 0 0)]) [(0,_),(2,_)] (fun (k:Nat)=>[]) (fun (k:Nat)=>k) 0 rfl aH aH aP ?_
 rintro k hk
 subst hk;refine ah fun _ cQ=>?_;refine cR fun _ bw=>?_;refine oM (oM ?_);refine oS sN ?_;refine oS sF ?_;refine oS (az rfl ((aI.bj hw).iU hb rfl)) ?_;refine oS sC ?_;refine oS (bH rfl rfl (by decide)) ?_;refine oZ bw ?_;refine cF ?_;refine ay ?_;refine ad (ad (ag (xZ cj (ah fun _ bF=>?_))));refine cR fun _ bD=>?_;refine oA (oZ bD (ai ?_))
 refine aL (fun (k:Nat)=>k=0) (fun (k:Nat)=>[(10,.int .i64 k)]) [(0,_),(5,_),(6,_)] (fun (k:Nat)=>[]) (fun (k:Nat)=>k) 0 rfl aH aH aP ?_
 rintro k hk
 subst hk;refine ah fun _ cb=>?_;refine cR fun _ bL=>?_;refine oM (oM ?_);refine oS sC ?_;refine oS (bH rfl rfl (by decide)) ?_;refine oZ bL ?_;refine cF ?_;refine ay ?_;refine ad (ad (ag (xZ bF (cR fun _ bQ=>?_))));refine oA (oZ bQ (aA ?_));refine ?_;exact xR rfl rfl (rfl)
theorem uh (b:Nat)(cs:List Value)(hb:cs[17]?=some (.slice none 0 0)):HL.Fn Tryz.prog 67 [.pointer (some ⟨b,0,none⟩)] (fun w=>r9 w b 0 cs) [] (fun v _=>v = .bool true):=by
 refine aW Tryz.func67 rfl rfl rfl fun w0 hw=>?_;refine cR fun _ bI=>?_;refine oA (oZ bI (ah fun _ bJ=>?_));refine cR fun _ bK=>?_;refine oA (oZ bK (ai ?_));refine aL (fun (k:Nat)=>k=0) (fun (k:Nat)=>[(3,.int .i64 k)]) [(0,_),(2,_)] (fun (k:Nat)=>[]) (fun (k:Nat)=>k) 0 rfl aH aH aP ?_
 rintro k hk
 subst hk;refine ah fun _ bU=>?_;refine cR fun _ bT=>?_;refine oM (oM ?_);refine oS sN ?_;refine oS sF ?_;refine oS (az rfl ((aI.bj hw).iU hb rfl)) ?_;refine oS sC ?_;refine oS (bH rfl rfl (by decide)) ?_;refine oZ bT ?_;refine cF ?_;refine ay ?_;refine ad (ad (ag (xZ bJ (cR fun _ bZ=>?_))));refine oA (oA (oZ bZ (ah fun _ cj=>?_)));refine cR fun _ ck=>?_;refine oA (oZ ck ?_)
 refine ai ?_;refine aL (fun (k:Nat)=>k=0) (fun (k:Nat)=>[(7,.int .i64 k),(6,.slice none 0 0),(5,.slice none 0 0)]) [(0,_),(2,_)] (fun (k:Nat)=>[]) (fun (k:Nat)=>k) 0 rfl aH aH aP ?_
 rintro k hk
 subst hk;refine ah fun _ cQ=>?_;refine cR fun _ bw=>?_;refine oM (oM ?_);refine oS sN ?_;refine oS sF ?_;refine oS (az rfl ((aI.bj hw).iU hb rfl)) ?_;refine oS sC ?_;refine oS (bH rfl rfl (by decide)) ?_;refine oZ bw ?_;refine cF ?_;refine ay ?_;refine ad (ad (ag (xZ cj (ah fun _ bF=>?_))));refine cR fun _ bD=>?_;refine oA (oZ bD (ai ?_))
 refine aL (fun (k:Nat)=>k=0) (fun (k:Nat)=>[(10,.int .i64 k)]) [(0,_),(5,_),(6,_)] (fun (k:Nat)=>[]) (fun (k:Nat)=>k) 0 rfl aH aH aP ?_
 rintro k hk
 subst hk;refine ah fun _ cb=>?_;refine cR fun _ bL=>?_;refine oM (oM ?_);refine oS sC ?_;refine oS (bH rfl rfl (by decide)) ?_;refine oZ bL ?_;refine cF ?_;refine ay ?_;refine ad (ad (ag (xZ bF (cR fun _ bQ=>?_))));refine oA (oZ bQ (aA ?_));refine ?_;exact xR rfl rfl (rfl)
theorem wD (b:Nat)(cs:List Value)(hb:cs[18]?=some (.slice none 0 0)):HL.Fn Tryz.prog 68 [.pointer (some ⟨b,0,none⟩)] (fun w=>r9 w b 0 cs) [] (fun v _=>v = .bool true):=by
 refine aW Tryz.func68 rfl rfl rfl fun w0 hw=>?_;refine cR fun _ bI=>?_;refine oA (oZ bI (ah fun _ bJ=>?_));refine cR fun _ bK=>?_;refine oA (oZ bK (ai ?_));refine aL (fun (k:Nat)=>k=0) (fun (k:Nat)=>[(3,.int .i64 k)]) [(0,_),(2,_)] (fun (k:Nat)=>[]) (fun (k:Nat)=>k) 0 rfl aH aH aP ?_
 rintro k hk
 subst hk;refine ah fun _ bU=>?_;refine cR fun _ bT=>?_;refine oM (oM ?_);refine oS sN ?_;refine oS sF ?_;refine oS (az rfl ((aI.bj hw).iU hb rfl)) ?_;refine oS sC ?_;refine oS (bH rfl rfl (by decide)) ?_;refine oZ bT ?_;refine cF ?_;refine ay ?_;refine ad (ad (ag (xZ bJ (cR fun _ bZ=>?_))));refine oA (oA (oZ bZ (ah fun _ cj=>?_)));refine cR fun _ ck=>?_;refine oA (oZ ck ?_)
 refine ai ?_;refine aL (fun (k:Nat)=>k=0) (fun (k:Nat)=>[(7,.int .i64 k),(6,.slice none 0 0),(5,.slice none 0 0)]) [(0,_),(2,_)] (fun (k:Nat)=>[]) (fun (k:Nat)=>k) 0 rfl aH aH aP ?_
 rintro k hk
 subst hk;refine ah fun _ cQ=>?_;refine cR fun _ bw=>?_;refine oM (oM ?_);refine oS sN ?_;refine oS sF ?_;refine oS (az rfl ((aI.bj hw).iU hb rfl)) ?_;refine oS sC ?_;refine oS (bH rfl rfl (by decide)) ?_;refine oZ bw ?_;refine cF ?_;refine ay ?_;refine ad (ad (ag (xZ cj (ah fun _ bF=>?_))));refine cR fun _ bD=>?_;refine oA (oZ bD (ai ?_))
 refine aL (fun (k:Nat)=>k=0) (fun (k:Nat)=>[(10,.int .i64 k)]) [(0,_),(5,_),(6,_)] (fun (k:Nat)=>[]) (fun (k:Nat)=>k) 0 rfl aH aH aP ?_
 rintro k hk
 subst hk;refine ah fun _ cb=>?_;refine cR fun _ bL=>?_;refine oM (oM ?_);refine oS sC ?_;refine oS (bH rfl rfl (by decide)) ?_;refine oZ bL ?_;refine cF ?_;refine ay ?_;refine ad (ad (ag (xZ bF (cR fun _ bQ=>?_))));refine oA (oZ bQ (aA ?_));refine ?_;exact xR rfl rfl (rfl)
end Go.Proofs.YtmompllplidphaaGreatDoor
namespace Go.HL.Kl
open Go Go.HL
abbrev Cl:=BitVec 256
def wd (c:Cl)(i:Nat):BitVec 64:=c.extractLsb' (64*i) 64
def Ew (w:BitVec 64):Value:=.int .u64 w.toNat
def Ec (c:Cl):List Value:=[Ew (wd c 0),Ew (wd c 1),Ew (wd c 2),Ew (wd c 3)]
instance:eB Ec 4:=⟨fun _=>rfl,fun c v hv=>by simp[Ec,Ew] at hv;rcases hv with rfl|rfl|rfl|rfl <;> rfl⟩
theorem ia (c:Cl):∀ v∈Ec c,v.oneCell'=true:=eB.one c
theorem lF (c:Cl){i:Nat}(h:i<4):(Ec c)[i]?=some (Ew (wd c i)):=by
 match i,h with
 | 0,_=>rfl
 | 1,_=>rfl
 | 2,_=>rfl
 | 3,_=>rfl
def lQ (c:Cl)(i:Nat)(w:BitVec 64):Cl:=(c &&& ~~~ ((BitVec.allOnes 64).setWidth 256 <<< (64*i))) ||| (w.setWidth 256 <<< (64*i))
theorem Az (c:Cl){i:Nat}(w:BitVec 64)(_hi:i<4){j:Nat}(hj:j<256):(lQ c i w).getLsbD j=if 64*i≤j∧j<64*i+64 then w.getLsbD (j-64*i) else c.getLsbD j:=by
 simp only[lQ,BitVec.getLsbD_or,BitVec.getLsbD_and,BitVec.getLsbD_not,BitVec.getLsbD_shiftLeft,BitVec.getLsbD_setWidth,BitVec.getLsbD_allOnes,hj,decide_true,Bool.true_and]
 by_cases h1:j<64*i
 · simp[h1];omega
 · have h2:64*i≤j:=by omega
   by_cases h3:j<64*i+64
   · have h4:j-64*i<64:=by omega
     have h5:j-64*i<256:=by omega
     simp[h1,h2,h3,h4,h5]
   · have h4:¬ (j-64*i<64):=by omega
     have h5:w.getLsbD (j-64*i)=false:=BitVec.getLsbD_of_ge _ _ (by omega)
     simp[h1,h3,h4,h5]
theorem gG (c:Cl)(i:Nat){j:Nat}(hj:j<64):(wd c i).getLsbD j=c.getLsbD (64*i+j):=by
 simp[wd,hj]
theorem fO (c:Cl){i k:Nat}(w:BitVec 64)(hi:i<4)(hk:k<4):wd (lQ c i w) k=if i=k then w else wd c k:=by
 apply BitVec.eq_of_getLsbD_eq
 intro j hj
 rw[gG _ _ hj,Az _ _ hi (by omega)]
 by_cases e:i=k
 · subst e
   have:64*i+j-64*i=j:=by omega
   rw[if_pos (by omega),if_pos rfl,this]
 · rw[if_neg (by omega),if_neg e,gG _ _ hj]
theorem od (c:Cl){i:Nat}(w:BitVec 64)(hi:i<4):(Ec c).set i (Ew w)=Ec (lQ c i w):=by
 simp only[Ec,fO c w hi (by decide:0<4),fO c w hi (by decide:1<4),fO c w hi (by decide:2<4),fO c w hi (by decide:3<4)]
 match i,hi with
 | 0,_=>rfl
 | 1,_=>rfl
 | 2,_=>rfl
 | 3,_=>rfl
theorem yN {c d:Cl}(h:∀ i,i<4→wd c i=wd d i):c=d:=by
 apply BitVec.eq_of_getLsbD_eq
 intro j hj
 have h1:=congrArg (fun w=>BitVec.getLsbD w (j % 64)) (h (j / 64) (by omega))
 simp only[gG _ _ (show j % 64<64 by omega)] at h1
 have:64*(j / 64)+j % 64=j:=by omega
 rwa [this] at h1
theorem RU {c d:Cl}(h:Ec c=Ec d):c=d:=by
 simp only[Ec,Ew,List.cons.injEq,Value.int.injEq,true_and,and_true] at h
 obtain⟨h0,h1,h2,h3⟩:=h
 refine yN fun i hi=>?_
 match i,hi with
 | 0,_=>exact BitVec.eq_of_toNat_eq (by omega)
 | 1,_=>exact BitVec.eq_of_toNat_eq (by omega)
 | 2,_=>exact BitVec.eq_of_toNat_eq (by omega)
 | 3,_=>exact BitVec.eq_of_toNat_eq (by omega)
def Ic (c:Cl):List Int:=[((wd c 0).toNat:Int),((wd c 1).toNat:Int),((wd c 2).toNat:Int),((wd c 3).toNat:Int)]
theorem j7 (c:Cl):Ec c=cI .u64 (Ic c):=rfl
theorem CK {c d:Cl}:Ic c=Ic d↔c=d:=⟨fun h=>RU (by rw[j7,j7,h]),fun h=>by rw[h]⟩
def bit (x:Nat):Cl:=1#256 <<< x
theorem yO {x j:Nat}(hj:j<256):(bit x).getLsbD j=decide (j=x):=by
 simp only[bit,BitVec.getLsbD_shiftLeft,hj,decide_true,Bool.true_and,BitVec.getLsbD_one]
 by_cases h:j=x
 · subst h;simp
 · by_cases h2:j<x
   · simp[h,h2]
   · have:¬ (j-x=0):=by omega
     simp[h,h2];omega
theorem Ez (c:Cl){x:Nat}(hx:x<256):lQ c (x / 64) (wd c (x / 64) ||| (1#64 <<< (x % 64)))=c ||| bit x:=by
 apply BitVec.eq_of_getLsbD_eq
 intro j hj
 rw[Az _ _ (by omega) hj,BitVec.getLsbD_or (x:=c),yO hj]
 by_cases h:64*(x / 64)≤j∧j<64*(x / 64)+64
 · rw[if_pos h,BitVec.getLsbD_or,gG _ _ (by omega)]
   have e:64*(x / 64)+(j-64*(x / 64))=j:=by omega
   rw[e]
   congr 1
   simp only[BitVec.getLsbD_shiftLeft,BitVec.getLsbD_one]
   by_cases h2:j=x
   · have h3:j-64*(x / 64)=x % 64:=by omega
     simp[h2];omega
   · have h3:¬ (j-64*(x / 64)=x % 64):=by omega
     by_cases h4:j-64*(x / 64)<x % 64
     · simp[h2,h4]
     · have h5:¬ (j-64*(x / 64)-x % 64=0):=by omega
       simp[h2,h4];omega
 · rw[if_neg h]
   have h2:¬ (j=x):=by omega
   simp[h2]
theorem mU (n:Int):IntKind.u64.wrap n=n % 18446744073709551616:=by simp[IntKind.wrap,IntKind.signed,IntKind.bits]
theorem wrap64 (w:BitVec 64):IntKind.u64.wrap (w.toNat:Int)=w.toNat:=by
 have:=w.isLt
 rw[mU];omega
theorem GC (w:BitVec 64):BitVec.ofInt IntKind.u64.bits (w.toNat:Int)=w:=by
 apply BitVec.eq_of_toNat_eq
 have:=w.isLt
 simp[IntKind.bits]
theorem Rn (a b:BitVec 64):Value.int .u64 (IntKind.u64.wrap (BitVec.ofInt IntKind.u64.bits (a.toNat:Int) ||| BitVec.ofInt IntKind.u64.bits (b.toNat:Int)).toNat)=Ew (a ||| b):=by
 rw[GC,GC];exact congrArg _ (wrap64 _)
theorem Jg (a b:BitVec 64):Value.int .u64 (IntKind.u64.wrap (BitVec.ofInt IntKind.u64.bits (a.toNat:Int) &&& BitVec.ofInt IntKind.u64.bits (b.toNat:Int)).toNat)=Ew (a &&& b):=by
 rw[GC,GC];exact congrArg _ (wrap64 _)
theorem IL {k:Nat}(hk:k<64):Value.int .u64 (IntKind.u64.wrap (1*2 ^ (min ((k:Nat):Int).toNat IntKind.u64.bits)))=Ew (1#64 <<< k):=by
 have e:min ((k:Nat):Int).toNat IntKind.u64.bits=k:=by simp[IntKind.bits];omega
 rw[e]
 have h1:(2:Nat) ^ k<2 ^ 64:=Nat.pow_lt_pow_right (by decide) hk
 have h2:((2:Int) ^ k)=((2 ^ k:Nat):Int):=by simp
 simp only[Ew,Value.int.injEq,true_and,Int.one_mul]
 rw[h2,mU]
 have h3:(1#64 <<< k).toNat=2 ^ k:=by
   rw[BitVec.toNat_shiftLeft,BitVec.toNat_ofNat,Nat.shiftLeft_eq]
   simp
   exact h1
 rw[h3];omega
theorem RV (w:BitVec 64){k:Nat}(hk:k<64):decide (IntKind.u64.wrap (BitVec.ofInt IntKind.u64.bits ((w.toNat:Int).fdiv (2 ^ (min ((k:Nat):Int).toNat IntKind.u64.bits))) &&& BitVec.ofInt IntKind.u64.bits 1).toNat=1)=w.getLsbD k:=by
 have e:min ((k:Nat):Int).toNat IntKind.u64.bits=k:=by simp[IntKind.bits];omega
 rw[e]
 have h2:((2:Int) ^ k)=((2 ^ k:Nat):Int):=by simp
 have h3:(w.toNat:Int).fdiv (2 ^ k)=((w >>> k).toNat:Int):=by
   rw[h2,Int.fdiv_eq_ediv_of_nonneg _ (Int.natCast_nonneg _),BitVec.toNat_ushiftRight,Nat.shiftRight_eq_div_pow];rfl
 have h4:BitVec.ofInt IntKind.u64.bits 1=1#64:=rfl
 rw[h3,GC,h4]
 have h6:IntKind.u64.wrap ((w >>> k &&& 1#64).toNat:Int)=((w >>> k &&& 1#64).toNat:Int):=wrap64 _
 refine (congrArg (fun z=>decide (z=1)) h6).trans ?_
 have h5:(w >>> k &&& 1#64).toNat=if w.getLsbD k then 1 else 0:=by
   have:=BitVec.and_one_eq_setWidth_ofBool_getLsbD (x:=w >>> k)
   rw[this,BitVec.getLsbD_ushiftRight,Nat.add_zero]
   cases w.getLsbD k <;> rfl
 rw[h5]
 cases w.getLsbD k <;> simp
theorem Jj {x:Nat}(hx:x<256):((x:Int)).fdiv (2 ^ (min (6:Int).toNat IntKind.i64.bits))=((x / 64:Nat):Int):=by
 have:∀ x:Fin 256,((x.val:Int)).fdiv (2 ^ (min (6:Int).toNat IntKind.i64.bits))=((x.val / 64:Nat):Int):=by decide +kernel
 exact this ⟨x,hx⟩
theorem GB {x:Nat}(hx:x<256):IntKind.i64.wrap (BitVec.ofInt IntKind.i64.bits (x:Int) &&& BitVec.ofInt IntKind.i64.bits 63).toNat=((x % 64:Nat):Int):=by
 have:∀ x:Fin 256,IntKind.i64.wrap (BitVec.ofInt IntKind.i64.bits (x.val:Int) &&& BitVec.ofInt IntKind.i64.bits 63).toNat=((x.val % 64:Nat):Int):=by decide +kernel
 exact this ⟨x,hx⟩
theorem IK {x:Nat}(hx:x<256):IntKind.u8.wrap ((x:Int).tdiv 64)=((x / 64:Nat):Int):=by
 have:∀ x:Fin 256,IntKind.u8.wrap ((x.val:Int).tdiv 64)=((x.val / 64:Nat):Int):=by decide +kernel
 exact this ⟨x,hx⟩
theorem PZ {x:Nat}(hx:x<256):(x:Int).tmod 64=((x % 64:Nat):Int):=by
 have:∀ x:Fin 256,(x.val:Int).tmod 64=((x.val % 64:Nat):Int):=by decide +kernel
 exact this ⟨x,hx⟩
theorem tV {x:Nat}(hx:x<256):IntKind.u8.wrap (x:Int)=(x:Int):=by
 have:∀ x:Fin 256,IntKind.u8.wrap (x.val:Int)=(x.val:Int):=by decide +kernel
 exact this ⟨x,hx⟩
theorem uw {x:Nat}(hx:x<256):IntKind.i64.wrap (x:Int)=(x:Int):=by
 have:∀ x:Fin 256,IntKind.i64.wrap (x.val:Int)=(x.val:Int):=by decide +kernel
 exact this ⟨x,hx⟩
theorem Tz (c:Cl){x:Nat}(_hx:x<256):(wd c (x / 64)).getLsbD (x % 64)=c.getLsbD x:=by
 rw[gG _ _ (by omega)]
 congr 1;omega
theorem hasB (c:Cl){x:Nat}(hx:x<256):decide (IntKind.u64.wrap (BitVec.ofInt IntKind.u64.bits (((wd c (x / 64)).toNat:Int).fdiv (2 ^ (min (((x % 64:Nat):Nat):Int).toNat IntKind.u64.bits))) &&& BitVec.ofInt IntKind.u64.bits 1).toNat=1)=c.getLsbD x:=by
 rw[RV _ (by omega),Tz c hx]
theorem WX (w:BitVec 64):Value.int .u64 (IntKind.u64.wrap (BitVec.ofInt IntKind.u64.bits (if IntKind.u64.signed then -1 else IntKind.u64.max) ^^^ BitVec.ofInt IntKind.u64.bits (w.toNat:Int)).toNat)=Ew (~~~w):=by
 rw[GC]
 have e:BitVec.ofInt IntKind.u64.bits (if IntKind.u64.signed then -1 else IntKind.u64.max)=BitVec.allOnes 64:=rfl
 rw[e]
 have e2:BitVec.allOnes 64 ^^^ w = ~~~w:=BitVec.allOnes_xor
 have:=wrap64 (BitVec.allOnes 64 ^^^ w)
 refine (congrArg (Value.int .u64) this).trans ?_
 rw[e2];rfl
theorem bk:Ec 0#256 = [.int .u64 0,.int .u64 0,.int .u64 0,.int .u64 0]:=by simp[Ec,Ew,wd]
theorem rq (c:Cl):(Ic c).length=4:=rfl
section
variable {P:Program}{κ:Cx}{L:Loc}{H:Hp}{ty t t':TypeId}{x y:Operand}
theorem fq {e b:Nat}{k':IntKind} [TU P t (.array 4 e)] [TU P e (.int k')] [TG P e true] [TI P e 1 b] [EG P t]{c d:Cl}(hx:ev L x=some (.agg (Ec c).toArray))(hy:ev L y=some (.agg (Ec d).toArray)):Step P κ (.binOp .eql t x y t') ty L H (.bool (decide (c=d))):=
 ab (Hb (j:=.u64) (xs:=Ic c) (ys:=Ic d) (by rw[← j7];exact hx) (by rw[← j7];exact hy) (rq c) (rq d)) (congrArg Value.bool (decide_eq_decide.2 CK))
theorem gb {e b:Nat}{k':IntKind} [TU P t (.array 4 e)] [TU P e (.int k')] [TG P e true] [TI P e 1 b] [EG P t]{c d:Cl}(hx:ev L x=some (.agg (Ec c).toArray))(hy:ev L y=some (.agg (Ec d).toArray)):Step P κ (.binOp .neq t x y t') ty L H (.bool (decide (c≠d))):=
 ab (Hc (j:=.u64) (xs:=Ic c) (ys:=Ic d) (by rw[← j7];exact hx) (by rw[← j7];exact hy) (rq c) (rq d)) (congrArg Value.bool (decide_eq_decide.2 (not_congr CK)))
end
def uu (f:Nat→BitVec 64→BitVec 64)(c:Cl):Nat→Cl
 | 0=>c
 | i+1=>lQ (uu f c i) i (f i (wd (uu f c i) i))
theorem tE (f:Nat→BitVec 64→BitVec 64)(c:Cl):∀ (i:Nat),i≤4→∀ k,k<4→wd (uu f c i) k=if k<i then f k (wd c k) else wd c k
 | 0,_,k,_=>by simp[uu]
 | i+1,hi,k,hk=>by
   unfold uu
   rw[fO _ _ (by omega) hk]
   have ih:=fun k hk=>tE f c i (by omega) k hk
   by_cases e:i=k
   · subst e
     rw[if_pos rfl,if_pos (by omega),ih i (by omega),if_neg (by omega)]
   · rw[if_neg e,ih k hk]
     by_cases h:k<i
     · rw[if_pos h,if_pos (by omega)]
     · rw[if_neg h,if_neg (by omega)]
theorem Ye (a b:Cl)(k:Nat):wd (a ||| b) k=wd a k ||| wd b k:=by
 apply BitVec.eq_of_getLsbD_eq
 intro j hj
 rw[gG _ _ hj,BitVec.getLsbD_or,BitVec.getLsbD_or,gG _ _ hj,gG _ _ hj]
theorem TA (a b:Cl)(k:Nat):wd (a &&& b) k=wd a k &&& wd b k:=by
 apply BitVec.eq_of_getLsbD_eq
 intro j hj
 rw[gG _ _ hj,BitVec.getLsbD_and,BitVec.getLsbD_and,gG _ _ hj,gG _ _ hj]
theorem TC (a:Cl){k:Nat}(hk:k<4):wd (~~~a) k = ~~~(wd a k):=by
 apply BitVec.eq_of_getLsbD_eq
 intro j hj
 rw[gG _ _ hj,BitVec.getLsbD_not,BitVec.getLsbD_not,gG _ _ hj]
 have:64*k+j<256:=by omega
 simp[hj,this]
theorem NR (a b:Cl):uu (fun i w=>w ||| wd b i) a 4=a ||| b:=yN fun i hi=>by rw[tE _ _ 4 (by omega) i hi,if_pos hi,Ye]
theorem Jf (a b:Cl):uu (fun i w=>w &&& wd b i) a 4=a &&& b:=yN fun i hi=>by rw[tE _ _ 4 (by omega) i hi,if_pos hi,TA]
theorem Jh (a:Cl):uu (fun _ w=>~~~w) a 4 = ~~~a:=yN fun i hi=>by rw[tE _ _ 4 (by omega) i hi,if_pos hi,TC a hi]
theorem jc {c d:Cl}(h:∀ j,j<256→c.getLsbD j=d.getLsbD j):c=d:=BitVec.eq_of_getLsbD_eq fun j hj=>h j hj
def Part (p:Nat→Bool)(i:Nat)(c:Cl):Prop:=∀ j,j<256→c.getLsbD j=(decide (j<i)&&p j)
theorem Part.zero {p:Nat→Bool}:Part p 0 0#256:=fun j _=>by simp
theorem Part.yes {p:Nat→Bool}{i:Nat}{c:Cl}(h:Part p i c)(hp:p i=true):Part p (i+1) (c ||| bit i):=fun j hj=>by
 rw[BitVec.getLsbD_or,yO hj,h j hj]
 by_cases e:j=i
 · subst e;simp[hp]
 · have:(j<i+1)=(j<i):=by simp;omega
   simp[e,this]
theorem Part.no {p:Nat→Bool}{i:Nat}{c:Cl}(h:Part p i c)(hp:p i=false):Part p (i+1) c:=fun j hj=>by
 rw[h j hj]
 by_cases e:j=i
 · subst e;simp[hp]
 · have:(j<i+1)=(j<i):=by simp;omega
   simp[this]
def jz (lo:Nat):Nat→Cl
 | 0=>0
 | x+1=>if lo≤x then jz lo x ||| bit x else 0
def Gz (lo hi:Nat):Cl:=jz lo (hi+1)
theorem GA {lo x:Nat}(h:x≤lo):jz lo x=0:=by
 cases x with
 | zero=>rfl
 | succ x=>simp[jz];omega
theorem CJ {lo x:Nat}(h:lo≤x):jz lo (x+1)=jz lo x ||| bit x:=by simp[jz,h]
theorem rD (lo:Nat):∀ (x j:Nat),j<256→(jz lo x).getLsbD j=(decide (lo≤j)&&decide (j<x))
 | 0,j,_=>by simp[jz]
 | x+1,j,hj=>by
   unfold jz
   split
   · rename_i h
     rw[BitVec.getLsbD_or,yO hj,rD lo x j hj]
     by_cases e:j=x
     · subst e;simp[h]
     · have:(j<x+1)=(j<x):=by simp;omega
       simp[e,this]
   · rename_i h
     have:¬ (lo≤j∧j<x+1):=by omega
     simp;omega
theorem Fq {lo hi j:Nat}(hj:j<256):(Gz lo hi).getLsbD j=(decide (lo≤j)&&decide (j≤hi)):=by
 rw[Gz,rD _ _ _ hj]
 have:(j<hi+1)=(j≤hi):=by simp;omega
 simp only[this]
theorem NS {lo hi x:Nat}(h1:lo≤x)(h2:hi<x)(h3:x≤max lo (hi+1)):jz lo x=Gz lo hi:=by
 apply jc
 intro j hj
 rw[rD _ _ _ hj,Fq hj]
 by_cases h:lo≤j
 · have:(j<x)=(j≤hi):=by simp;omega
   simp[h,this]
 · simp[h]
def ofL (l:List UInt8):Cl:=l.foldl (fun c b=>c ||| bit b.toNat) 0
def TD (c:Cl)(i:Nat):Nat:=(List.range i).countP c.getLsbD
def size (c:Cl):Nat:=TD c 256
def eJ (c:Cl)(i:Nat):List Nat:=(List.range i).filter c.getLsbD
def fV (c:Cl):List Nat:=eJ c 256
theorem xE {c:Cl}{i b:Nat}(h:b∈eJ c i):b<i∧c.getLsbD b=true:=by
 simpa [eJ] using h
def Eby (b:Nat):List Value:=[.int .u8 b]
instance:eB Eby 1:=⟨fun _=>rfl,fun _ _ h=>by simp[Eby] at h;subst h;rfl⟩
end Go.HL.Kl
namespace Go.HL.Kl
open Go Go.HL
def pk (k:Nat):Nat→(Nat→Nat)→Nat
 | 0,_=>0
 | n+1,f=>2 ^ k*pk k n (fun i=>f (i+1))+f 0
def bt (w:BitVec 64)(i:Nat):Nat:=if w.getLsbD i then 1 else 0
def anF (w:BitVec 64):Nat:=(List.range 64).countP w.getLsbD
def anG (f:Nat→Nat)(i:Nat):Nat:=f (2*i)+f (2*i+1)
def Ij (w:BitVec 64):BitVec 64:=((w >>> 1) &&& 6148914691236517205#64)+(w &&& 6148914691236517205#64)
def oc2 (w:BitVec 64):BitVec 64:=((w >>> 2) &&& 3689348814741910323#64)+(w &&& 3689348814741910323#64)
def oc3 (w:BitVec 64):BitVec 64:=((w >>> 4)+w) &&& 1085102592571150095#64
def oc4 (k:Nat)(w:BitVec 64):BitVec 64:=w+(w >>> k)
def sm (f:Nat→Nat):Nat→Nat
 | 0=>0
 | n+1=>sm f n+f n
theorem kj (a b:Nat):List.range (a+b)=List.range a++(List.range b).map (fun i=>a+i):=by
 rw[List.range_eq_range',List.range_eq_range',List.range_eq_range',← List.range'_append_1 (s:=0)]
 simp[List.map_add_range']
theorem ML (w:BitVec 64)(h:w≠0#64):Lib.ctz 64 w.toNat<64∧w.getLsbD (Lib.ctz 64 w.toNat)=true∧(∀ j,j<Lib.ctz 64 w.toNat→w.getLsbD j=false)∧∀ j,(w &&& (w-1#64)).getLsbD j=(w.getLsbD j&&decide (j≠Lib.ctz 64 w.toNat)):=by
 have h0:w.toNat≠0:=fun e=>h (BitVec.eq_of_toNat_eq (by simpa using e))
 obtain⟨m,hm,hk⟩:=Lib.ctzFrom_spec 64 w.toNat (by omega) w.isLt
 have hc:Lib.ctz 64 w.toNat=Lib.ctzFrom 64 w.toNat:=by simp[Lib.ctz,h0]
 rw[hc]
 obtain⟨k,sB⟩:∃ k,k=Lib.ctzFrom 64 w.toNat:=⟨_,rfl⟩
 rw[← sB] at hm hk ⊢
 have hp:0<2 ^ k:=Nat.two_pow_pos k
 have VR:∀ j,w.getLsbD j=if j<k then false else (2*m+1).testBit (j-k):=by
   intro j
   rw[BitVec.getLsbD,hm]
   have:=Nat.testBit_two_pow_mul_add (2*m+1) (b:=0) hp j
   rw[Nat.add_zero] at this
   rw[this]
   simp
 have hs:(w-1#64).toNat=2 ^ k*(2*m)+(2 ^ k-1):=by
   have e1:(w-1#64).toNat=w.toNat-1:=by
     rw[BitVec.toNat_sub]
     have:=w.isLt
     simp;omega
   rw[e1,hm,Nat.mul_add]
   omega
 have bits:∀ j,(w-1#64).getLsbD j=if j<k then (2 ^ k-1).testBit j else (2*m).testBit (j-k):=by
   intro j
   rw[BitVec.getLsbD,hs]
   exact Nat.testBit_two_pow_mul_add (2*m) (by omega) j
 refine⟨hk,?_,?_,?_⟩
 · rw[VR];simp
 · intro j hj;rw[VR];simp[hj]
 · intro j
   rw[BitVec.getLsbD_and,VR,bits]
   by_cases h1:j<k
   · simp[h1]
   · simp only[h1,if_false]
     by_cases h2:j=k
     · subst h2;simp
     · obtain⟨i,hi⟩:∃ i,j-k=i+1:=⟨j-k-1,by omega⟩
       rw[hi,Nat.testBit_succ,Nat.testBit_succ]
       have e1:(2*m+1) / 2=m:=by omega
       have e2:2*m / 2=m:=by omega
       rw[e1,e2];simp[h2]
def qE (i:Nat)(w:BitVec 64):List Nat:=((List.range 64).filter w.getLsbD).map fun j=>64*i+j
theorem sX {p q:Nat→Bool}{n k:Nat}(hk:k<n)(h1:∀ j,j<k→p j=false)(gS:p k=true)(hq:∀ j,q j=(p j&&decide (j≠k))):(List.range n).filter p=k::(List.range n).filter q:=by
 have e:n=k+(1+(n-k-1)):=by omega
 rw[e,kj k,kj 1,List.filter_append,List.filter_append,List.map_append,List.filter_append,List.filter_append]
 have a1:(List.range k).filter p = []:=by
   rw[List.filter_eq_nil_iff];intro j hj;simp[h1 j (by simpa using hj)]
 have a2:(List.range k).filter q = []:=by
   rw[List.filter_eq_nil_iff];intro j hj;simp[hq,h1 j (by simpa using hj)]
 have a3:(List.map (fun i=>k+i) (List.range 1)).filter p = [k]:=by simp[gS]
 have a4:(List.map (fun i=>k+i) (List.range 1)).filter q = []:=by simp[hq]
 rw[a1,a2,a3,a4]
 simp only[List.nil_append,List.singleton_append,List.cons.injEq,true_and]
 apply List.filter_congr
 intro j hj
 simp only[List.map_map,List.mem_map,List.mem_range,Function.comp] at hj
 obtain⟨i,_,rfl⟩:=hj
 rw[hq]
 have:¬ (k+(1+i)=k):=by omega
 simp
theorem H3 (i:Nat)(w:BitVec 64)(h:w≠0#64):qE i w=(64*i+Lib.ctz 64 w.toNat)::qE i (w &&& (w-1#64)):=by
 obtain⟨h1,h2,h3,h4⟩:=ML w h
 unfold qE
 rw[sX h1 h3 h2 h4]
 rfl
theorem HT (i:Nat):qE i 0#64 = []:=by simp[qE]
theorem BY (c:Cl)(i:Nat):eJ c (64*i+64)=eJ c (64*i)++qE i (wd c i):=by
 unfold eJ qE
 rw[kj,List.filter_append,List.filter_map]
 congr 2
 apply List.filter_congr
 intro j hj
 have M6:j<64:=by simpa using hj
 simp[gG c i M6]
def ak0 (c:Cl)(i:Nat)(w:BitVec 64):List Nat:=qE i w++(fV c).drop (eJ c (64*i+64)).length
theorem n6 (c:Cl){i j:Nat}(h:i≤j):eJ c i <+: eJ c j:=by
 obtain⟨d,rfl⟩:∃ d,j=i+d:=⟨j-i,by omega⟩
 unfold eJ
 rw[kj,List.filter_append]
 exact List.prefix_append _ _
theorem H2 (c:Cl){i:Nat}(hi:i<4):fV c=eJ c (64*i)++(qE i (wd c i)++(fV c).drop (eJ c (64*i+64)).length):=by
 obtain⟨r,hr⟩:=n6 c (i:=64*i+64) (j:=256) (by omega)
 have e:fV c=eJ c (64*i+64)++r:=hr.symm
 rw[e]
 rw[List.drop_left,BY,List.append_assoc]
theorem aaF (w:BitVec 64){n:Int}(k:Nat)(h:min n.toNat IntKind.u64.bits=k):Value.int .u64 ((w.toNat:Int).fdiv (2 ^ (min n.toNat IntKind.u64.bits)))=Ew (w >>> k):=by
 rw[h]
 have h2:((2:Int) ^ k)=((2 ^ k:Nat):Int):=by simp
 rw[h2,Int.fdiv_eq_ediv_of_nonneg _ (Int.natCast_nonneg _)]
 simp only[Ew,BitVec.toNat_ushiftRight,Nat.shiftRight_eq_div_pow]
 rfl
theorem Vt (a:BitVec 64):Value.int .u64 (IntKind.u64.wrap ((a.toNat:Int)-1))=Ew (a-1#64):=by
 simp only[Ew,Value.int.injEq,true_and,BitVec.toNat_sub]
 have:=a.isLt
 rw[mU];simp;omega
def Er (r:Nat×Nat):List Value:=[.int .u8 r.1,.int .u8 r.2]
instance:eB Er 2:=⟨fun _=>rfl,fun _ v hv=>by simp[Er] at hv;rcases hv with rfl|rfl <;> rfl⟩
def alike (l:List Cl)(x y:Nat):Bool:=l.all fun c=>c.getLsbD x==c.getLsbD y
theorem Cj {l:List Cl}{x y i:Nat}(h:alike (l.take i) x y=true)(hi:i<l.length)(he:l[i].getLsbD x=l[i].getLsbD y):alike (l.take (i+1)) x y=true:=by
 unfold alike at *
 rw[List.take_add_one,List.getElem?_eq_getElem hi,Option.toList_some,List.all_append,h]
 simp[he]
theorem Ai {l:List Cl}{x y i:Nat}(hi:i<l.length)(he:l[i].getLsbD x≠l[i].getLsbD y):alike l x y=false:=by
 unfold alike
 rw[List.all_eq_false]
 exact⟨l[i],List.getElem_mem hi,by simp[he]⟩
def CE:List Value:=Lib.deBruijn64tab.map fun n:Nat=>Value.int .u8 n
def Tb (S:Hp)(w:World):Prop:=r9 w 0 0 CE∧0∉keys S
theorem Vl {w:World}{b:Nat}{v:Value}{vs:List Value}(h:r9 w b 0 (v::vs)):b<w.heap.size:=by
 have h1:=h.get 0 v rfl
 rcases Nat.lt_or_ge b w.heap.size with h'|h'
 · exact h'
 · simp[World.cell?,Array.getElem?_eq_none h'] at h1
theorem Tb.lt {S:Hp}{w:World}(h:Tb S w):0<w.heap.size:=Vl (v:=.int .u8 (0:Nat)) (vs:=CE.tail) h.1
theorem dI {S H1 S1:Hp}{w0 w:World}{n:Nat}{ds:List Deferred}(h:Tb S w0)(st:St (Cx.mk n ds w0 (keys S)).w0 w (Cx.mk n ds w0 (keys S)).M H1)(hs:HSub H1 S1):Tb S1 w:=by
 refine⟨(aI.old (κ:=⟨n,ds,w0,keys S⟩) (H:=H1) h.1 h.2).out w st,fun hm=>?_⟩
 obtain⟨⟨b,o⟩,hm,hb⟩:=List.mem_map.1 hm
 have hb:b=0:=hb
 subst hb
 have st1:=st.sub hs
 rcases st1.own _ _ hm with h1|h1
 · exact h.2 h1
 · have:=h.lt
   have h1:w0.heap.size≤0:=h1
   omega
theorem aat (w:BitVec 64):Value.int .u64 (IntKind.u64.wrap (0-(w.toNat:Int)))=Ew (-w):=by
 simp only[Ew,Value.int.injEq,true_and,BitVec.toNat_neg]
 have:=w.isLt
 rw[mU];omega
theorem aau (a b:BitVec 64):Value.int .u64 (IntKind.u64.wrap ((a.toNat:Int)*(b.toNat:Int)))=Ew (a*b):=by
 have e:IntKind.u64.wrap ((a.toNat:Int)*(b.toNat:Int))=((a*b).toNat:Int):=by
   rw[mU,BitVec.toNat_mul,Int.natCast_emod,Int.natCast_mul];rfl
 rw[e];rfl
theorem Vm (a:BitVec 64):Value.int .u64 (IntKind.u64.wrap ((a.toNat:Int)*285870213051353865))=Ew (a*285870213051353865#64):=by
 have h:=aau a (285870213051353865#64)
 have e:((285870213051353865#64).toNat:Int)=285870213051353865:=by decide
 rw[e] at h
 exact h
theorem PD {w:BitVec 64}(h:(w.toNat:Int)≠0):w≠0#64:=fun e=>h (by rw[e];rfl)
theorem PE {w:BitVec 64}(h:¬ (w.toNat:Int)≠0):w=0#64:=BitVec.eq_of_toNat_eq (by simp at h;simpa using h)
theorem Mu {w:BitVec 64}(h:(w.toNat:Int)=0):Lib.ctz 64 w.toNat=64:=by
 have:w.toNat=0:=by omega
 simp[Lib.ctz,this]
theorem Vn (w:BitVec 64):Lib.ctz 64 w.toNat≤64:=by
 by_cases h:w.toNat=0
 · simp[Lib.ctz,h]
 · have:=(Lib.lowest_bit 64 w.toNat h w.isLt).2;omega
theorem PF {k q:Nat}(h3:q<64)(h4:Lib.deBruijn64tab.getD q 0=k):CE[q]?=some (.int .u8 (k:Int)):=by
 have hl:Lib.deBruijn64tab.length=64:=rfl
 unfold CE
 rw[List.getElem?_map]
 rw[List.getD_eq_getElem?_getD] at h4
 rw[List.getElem?_eq_getElem (by rw[hl];exact h3)] at h4 ⊢
 simp at h4
 simp[h4]
theorem Vo (w:BitVec 64)(h:¬ (w.toNat:Int)=0):(((w &&& -w)*285870213051353865#64) >>> 58).toNat<64∧CE[(((w &&& -w)*285870213051353865#64) >>> 58).toNat]?=some (.int .u8 ((Lib.ctz 64 w.toNat:Nat):Int)):=by
 have h0:w.toNat≠0:=by omega
 obtain⟨h1,h2⟩:=Lib.lowest_bit 64 w.toNat h0 w.isLt
 obtain⟨h3,h4⟩:=Lib.deBruijn64_at _ h2
 have e0:(285870213051353865#64).toNat=285870213051353865:=by decide
 have e1:(-w).toNat=2 ^ 64-w.toNat:=by
   rw[BitVec.toNat_neg]
   have:=w.isLt
   exact Nat.mod_eq_of_lt (by omega)
 have e:(((w &&& -w)*285870213051353865#64) >>> 58).toNat=2 ^ Lib.ctz 64 w.toNat*285870213051353865 % 18446744073709551616 / 288230376151711744:=by
   rw[BitVec.toNat_ushiftRight,Nat.shiftRight_eq_div_pow,BitVec.toNat_mul,BitVec.toNat_and,e1,h1,e0]
 rw[e]
 exact⟨h3,PF h3 h4⟩
theorem agQ {i:Nat}(h:i<4):IntKind.i64.wrap ((i:Int)*2 ^ (min (6:Int).toNat IntKind.i64.bits))=((64*i:Nat):Int):=by
 have:∀ i:Fin 4,IntKind.i64.wrap ((i.val:Int)*2 ^ (min (6:Int).toNat IntKind.i64.bits))=((64*i.val:Nat):Int):=by decide +kernel
 exact this ⟨i,h⟩
theorem HR {c:Cl}{i:Nat}{w:BitVec 64}{p:List Nat}(hi:i<4)(hm:fV c=p++(qE i w++(fV c).drop (eJ c (64*i+64)).length))(hz:w=0#64):p=eJ c (64*(i+1)):=by
 subst hz
 rw[HT,List.nil_append] at hm
 have hp:eJ c (64*i+64) <+: fV c:=n6 c (by omega)
 have hl:=hp.length_le
 have h1:=congrArg List.length hm
 rw[List.length_append,List.length_drop] at h1
 have h2:p.length=(eJ c (64*i+64)).length:=by omega
 have h3:p <+: fV c:=⟨_,hm.symm⟩
 rw[show 64*(i+1)=64*i+64 by omega]
 rw[List.prefix_iff_eq_take] at h3 hp
 rw[h3,hp,h2,← hp]
theorem zm {c:Cl}{p:List Nat}{x:Nat}(h:p++[x] <+: fV c):x<256:=by
 have:x∈fV c:=h.subset (by simp)
 exact (xE this).1
def least (c:Cl):Nat:=(fV c).headD 256
theorem vv {c:Cl}{x:Nat}(h:[x] <+: fV c):(x:Int)=((least c:Nat):Int):=by
 obtain⟨r,hr⟩:=h
 simp[least,← hr]
theorem HU {c:Cl}(h:fV c = []):(256:Int)=((least c:Nat):Int):=by simp[least,h]
def QP (l:List (Nat×Nat)):Nat×Nat:=l.getD (l.length-1) (0,0)
def Zn (l:List (Nat×Nat))(b:Nat):List (Nat×Nat):=if 0<l.length∧(QP l).2+1=b then l.set (l.length-1) ((QP l).1,b) else l++[(b,b)]
def Zo (p:List Nat):List (Nat×Nat):=p.foldl Zn []
def runs (c:Cl):List (Nat×Nat):=Zo (fV c)
theorem DE {α:Type}(l:List α):l = []∨∃ q y,l=q++[y]:=by
 rcases List.eq_nil_or_concat l with h|⟨q,y,h⟩
 · exact .inl h
 · exact .inr ⟨q,y,by simpa using h⟩
end Go.HL.Kl
