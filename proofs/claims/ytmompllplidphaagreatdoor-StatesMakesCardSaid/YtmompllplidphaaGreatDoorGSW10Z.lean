/- Part of the proofs over this seat: see the text that holds the theorem. Conditions: each theorem bears its own. -/
import Derived.Test.YtmompllplidphaaGreatDoorHTZ
import Derived.Test.YtmompllplidphaaGreatDoorSM10Z
import Derived.Test.YtmompllplidphaaGreatDoorHlB
import Derived.Test.YtmompllplidphaaGreatDoorGSC1Z
namespace Go.Proofs.YtmompllplidphaaGreatDoor
open Go Go.HL Go.Proofs Go.HL.Kl Go.HL.Kl.Mc Go.HL.cm
structure Cu (d:Df)(aa:Option Addr)(ac:Nat)(na:Option Addr)(nc:Nat)(rows:List (Sl Int))(ea:Option Addr)(ec:Nat)(w:World):Prop where
 at_:Rd Ec w (.slice aa d.atoms.length ac) d.atoms
 nx:Rd cX w (.slice na rows.length nc) rows
 IQ:∀ s∈rows,Rd Ei w s.v s.xs
 en:Rd fR w (.slice ea d.ends.length ec) d.ends
theorem Cu.old {d:Df}{aa:Option Addr}{ac:Nat}{na:Option Addr}{nc:Nat}{rows:List (Sl Int)}{ea:Option Addr}{ec:Nat}{w0 w:World}{H:Hp}(h:Cu d aa ac na nc rows ea ec w0)(st:St w0 w [] H):Cu d aa ac na nc rows ea ec w:=
 ⟨(cq.bj (n:=0) (ds:=[]) h.at_).out w st,(cq.bj (n:=0) (ds:=[]) h.nx).out w st,fun s hs=>(cq.bj (n:=0) (ds:=[]) (h.IQ s hs)).out w st,(cq.bj (n:=0) (ds:=[]) h.en).out w st⟩
theorem VP (a:Option Addr)(c:Nat)(xs:List Int)(h0:0<xs.length):HL.Fn Tryz.prog 123 [.slice a xs.length c] (fun w=>Rd Ei w (.slice a xs.length c) xs) [] (fun v _=>∃ m:Int,v = .int .i64 m∧m∈xs∧∀ x∈xs,m≤x):=by
 refine aW Tryz.func123 rfl rfl rfl fun w0 hw=>?_
 have gk:=hw.sl
 have Cf:=gk.le
 obtain⟨x0,qG⟩:∃ x,xs[0]?=some x:=⟨_,List.getElem?_eq_getElem h0⟩
 refine cR fun _ bI=>?_;refine oA (oZ bI (ah fun _ bJ=>?_));refine cR fun _ bK=>?_;refine oM ?_;refine oS sC ?_;refine oS (bH rfl rfl (by omega)) ?_;refine oZ bK ?_;refine eL bJ (cR fun _ bU=>?_);refine oM ?_;refine oS (au rfl rfl gk (by omega)) ?_;refine oS (az rfl ((cq.bj hw).ld 0 0 qG rfl (by decide) (by omega))) ?_;refine oA (oZ bU (ah fun _ bT=>?_));refine cR fun _ bZ=>?_;refine oA (oZ bZ ?_)
 refine ai ?_;refine cY (fun (k:Nat)(m:Int)=>1≤k∧k≤xs.length∧m∈xs∧∀ x∈xs.take k,m≤x) (fun (k:Nat)(m:Int)=>[(3,.int .i64 m),(4,.int .i64 k)]) [(0,_),(2,_)] (fun (k:Nat)(m:Int)=>[]) (fun (k:Nat)(m:Int)=>xs.length-k) 1 x0 ⟨Nat.le_refl _,h0,List.mem_of_getElem? qG,fun x hx=>by rw[aY (k:=0) qG] at hx;simp at hx;omega⟩ aH aH aP ?_
 rintro k m ⟨h1,hk,hm,hr⟩
 refine ah fun _ cj=>?_;refine cR fun _ ck=>?_;refine oM (oM ?_);refine oS sC ?_
 by_cases cH:k<xs.length
 ·obtain⟨y,hy⟩:∃ y,xs[k]?=some y:=gE
  refine oS (ab (v':=.bool true) (aF rfl rfl) (congrArg Value.bool (decide_eq_true (by omega)))) ?_;refine oZ ck ?_;refine gp cj (ah fun _ cQ=>?_);refine ai (ae (oM (oM (oM ?_))));refine oS (au rfl rfl gk (by omega)) ?_;refine oS (az rfl ((cq.bj hw).ld k 0 hy rfl (by decide) (by omega))) ?_;refine oS (pg rfl rfl) ?_;refine oA (ak (aq (xZ cQ (ae (oM ?_)))));refine oS sD (oA (ak ?_));exact xI (k+1,min m y) ⟨by omega,by omega,by show min m y∈xs;rcases (show min m y=m∨min m y=y by omega) with h|h;(· rw[h];exact hm);(· rw[h];exact List.mem_of_getElem? hy),fun x hx=>by rw[aY hy] at hx;rcases List.mem_append.1 hx with h|h;(· have:=hr x h;dsimp only;omega);(· rw[List.mem_singleton.1 h];dsimp only;omega)⟩
 ·obtain rfl:k=xs.length:=by omega
  refine oS (ab (v':=.bool false) (aF rfl rfl) (congrArg Value.bool (decide_eq_false (by omega)))) ?_;refine oZ ck ?_;refine cF ?_;refine ay ?_;refine ad (ad (ag (xZ bT (cR fun _ bw=>?_))));refine oM (oA (oZ bw (aA ?_)));refine ?_;exact xR rfl rfl (⟨m,rfl,hm,fun x hx=>hr x (by rw[List.take_length];exact hx)⟩)
theorem VQ (a:Option Addr)(c:Nat)(xs:List Int)(h0:0<xs.length):HL.Fn Tryz.prog 124 [.slice a xs.length c] (fun w=>Rd Ei w (.slice a xs.length c) xs) [] (fun v _=>∃ m:Int,v = .int .i64 m∧m∈xs∧∀ x∈xs,x≤m):=by
 refine aW Tryz.func124 rfl rfl rfl fun w0 hw=>?_
 have gk:=hw.sl
 have Cf:=gk.le
 obtain⟨x0,qG⟩:∃ x,xs[0]?=some x:=⟨_,List.getElem?_eq_getElem h0⟩
 refine cR fun _ bI=>?_;refine oA (oZ bI (ah fun _ bJ=>?_));refine cR fun _ bK=>?_;refine oM ?_;refine oS sC ?_;refine oS (bH rfl rfl (by omega)) ?_;refine oZ bK ?_;refine eL bJ (cR fun _ bU=>?_);refine oM ?_;refine oS (au rfl rfl gk (by omega)) ?_;refine oS (az rfl ((cq.bj hw).ld 0 0 qG rfl (by decide) (by omega))) ?_;refine oA (oZ bU (ah fun _ bT=>?_));refine cR fun _ bZ=>?_;refine oA (oZ bZ ?_)
 refine ai ?_;refine cY (fun (k:Nat)(m:Int)=>1≤k∧k≤xs.length∧m∈xs∧∀ x∈xs.take k,x≤m) (fun (k:Nat)(m:Int)=>[(3,.int .i64 m),(4,.int .i64 k)]) [(0,_),(2,_)] (fun (k:Nat)(m:Int)=>[]) (fun (k:Nat)(m:Int)=>xs.length-k) 1 x0 ⟨Nat.le_refl _,h0,List.mem_of_getElem? qG,fun x hx=>by rw[aY (k:=0) qG] at hx;simp at hx;omega⟩ aH aH aP ?_
 rintro k m ⟨h1,hk,hm,hr⟩
 refine ah fun _ cj=>?_;refine cR fun _ ck=>?_;refine oM (oM ?_);refine oS sC ?_
 by_cases cH:k<xs.length
 ·obtain⟨y,hy⟩:∃ y,xs[k]?=some y:=gE
  refine oS (ab (v':=.bool true) (aF rfl rfl) (congrArg Value.bool (decide_eq_true (by omega)))) ?_;refine oZ ck ?_;refine gp cj (ah fun _ cQ=>?_);refine ai (ae (oM (oM (oM ?_))));refine oS (au rfl rfl gk (by omega)) ?_;refine oS (az rfl ((cq.bj hw).ld k 0 hy rfl (by decide) (by omega))) ?_;refine oS (IE rfl rfl) ?_;refine oA (ak (aq (xZ cQ (ae (oM ?_)))));refine oS sD (oA (ak ?_));exact xI (k+1,max m y) ⟨by omega,by omega,by show max m y∈xs;rcases (show max m y=m∨max m y=y by omega) with h|h;(· rw[h];exact hm);(· rw[h];exact List.mem_of_getElem? hy),fun x hx=>by rw[aY hy] at hx;rcases List.mem_append.1 hx with h|h;(· have:=hr x h;dsimp only;omega);(· rw[List.mem_singleton.1 h];dsimp only;omega)⟩
 ·obtain rfl:k=xs.length:=by omega
  refine oS (ab (v':=.bool false) (aF rfl rfl) (congrArg Value.bool (decide_eq_false (by omega)))) ?_;refine oZ ck ?_;refine cF ?_;refine ay ?_;refine ad (ad (ag (xZ bT (cR fun _ bw=>?_))));refine oM (oA (oZ bw (aA ?_)));refine ?_;exact xR rfl rfl (⟨m,rfl,hm,fun x hx=>hr x (by rw[List.take_length];exact hx)⟩)
set_option maxHeartbeats 2000000 in
theorem om (d:Df)(aa:Option Addr)(ac:Nat)(na:Option Addr)(nc:Nat)(rows:List (Sl Int))(ea:Option Addr)(ec:Nat)(hx:d.next=rows.map Sl.xs):HL.Fn Tryz.prog 75 [.agg [.slice aa d.atoms.length ac,.slice na rows.length nc,.slice ea d.ends.length ec].toArray] (fun w=>Cu d aa ac na nc rows ea ec w∧Tb [] w) [] (fun v _=>v = .bool (wb d)):=by
 refine zj Tryz.func75 rfl rfl rfl fun w0 hw=>?_
 have Ik:=hw.1.at_.sl
 have oR:=hw.1.nx.sl
 have B3:=hw.1.en.sl
 have hba:=Ik.le
 have hbn:=oR.le
 have wY:d.next.length=rows.length:=by rw[hx,List.length_map]
 refine bn fun _ bI=>?_;refine ae ?_;refine cB rfl rfl rfl fun b1=>?_;refine oA (ak ?_);refine av (bI _ _ _ ?_);refine bn fun _ bJ=>?_;refine ae ?_;refine oS sF ?_;refine oS sL ?_;refine oS sC (oA (ak ?_));refine av (bJ _ _ _ ?_);refine bn fun _ bK=>?_;refine bn fun _ bU=>?_;refine ae (oM ?_)
 by_cases g1:d.ends.length<1
 ·refine oS (ab (v':=.bool true) (aF rfl rfl) (congrArg Value.bool (decide_eq_true (by omega)))) ?_;refine oM ?_;refine oN ?_;refine oN ?_;refine oS sT (oM ?_);refine oN ?_;refine oN ?_;refine oN ?_;refine oN ?_;refine oN ?_;refine oS sT (oM ?_);refine oN ?_;refine oN ?_;refine oN ?_;refine oN ?_;refine oS sT (oM ?_);refine oN ?_;refine oN ?_;refine oN ?_;refine oN ?_;refine oS sT (ak ?_);refine av (bU _ _ _ ?_);refine cT ?_;refine bn fun _ bT=>?_;refine ae (oA (ak ?_));refine av (bT _ _ _ ?_);refine aA ?_;refine aj (?_);exact fh (.nil) .nil rfl (.tmp rfl (.nil)) ((congrArg Value.bool (m8 (fun h=>by obtain⟨q1,q2,q3,q4,q5⟩:=h;omega)).symm))
 ·refine oS (ab (v':=.bool false) (aF rfl rfl) (congrArg Value.bool (decide_eq_false (by omega)))) ?_;refine oM ?_;refine oY (oM ?_);refine oY ?_
  by_cases g2:256<d.ends.length
  ·refine oS (ab (v':=.bool true) (eX rfl rfl) (congrArg Value.bool (decide_eq_true (by omega)))) ?_;refine oS sP (oM ?_);refine oN ?_;refine oN ?_;refine oN ?_;refine oN ?_;refine oN ?_;refine oS sT (oM ?_);refine oN ?_;refine oN ?_;refine oN ?_;refine oN ?_;refine oS sT (oM ?_);refine oN ?_;refine oN ?_;refine oN ?_;refine oN ?_;refine oS sT (ak ?_);refine av (bU _ _ _ ?_);refine cT ?_;refine bn fun _ bZ=>?_;refine ae (oA (ak ?_));refine av (bZ _ _ _ ?_);refine aA ?_;refine aj (?_);exact fh (.nil) .nil rfl (.tmp rfl (.nil)) ((congrArg Value.bool (m8 (fun h=>by obtain⟨q1,q2,q3,q4,q5⟩:=h;omega)).symm))
  ·refine oS (ab (v':=.bool false) (eX rfl rfl) (congrArg Value.bool (decide_eq_false (by omega)))) ?_;refine oS sP (oM ?_);refine oY ?_;refine oS sF ?_;refine oY ?_;refine oS sL ?_;refine oY ?_;refine oS sC ?_;refine oY (oM ?_);refine oY ?_
   by_cases g3:rows.length≠d.ends.length
   ·refine oS (ab (v':=.bool true) (eY rfl rfl) (congrArg Value.bool (decide_eq_true (by omega)))) ?_;refine oS sP (oM ?_);refine oN ?_;refine oN ?_;refine oN ?_;refine oN ?_;refine oS sT (oM ?_);refine oN ?_;refine oN ?_;refine oN ?_;refine oN ?_;refine oS sT (ak ?_);refine av (bU _ _ _ ?_);refine cT ?_;refine bn fun _ cj=>?_;refine ae (oA (ak ?_));refine av (cj _ _ _ ?_);refine aA ?_;refine aj (?_);exact fh (.nil) .nil rfl (.tmp rfl (.nil)) ((congrArg Value.bool (m8 (fun h=>by obtain⟨q1,q2,q3,q4,q5⟩:=h;omega)).symm))
   ·refine oS (ab (v':=.bool false) (eY rfl rfl) (congrArg Value.bool (decide_eq_false (by omega)))) ?_;refine oS sP (oM ?_);refine oY ?_;refine oS sF ?_;refine oY ?_;refine oS sL ?_;refine oY ?_;refine oS sC ?_;refine oY ?_
    by_cases g4:d.atoms.length<1
    ·refine oS (ab (v':=.bool true) (aF rfl rfl) (congrArg Value.bool (decide_eq_true (by omega)))) ?_;refine oS sP (oM ?_);refine oN ?_;refine oN ?_;refine oN ?_;refine oN ?_;refine oS sT (ak ?_);refine av (bU _ _ _ ?_);refine cT ?_;refine bn fun _ ck=>?_;refine ae (oA (ak ?_));refine av (ck _ _ _ ?_);refine aA ?_;refine aj (?_);exact fh (.nil) .nil rfl (.tmp rfl (.nil)) ((congrArg Value.bool (m8 (fun h=>by obtain⟨q1,q2,q3,q4,q5⟩:=h;omega)).symm))
    ·refine oS (ab (v':=.bool false) (aF rfl rfl) (congrArg Value.bool (decide_eq_false (by omega)))) ?_;refine oS sP (oM ?_);refine oY ?_;refine oS sF ?_;refine oY ?_;refine oS sL ?_;refine oY ?_;refine oS sC ?_;refine oY ?_
     by_cases g5:256<d.atoms.length
     ·refine oS (ab (v':=.bool true) (eX rfl rfl) (congrArg Value.bool (decide_eq_true (by omega)))) ?_;refine oS sP (ak ?_);refine av (bU _ _ _ ?_);refine cT ?_;refine bn fun _ cQ=>?_;refine ae (oA (ak ?_));refine av (cQ _ _ _ ?_);refine aA ?_;refine aj (?_);exact fh (.nil) .nil rfl (.tmp rfl (.nil)) ((congrArg Value.bool (m8 (fun h=>by obtain⟨q1,q2,q3,q4,q5⟩:=h;omega)).symm))
     ·have xJ:m7 d:=⟨by omega,by omega,by omega,by omega,by omega⟩
      refine oS (ab (v':=.bool false) (eX rfl rfl) (congrArg Value.bool (decide_eq_false (by omega)))) ?_;refine oS sP (ak ?_);refine av (bU _ _ _ ?_);refine cF (ax ?_);refine av (bK _ _ _ ?_);refine bn fun _ bw=>?_;refine ae ?_;refine aB (l:=Ec 0#256) (by rw[bk];rfl) rfl fun b4=>?_;refine ak ?_;refine av (bw _ _ _ ?_);refine bn fun _ bF=>?_;refine ae (oA (ak ?_));refine av (bF _ _ _ ?_);refine bn fun _ bD=>?_;refine bn fun _ cb=>?_;refine ae ?_;refine oS sF ?_;refine oS sL ?_;refine oS sC (oM (ak ?_));refine av (cb _ _ _ ?_);refine ai ?_
      refine Ex (fun (k:Nat)=>k≤d.atoms.length∧A7 d.atoms 0 (-1)=A7 (d.atoms.drop k) (kB d.atoms k) (jH d.atoms k)) (fun (k:Nat)=>[(43,.int .i64 k),(5,.int .i64 (jH d.atoms k))]) [(1,_),(3,_),(4,_),(41,_),(42,_)] (fun (k:Nat)=>[(b1,.cells [.slice aa d.atoms.length ac,.slice na rows.length nc,.slice ea d.ends.length ec].toArray 30 (0,0)),(b4,.cells (Ec (kB d.atoms k)).toArray 39 (0,0))]) (fun (k:Nat)=>d.atoms.length-k) 0 ⟨Nat.zero_le _,by rw[List.drop_zero];rfl⟩ aH aH rfl aP ?_
      intro k ds0 Ms0 hI0 Il
      obtain⟨hk,mV⟩:=hI0
      have hlg:=Ld d.atoms k
      refine bn fun _ bL=>?_;refine ae ?_;refine oS (aF rfl rfl) ?_;refine ak ?_;refine av (bL _ _ _ ?_);refine bn fun _ bQ=>?_;refine cx rfl (fun Cg=>?_) (fun Cg=>?_)
      ·obtain⟨a,B8⟩:∃ a,d.atoms[k]?=some a:=gE
       refine ax ?_;refine av (bQ _ _ _ ?_);refine bn fun _ cO=>?_;refine ai ?_;refine bn fun _ df=>?_;refine ae ?_;refine oS (au rfl rfl Ik (by omega)) ?_;refine oS (aD rfl ((cq.bj hw.1.at_).gx k B8 (by simp only[Int.toNat_natCast])) aS) ?_;refine aB (l:=Ec 0#256) (by rw[bk];rfl) rfl fun b7=>?_;refine bf rfl rfl bY aS aS fE ?_;refine ak ?_;refine av (df _ _ _ ?_);refine bn fun _ cZ=>?_;refine ae ?_;refine aB rfl rfl fun b8=>?_;refine bg rfl rfl rfl bY kD rfl ?_;refine ak ?_;refine av (cZ _ _ _ ?_);refine bn fun _ dq=>?_;refine bn fun _ dG=>?_;refine ae ?_;refine oS (aD rfl (aI.aO (.own aV)) aS) ?_;refine aX (Dh a) rfl rfl rfl (by exact .nil) (fun _ _=>trivial) (fun v48 S48 ⟨b48,UH,ahI⟩=>?_)
       subst UH;subst ahI
       refine ak ?_;refine av (dG _ _ _ ?_);refine ai ?_;refine zk (α:=Nat) (B0:=[(b8,.cells [.int .i64 (-1)].toArray 3 (0,0))]) (fun p B=>p = []∧B = [(b8,.cells [.int .i64 (-1)].toArray 3 (0,0))]) (fun c p B=>c = .exit 2∧∃ x:Nat,p = [x]∧B = [(b8,.cells [.int .i64 x].toArray 3 (0,0))]) rfl (Di b48 a) ((aJ.bR bh bh)) ((fun w H1 S1 st hs=>dI hw.2 st hs)) ⟨rfl,rfl⟩ (by kernel_rfl) (fun _=>rfl) (by kernel_rfl) ?_ ?_ ?_
       ·rintro l r p x B W er1 er2 ⟨rfl,rfl⟩ hx post hy hn
        have mH:x<256:=zm hx
        refine ae (oA (ak ?_));refine av (zn bY (by kernel_rfl) ?_);refine ai ?_;refine bn fun _ eb=>?_;refine ae (oM ?_);refine oS (ab (v':=.int .i64 ((x:Nat):Int)) (cV rfl) (congrArg _ (uw (by omega)))) ?_;refine bg rfl rfl rfl bY kD rfl ?_;refine ak ?_;refine av (eb _ _ _ ?_);refine ay ?_;refine zc rfl ?_;exact Pe bY (hn _ _ ⟨rfl,x,rfl,rfl⟩)
       ·rintro D0 Yc B0 rfl ⟨hmm,rfl⟩
        have Cm:=DA hmm
        refine aq ?_;refine av (dq _ _ _ ?_);refine bn fun _ dL=>?_;refine bn fun _ dR=>?_;refine ae ?_;refine oS sL (oM ?_)
        by_cases hle:(-1:Int)≤jH d.atoms k
        ·refine oS (ab (v':=.bool true) (rW rfl rfl) (congrArg Value.bool (decide_eq_true hle))) ?_;refine oM ?_;refine oN ?_;refine oN ?_;refine oN ?_;refine oN ?_;refine oN ?_;refine oS sT (ak ?_);refine av (dR _ _ _ ?_);refine cT ?_;refine bn fun _ dk=>?_;refine ae (oA (ak ?_));refine av (dk _ _ _ ?_);refine aA ?_;refine aj (aw (aj (aj (aw (aj (?_))))))
         exact fh (.cons (Il)) (aJ.bR bh bh) rfl (.tmp rfl (.nil)) ((congrArg Value.bool (nB (by rw[mV,DB B8 (.inl (by rw[Cm];exact hle))])).symm))
        ·omega
       ·rintro D0 Yc c p B0 rfl Qy ⟨rfl,x,rfl,rfl⟩
        have Cm:=Bd Qy
        refine ay ?_;refine ag ?_;refine av (dq _ _ _ ?_);refine bn fun _ dE=>?_;refine bn fun _ dS=>?_;refine ae ?_;refine oS sL (oM ?_)
        by_cases hle:(x:Int)≤jH d.atoms k
        ·refine oS (ab (v':=.bool true) (rW rfl rfl) (congrArg Value.bool (decide_eq_true hle))) ?_;refine oM ?_;refine oN ?_;refine oN ?_;refine oN ?_;refine oN ?_;refine oN ?_;refine oS sT (ak ?_);refine av (dS _ _ _ ?_);refine cT ?_;refine bn fun _ dW=>?_;refine ae (oA (ak ?_));refine av (dW _ _ _ ?_);refine aA ?_;refine aj (aw (aj (aj (aw (aj (?_))))))
         exact fh (.cons (Il)) (aJ.bR bh bh) rfl (.tmp rfl (.nil)) ((congrArg Value.bool (nB (by rw[mV,DB B8 (.inl (by rw[Cm];exact hle))])).symm))
        ·refine oS (ab (v':=.bool false) (rW rfl rfl) (congrArg Value.bool (decide_eq_false hle))) ?_;refine oM ?_;refine oY ?_;refine oS (aD rfl (aI.aO (.own aV)) aS) ?_;refine oY ?_;refine oS (aD rfl (aI.aO (.own aV)) aS) ?_;refine oY ?_;refine ar (dK (kB d.atoms k) a) rfl rfl rfl (fun _ _=>trivial) (fun v58 PG=>?_);subst PG
         refine oY ?_;refine oS (ab (v':=.agg (Ec 0#256).toArray) (fX rfl) (by rw[bk];rfl)) ?_;refine oY ?_
         by_cases JP:kB d.atoms k &&& a≠0#256
         ·refine oS (ab (v':=.bool true) (gb (c:=kB d.atoms k &&& a) (d:=0#256) rfl (by rw[bk];rfl)) (congrArg Value.bool (decide_eq_true JP))) ?_;refine oS sP (ak ?_);refine av (dS _ _ _ ?_);refine cT ?_;refine bn fun _ ee=>?_;refine ae (oA (ak ?_));refine av (ee _ _ _ ?_);refine aA ?_;refine aj (aw (aj (aj (aw (aj (?_))))))
          exact fh (.cons (Il)) (aJ.bR bh bh) rfl (.tmp rfl (.nil)) ((congrArg Value.bool (nB (by rw[mV,DB B8 (.inr JP)])).symm))
         ·refine oS (ab (v':=.bool false) (gb (c:=kB d.atoms k &&& a) (d:=0#256) rfl (by rw[bk];rfl)) (congrArg Value.bool (decide_eq_false JP))) ?_;refine oS sP (ak ?_);refine av (dS _ _ _ ?_);refine cF (ax ?_);refine av (dE _ _ _ ?_);refine bn fun _ eh=>?_;refine ae ?_;refine oS (ab (v':=.int .i64 (jH d.atoms (k+1))) (az rfl (.own aV rfl)) (by rw[jH,B8,Option.getD_some,Cm])) ?_;refine oA (ak ?_);refine av (eh _ _ _ ?_);refine ae ?_;refine oS (aD rfl (aI.aO (.own aV)) aS) ?_;refine oS (aD rfl (aI.aO (.own aV)) aS) ?_;refine ar (WV (kB d.atoms k) a) rfl rfl rfl (fun _ _=>trivial) (fun v65 Nn=>?_)
          rw[← xN B8] at Nn
          subst Nn;refine bf rfl rfl bY aS aS fE ?_;refine ak (aq ?_);refine av (cO _ _ _ ?_);refine ae ?_;refine oS sD (oM (ak ?_));exact av (II (k+1) ⟨by omega,mV.trans (OO B8 (by rw[Cm];exact hle) JP)⟩ (by first|omega|(dsimp only;omega)) (.cons (Il)) aH (aJ.bR bh bh) aP)
      ·obtain rfl:k=d.atoms.length:=by omega
       rw[Uc] at mV
       refine ay ?_;refine ad (ad (ag ?_));refine av (bD _ _ _ ?_);refine bn fun _ eD=>?_;refine bn fun _ dN=>?_;refine aK ((b1,.cells [.slice aa d.atoms.length ac,.slice na rows.length nc,.slice ea d.ends.length ec].toArray 30 (0,0))::(b4,.cells (Ec (kB d.atoms d.atoms.length)).toArray 39 (0,0))::Ms0) (fun i=>false) ?_;refine eK 0 rfl (aD rfl (aI.aO (.own aV)) aS) ?_;refine eP 1 rfl (ab (v':=.agg (Ec 0#256).toArray) (fX rfl) (by rw[bk];rfl)) ?_;refine eO 2 rfl ?_;refine ar (iZ 0#256) rfl rfl rfl (fun _ _=>trivial) (fun v69 ahJ=>?_);subst ahJ
       refine oX ?_
       by_cases Gd:kB d.atoms d.atoms.length≠r8
       ·refine eP 3 rfl (ab (v':=.bool true) (gb (c:=kB d.atoms d.atoms.length) (d:=r8) rfl rfl) (congrArg Value.bool (decide_eq_true Gd))) ?_;refine cw (by kernel_rfl) ?_;refine av (dN _ _ _ ?_);refine cT ?_;refine bn fun _ e6=>?_;refine ae (oA (ak ?_));refine av (e6 _ _ _ ?_);refine aA ?_;refine aj (?_);exact fh (Il) bh rfl (.tmp rfl (.nil)) ((congrArg Value.bool (nB (by rw[mV,decide_eq_false Gd])).symm))
       ·refine eP 3 rfl (ab (v':=.bool false) (gb (c:=kB d.atoms d.atoms.length) (d:=r8) rfl rfl) (congrArg Value.bool (decide_eq_false Gd))) ?_;refine cw (by kernel_rfl) ?_;refine av (dN _ _ _ ?_);refine cF (ax ?_);refine av (eD _ _ _ ?_);refine bn fun _ du=>?_;refine bn fun _ fF=>?_;refine ae ?_;refine oS sF ?_;refine oS sL ?_;refine oS sC (oM (ak ?_));refine av (fF _ _ _ ?_);refine ai ?_;refine aL (fun (q:Nat)=>q≤rows.length∧∀ i s,i<q→rows[i]?=some s→qm d.ends.length d.atoms.length s.xs) (fun (q:Nat)=>[(74,.int .i64 q)]) [(1,_),(3,_),(72,_),(73,_)] (fun (q:Nat)=>(b1,.cells [.slice aa d.atoms.length ac,.slice na rows.length nc,.slice ea d.ends.length ec].toArray 30 (0,0))::Ms0) (fun (q:Nat)=>rows.length-q) 0 ⟨Nat.zero_le _,fun i s hi _=>by omega⟩ aH aH aP ?_
        rintro q ⟨hq,iF⟩
        refine bn fun _ fx=>?_;refine ae ?_;refine oS (aF rfl rfl) ?_;refine ak ?_;refine av (fx _ _ _ ?_);refine bn fun _ fN=>?_;refine cx rfl (fun IC=>?_) (fun IC=>?_)
        ·obtain⟨s,hs⟩:∃ s,rows[q]?=some s:=gE
         have jr:=List.mem_of_getElem? hs
         have gk:=(hw.1.IQ s jr).sl
         have Cf:=gk.le
         refine ax ?_;refine av (fN _ _ _ ?_);refine bn fun _ gh=>?_;refine ai ?_;refine bn fun _ fZ=>?_;refine ae ?_;refine oS (au rfl rfl oR (by omega)) ?_;refine oS (az rfl ((cq.bj hw.1.nx).ld q 0 hs rfl (by decide) (by omega))) ?_;refine oA (ak ?_);refine av (fZ _ _ _ ?_);refine bn fun _ iW=>?_;refine ae (oM ?_);refine oS sC ?_;refine oS sF ?_;refine oS sL ?_;refine oS sC ?_
         by_cases nT:s.xs.length≠d.atoms.length
         ·have MP:wb d=false:=zA (r:=s.xs) (by rw[hx];exact List.mem_map.2 ⟨s,jr,rfl⟩) (fun h=>nT h.1)
          refine oS (ab (v':=.bool true) (eY rfl rfl) (congrArg Value.bool (decide_eq_true (by omega)))) ?_;refine oM ?_;refine oN ?_;refine oN ?_;refine oN ?_;refine oS sT (oM ?_);refine oN ?_;refine oN ?_;refine oN ?_;refine oN ?_;refine oS sT (ak ?_);refine av (iW _ _ _ ?_);refine cT ?_;refine bn fun _ gA=>?_;refine ae (oA (ak ?_));refine av (gA _ _ _ ?_);refine aA ?_;refine aw (aj (aj (aw (aj (?_)))))
          exact fh (Il) bh rfl (.tmp rfl (.nil)) ((congrArg Value.bool MP.symm))
         ·refine oS (ab (v':=.bool false) (eY rfl rfl) (congrArg Value.bool (decide_eq_false (by omega)))) ?_;refine oM ?_;refine oY (oM ?_);refine oY ?_;refine ar (VP s.a s.c s.xs (by omega)) rfl rfl rfl (fun w st=>(cq.bj (hw.1.IQ s jr)).out w st) (fun v86 ⟨mn,ahK,ahL,ahM⟩=>?_);subst ahK
          refine oY ?_
          by_cases wm:mn < -1
          ·have MP:wb d=false:=zA (r:=s.xs) (by rw[hx];exact List.mem_map.2 ⟨s,jr,rfl⟩) (fun h=>by have:=(h.2 mn ahL).1;omega)
           refine oS (ab (v':=.bool true) (aF rfl rfl) (congrArg Value.bool (decide_eq_true (by omega)))) ?_;refine oS sP (oM ?_);refine oN ?_;refine oN ?_;refine oN ?_;refine oN ?_;refine oS sT (ak ?_);refine av (iW _ _ _ ?_);refine cT ?_;refine bn fun _ iX=>?_;refine ae (oA (ak ?_));refine av (iX _ _ _ ?_);refine aA ?_;refine aw (aj (aj (aw (aj (?_)))))
           exact fh (Il) bh rfl (.tmp rfl (.nil)) ((congrArg Value.bool MP.symm))
          ·refine oS (ab (v':=.bool false) (aF rfl rfl) (congrArg Value.bool (decide_eq_false (by omega)))) ?_;refine oS sP (oM ?_);refine oY (oM ?_);refine oY ?_;refine ar (VQ s.a s.c s.xs (by omega)) rfl rfl rfl (fun w st=>(cq.bj (hw.1.IQ s jr)).out w st) (fun v91 ⟨mx,ahN,ahO,ahP⟩=>?_);subst ahN
           refine oY (oM ?_);refine oY ?_
           by_cases kF:mx≥(d.ends.length:Int)
           ·have MP:wb d=false:=zA (r:=s.xs) (by rw[hx];exact List.mem_map.2 ⟨s,jr,rfl⟩) (fun h=>by have:=(h.2 mx ahO).2;omega)
            refine oS (ab (v':=.bool true) (iH rfl rfl) (congrArg Value.bool (decide_eq_true (by omega)))) ?_;refine oS sP (ak ?_);refine av (iW _ _ _ ?_);refine cT ?_;refine bn fun _ jW=>?_;refine ae (oA (ak ?_));refine av (jW _ _ _ ?_);refine aA ?_;refine aw (aj (aj (aw (aj (?_)))))
            exact fh (Il) bh rfl (.tmp rfl (.nil)) ((congrArg Value.bool MP.symm))
           ·refine oS (ab (v':=.bool false) (iH rfl rfl) (congrArg Value.bool (decide_eq_false (by omega)))) ?_;refine oS sP (ak ?_);refine av (iW _ _ _ ?_);refine cF (ax (aq ?_));refine av (gh _ _ _ ?_);refine ae ?_;refine oS sD (oM (ak ?_));exact xI (q+1) ⟨by omega,fun i s' hi mT=>by rcases Nat.lt_or_ge i q with h|h;(· exact iF i s' h mT);(· rw[show i=q by omega,hs] at mT;obtain rfl:=Option.some.inj mT;exact⟨by omega,fun x hx=>⟨by have:=ahM x hx;omega,by have:=ahP x hx;omega⟩⟩)⟩
        ·obtain rfl:q=rows.length:=by omega
         refine ay ?_;refine ad (ad (ag ?_));refine av (du _ _ _ ?_);refine bn fun _ kT=>?_;refine ae (oA (ak ?_));refine av (kT _ _ _ ?_);refine aA ?_;refine ?_;exact fh (Il) bh rfl (.tmp rfl (.nil)) ((congrArg Value.bool (Le xJ (by rw[mV,decide_eq_true (Classical.not_not.1 Gd)]) (fun r hr=>by rw[hx] at hr;obtain⟨s,hs,rfl⟩:=List.mem_map.1 hr;obtain⟨i,hi⟩:=List.getElem?_of_mem hs;exact iF i s (List.getElem?_eq_some_iff.1 hi).1 hi)).symm))
set_option maxHeartbeats 2000000 in
theorem c5 (d:Df)(aa:Option Addr)(ac:Nat)(na:Option Addr)(nc:Nat)(rows:List (Sl Int))(ea:Option Addr)(ec:Nat)(hx:d.next=rows.map Sl.xs):HL.Fn Tryz.prog 76 [.agg [.slice aa d.atoms.length ac,.slice na rows.length nc,.slice ea d.ends.length ec].toArray] (fun w=>Cu d aa ac na nc rows ea ec w∧Tb [] w) [] (fun v _=>v = .agg (dg (fun i=>(cm.lC d.atoms i d.atoms.length:Nat))).toArray):=by
 refine zj Tryz.func76 rfl rfl rfl fun w0 hw=>?_
 have Ik:=hw.1.at_.sl
 have hba:=Ik.le
 refine bn fun _ bI=>?_;refine ae ?_;refine cB rfl rfl rfl fun b1=>?_;refine aB (l:=dg (fun _=>0)) (by rw[cJ];rfl) rfl fun b2=>?_;refine ak ?_;refine av (bI _ _ _ ?_);refine bn fun _ bJ=>?_;refine ae ?_;refine aB (l:=dg (fun _=>0)) (by rw[cJ];rfl) rfl fun b3=>?_;refine ak ?_;refine av (bJ _ _ _ ?_);refine bn fun _ bK=>?_;refine bn fun _ bU=>?_;refine ae ?_;refine oS sF ?_;refine oS sL ?_;refine oS sC (oM (ak ?_));refine av (bU _ _ _ ?_);refine ai ?_;refine Ex (fun (k:Nat)=>k≤d.atoms.length) (fun (k:Nat)=>[(10,.int .i64 k)]) [(2,_),(3,_),(8,_),(9,_)] (fun (k:Nat)=>[(b1,.cells [.slice aa d.atoms.length ac,.slice na rows.length nc,.slice ea d.ends.length ec].toArray 30 (0,0)),(b2,.cells (dg (fun _=>0)).toArray 116 (0,0)),(b3,.cells (dg (fun i=>(cm.lC d.atoms i k:Nat))).toArray 116 (0,0))]) (fun (k:Nat)=>d.atoms.length-k) 0 (Nat.zero_le _) aH aH rfl aP ?_
 intro k ds0 Ms0 hI0 Il
 obtain hk:=hI0
 refine bn fun _ bT=>?_;refine ae ?_;refine oS (aF rfl rfl) ?_;refine ak ?_;refine av (bT _ _ _ ?_);refine bn fun _ bZ=>?_;refine cx rfl (fun Cg=>?_) (fun Cg=>?_)
 ·obtain⟨a,B8⟩:∃ a,d.atoms[k]?=some a:=gE
  refine ax ?_;refine av (bZ _ _ _ ?_);refine bn fun _ cj=>?_;refine ai ?_;refine bn fun _ ck=>?_;refine ae (oM ?_);refine oS (au rfl rfl Ik (by omega)) ?_;refine oS (aD rfl ((cq.bj hw.1.at_).gx k B8 (by simp only[Int.toNat_natCast])) aS) ?_;refine aB rfl rfl fun b4=>?_;refine aB (l:=Ec 0#256) (by rw[bk];rfl) rfl fun b5=>?_;refine bg rfl rfl rfl bY kD rfl ?_;refine bf rfl rfl bY aS aS fE ?_;refine ak ?_;refine av (ck _ _ _ ?_);refine bn fun _ cQ=>?_;refine ae ?_;refine oS (aD rfl (aI.aO (.own aV)) aS) ?_;refine aX (Dh a) rfl rfl rfl (by exact .nil) (fun _ _=>trivial) (fun v16 V3 ⟨s8,aeq,sR⟩=>?_);subst aeq
  subst sR;refine ak ?_;refine av (cQ _ _ _ ?_);refine ai ?_;refine zk (α:=Nat) (B0:=(b3,.cells (dg (fun i=>if i∈([]:List Nat) then (k:Int) else (cm.lC d.atoms i k:Nat))).toArray 116 (0,0))::[(b4,.cells [.int .i64 k].toArray 3 (0,0))]) (fun p B=>B=(b3,.cells (dg (fun i=>if i∈p then (k:Int) else (cm.lC d.atoms i k:Nat))).toArray 116 (0,0))::[(b4,.cells [.int .i64 k].toArray 3 (0,0))]) (fun c p B=>False) rfl (Di s8 a) ((aJ.bR bh (aJ.bR bh bh))) ((fun w H1 S1 st hs=>dI hw.2 st hs)) rfl (by kernel_rfl) (fun _=>rfl) (by kernel_rfl) ?_ ?_ ?_
  ·rintro l r p x B W er1 er2 rfl hx post hy hn
   have mH:x<256:=zm hx
   refine ae (oA (ak ?_));refine av (zn bY (by kernel_rfl) ?_);refine ai (ae (oM ?_));refine oS sL ?_;refine oS (aQ rfl rfl (by omega)) ?_;refine bg rfl rfl rfl bY (by rw[eE];omega) rfl ?_
   rw[show 0+((x:Nat):Int).toNat*1=x by omega,Ku mH,Kv]
   refine ak (aq ?_);exact G8 bY (hy _ rfl)
  ·rintro D0 Yc B0 rfl rfl
   refine aq (aq ?_);refine av (cj _ _ _ ?_);refine ae ?_;refine oS sD (oM (ak ?_))
   rw[OA B8]
   exact av (II (k+1) (by omega) (by first|omega|(dsimp only;omega)) (.cons (Il)) aH (aJ.bR bh bh) aP)
  ·rintro D0 Yc c p B0 rfl Qy hX
   exact hX.elim
 ·obtain rfl:k=d.atoms.length:=by omega
  refine ay ?_;refine ad (ad (ag ?_));refine av (bK _ _ _ ?_);refine bn fun _ bw=>?_;refine ae ?_;refine oS (aD rfl (aI.aO (.own aV)) (eE _)) ?_;refine bf rfl rfl bY (eE _) (eE _) (pH _) ?_;refine ak ?_;refine av (bw _ _ _ ?_);refine aA ?_;refine ?_;exact fh (Il) bh rfl (.agg inferInstance inferInstance rfl (aI.aO (.own aV)) (eE _) (.nil)) (rfl)
set_option maxHeartbeats 2000000 in
theorem xD (d:Df)(aa:Option Addr)(ac:Nat)(na:Option Addr)(nc:Nat)(rows:List (Sl Int))(ea:Option Addr)(ec:Nat)(hx:d.next=rows.map Sl.xs)(ta:Option Addr)(tc:Nat)(w:List UInt8):HL.Fn Tryz.prog 27 [.agg [.slice aa d.atoms.length ac,.slice na rows.length nc,.slice ea d.ends.length ec].toArray,.slice ta w.length tc] (fun W=>Cu d aa ac na nc rows ea ec W∧Tb [] W∧Rd Eb W (.slice ta w.length tc) w) [] (fun v _=>v = .bool (oC d w)):=by
 refine zj Tryz.func27 rfl rfl rfl fun w0 hw=>?_
 have oR:=hw.1.nx.sl
 have B3:=hw.1.en.sl
 have dV:=hw.2.2.sl
 have hbt:=dV.le
 have wY:d.next.length=rows.length:=by rw[hx,List.length_map]
 refine bn fun _ bI=>?_;refine ae ?_;refine cB rfl rfl rfl fun b2=>?_;refine oA (ak ?_);refine av (bI _ _ _ ?_);refine bn fun _ bJ=>?_;refine bn fun _ bK=>?_;refine ae ?_;refine oS (aD rfl (aI.aO (.own aV)) aS) ?_;refine ar (om d aa ac na nc rows ea ec hx) rfl rfl rfl (fun w st=>⟨hw.1.old st,dI hw.2.1 st HSub.nil⟩) (fun v10 nQ=>?_);subst nQ
 cases mV:wb d
 ·refine oS (aT rfl) ?_;refine ak ?_;refine av (bK _ _ _ ?_);refine cT ?_;refine bn fun _ bU=>?_;refine ae (oA (ak ?_));refine av (bU _ _ _ ?_);refine aA ?_;refine aj (?_);exact fh (.nil) .nil rfl (.tmp rfl (.nil)) ((congrArg Value.bool (G9 mV).symm))
 ·have hS:=yD.1 mV
  obtain⟨z1,z2,z3,z4,z5⟩:=hS.sz
  refine oS (aT rfl) ?_;refine ak ?_;refine av (bK _ _ _ ?_);refine cF (ax ?_);refine av (bJ _ _ _ ?_);refine bn fun _ bT=>?_;refine ae ?_;refine oS (aD rfl (aI.aO (.own aV)) aS) ?_;refine ar (c5 d aa ac na nc rows ea ec hx) rfl rfl rfl (fun w st=>⟨hw.1.old st,dI hw.2.1 st HSub.nil⟩) (fun v13 Ty=>?_);subst Ty
  refine aB (l:=dg (fun _=>0)) (by rw[cJ];rfl) rfl fun b5=>?_;refine bf rfl rfl bY (eE _) (eE _) (pH _) ?_;refine ak ?_;refine av (bT _ _ _ ?_);refine bn fun _ bZ=>?_;refine ae (oA (ak ?_));refine av (bZ _ _ _ ?_);refine bn fun _ cj=>?_;refine bn fun _ ck=>?_;refine ae (oM ?_);refine oS sC (oM (ak ?_));refine av (ck _ _ _ ?_);refine ai ?_
  refine cY (fun (k : Nat) (q : Nat) => k ≤ w.length ∧ q < d.ends.length ∧ Im d (w.drop k) (q : Int) = Im d w 0) (fun (k : Nat) (q : Nat) => [(16, .int .i64 k), (6, .int .i64 q)]) [(2, _), (5, _), (14, _), (15, _)] (fun (k : Nat) (q : Nat) => [(b2, .cells [.slice aa d.atoms.length ac, .slice na rows.length nc, .slice ea d.ends.length ec].toArray 30 (0, 0)), (b5, .cells (dg (fun i => (cm.lC d.atoms i d.atoms.length : Nat))).toArray 116 (0, 0))]) (fun (k : Nat) (q : Nat) => w.length - k) 0 0 ⟨Nat.zero_le _, by omega, by rw [List.drop_zero]; rfl⟩ aH aH aP ?_
  rintro k q ⟨hk,Ha,Ge⟩
  refine bn fun _ cQ=>?_;refine ae ?_;refine oS (aF rfl rfl) ?_;refine ak ?_;refine av (cQ _ _ _ ?_);refine bn fun _ bw=>?_;refine cx rfl (fun Cg=>?_) (fun Cg=>?_)
  ·obtain⟨u,huk⟩:∃ u,w[k]?=some u:=gE
   have hu8:=u.toNat_lt
   obtain⟨s,hs⟩:∃ s,rows[q]?=some s:=gE
   have jr:=List.mem_of_getElem? hs
   have gk:=(hw.1.IQ s jr).sl
   have kR:d.next[q]?=some s.xs:=by rw[hx,List.getElem?_map,hs];rfl
   have zo:=(hS.rows s.xs (List.mem_of_getElem? kR)).1
   have o9:=oq d.atoms u.toNat z4
   obtain⟨v,hv⟩:∃ v,s.xs[cm.lC d.atoms u.toNat d.atoms.length]?=some v:=gE
   have hnv:=Fp kR hv
   have hvb:=(hS.rows s.xs (List.mem_of_getElem? kR)).2 v (List.mem_of_getElem? hv)
   refine ax ?_;refine av (bw _ _ _ ?_);refine bn fun _ bF=>?_;refine ai ?_;refine bn fun _ bD=>?_;refine ae ?_;refine oS (au rfl rfl dV (by omega)) ?_;refine oS (az rfl ((cq.bj hw.2.2).ld k 0 huk rfl (by decide) (by omega))) ?_;refine oA (ak ?_);refine av (bD _ _ _ ?_);refine bn fun _ cb=>?_;refine aK ([(b2,.cells [.slice aa d.atoms.length ac,.slice na rows.length nc,.slice ea d.ends.length ec].toArray 30 (0,0)),(b5,.cells (dg (fun i=>(cm.lC d.atoms i d.atoms.length:Nat))).toArray 116 (0,0))]) (fun i=>false) ?_;refine eP 0 rfl sF ?_;refine eK 1 rfl sL ?_;refine eP 2 rfl sM ?_;refine eP 3 rfl (au rfl rfl oR (by omega)) ?_;refine eK 4 rfl (az rfl ((cq.bj hw.1.nx).ld q 0 hs rfl (by decide) (by omega))) ?_;refine eP 5 rfl sM ?_;refine eP 6 rfl (aQ rfl rfl (by omega)) ?_;refine eK 7 rfl (az rfl ((aI.own aV).iU (j:=u.toNat) (mQ hu8) (by omega))) ?_;refine eP 8 rfl (au rfl rfl gk (by omega)) ?_;refine eK 9 rfl (az rfl ((cq.bj (hw.1.IQ s jr)).ld (cm.lC d.atoms u.toNat d.atoms.length) 0 hv rfl (by decide) (by simp only[Sl.v];omega))) ?_;refine eP 10 rfl sA ?_;refine cw (by kernel_rfl) ?_;refine av (cb _ _ _ ?_);refine bn fun _ bL=>?_;refine ae (oM ?_)
   by_cases jU:v<0
   ·refine oS (ab (v':=.bool true) (aF rfl rfl) (congrArg Value.bool (decide_eq_true jU))) ?_;refine ak ?_;refine av (bL _ _ _ ?_);refine cT ?_;refine bn fun _ bQ=>?_;refine ae (oA (ak ?_));refine av (bQ _ _ _ ?_);refine aA ?_;refine aw (aj (aj (aw (aj (?_)))))
    exact fh (.nil) .nil rfl (.tmp rfl (.nil)) ((congrArg Value.bool (by rw[ve mV,← Ge,Kw huk hnv jU])))
   ·obtain⟨q1,rfl⟩:=Int.eq_ofNat_of_zero_le (show 0≤v by omega)
    refine oS (ab (v':=.bool false) (aF rfl rfl) (congrArg Value.bool (decide_eq_false jU))) ?_;refine ak ?_;refine av (bL _ _ _ ?_);refine cF (ax (aq ?_));refine av (bF _ _ _ ?_);refine ae ?_;refine oS sD (oM (ak ?_));exact xI (k+1,q1) ⟨by omega,by dsimp only;omega,by rw[← Ge,Kx huk hnv (by omega)]⟩
  ·obtain rfl:k=w.length:=by omega
   obtain⟨e,he⟩:∃ e,d.ends[q]?=some e:=gE
   refine ay ?_;refine ad (ad (ag ?_));refine av (cj _ _ _ ?_);refine bn fun _ cO=>?_;refine ae ?_;refine oS sF ?_;refine oS sL (oM ?_);refine oS (au rfl rfl B3 (by omega)) ?_;refine oS (az rfl ((cq.bj hw.1.en).ld q 0 he rfl (by decide) (by omega))) ?_;refine oA (ak ?_);refine av (cO _ _ _ ?_);refine aA ?_;refine ?_;exact fh (.nil) .nil rfl (.tmp rfl (.nil)) ((congrArg Value.bool (by rw[ve mV,← Ge,OB he])))
theorem Gr (c:Kl.Cl):HL.Fn Tryz.prog 92 [.agg (Ec c).toArray] (fun _=>True) [] (fun v _=>v = .int .u8 (ek c:Nat)):=by
 refine aW Tryz.func92 rfl rfl rfl fun w0 hw=>?_;refine cR fun _ bI=>?_;refine cB rfl rfl rfl fun b1=>?_;refine oA (oZ bI (ah fun _ bJ=>?_));refine cR fun _ bK=>?_;refine oA (oZ bK (ai ?_))
 refine aL (fun (b:Nat)=>b≤256∧∀ j,j<b→c.getLsbD j=false) (fun (b:Nat)=>[(3,.int .i64 b)]) [(1,_)] (fun (b:Nat)=>[(b1,.cells (Ec (c)).toArray 39 (0,0))]) (fun (b:Nat)=>256-b) 0 ⟨by omega,fun j hj=>by omega⟩ aH aH aP ?_
 rintro b ⟨hb,mq⟩
 refine ah fun _ bU=>?_;refine cR fun _ bT=>?_;refine oM ?_
 by_cases cH:b<256
 ·refine oS (ab (v':=.bool true) (aF rfl rfl) (congrArg Value.bool (decide_eq_true (by omega)))) ?_;refine oZ bT ?_;refine gp bU (ah fun _ bZ=>?_);refine ai (cR fun _ cj=>?_);refine oS (aD rfl (aI.aO (.own aV)) aS) ?_;refine oM ?_;refine oS (ab (v':=.int .u8 ((b:Nat):Int)) (cV rfl) (congrArg _ (tV (by omega)))) ?_;refine ar (s4 c b (by omega)) rfl rfl rfl (fun _ _=>trivial) (fun v11 F9=>?_)
  cases hh:BitVec.getLsbD c b
  ·rw[hh] at F9
   subst F9;refine oZ cj ?_;refine cF (ax (aq (xZ bZ (ae (oM ?_)))));refine oS sD (oA (ak ?_));exact xI (b+1) ⟨by omega,fun j hj=>by rcases Nat.lt_or_ge j b with h|h;(· exact mq j h);(· rw[show j=b by omega];exact hh)⟩
  ·rw[hh] at F9
   subst F9;refine oZ cj ?_;refine cT (cR fun _ ck=>?_);refine oM ?_;refine oS (ab (v':=.int .u8 ((b:Nat):Int)) (cV rfl) (congrArg _ (tV (by omega)))) ?_;refine oA (oZ ck (aA ?_));refine aw (aj (aj (aw (aj (?_)))))
   exact xR rfl rfl (congrArg (fun n:Nat=>Value.int .u8 n) (Gs (by omega) hh mq).symm)
 ·obtain rfl:b=256:=by omega
  refine oS (ab (v':=.bool false) (aF rfl rfl) (congrArg Value.bool (decide_eq_false (by omega)))) ?_;refine oZ bT ?_;refine cF ?_;refine ay ?_;refine ad (ad (ag (xZ bJ (cR fun _ cQ=>?_))));refine oA (oZ cQ (aA ?_));refine ?_;exact xR rfl rfl (congrArg (fun n:Nat=>Value.int .u8 n) (As mq).symm)
end Go.Proofs.YtmompllplidphaaGreatDoor
namespace Go.HL.cm
open Go Go.HL Go.HL.Kl Go.HL.Kl.Mc
structure Bo where
 p:Int
 q:Int
 oV:Int
 I3:Nat
def IZ (x:Bo):List Value:=[.int .i64 x.p,.int .i64 x.q,.int .i64 x.oV,.int .u8 x.I3]
instance:eB IZ 4:=⟨fun _=>rfl,fun _ _ h=>by simp[IZ] at h;rcases h with rfl|rfl|rfl|rfl <;> rfl⟩
def Bo.pq (x:Bo):Int×Int:=(x.p,x.q)
def gP (d:Df)(q:Int)(c:Nat):Int:=if q<0 then -1 else CY d q (lC d.atoms c d.atoms.length)
def j5 (a b:Df)(i:Nat)(x:Bo):Nat→List Bo→List Bo
 | 0,l=>l
 | c+1,l=>if (gP a x.p c,gP b x.q c)∈(j5 a b i x c l).map Bo.pq then j5 a b i x c l else j5 a b i x c l++[⟨gP a x.p c,gP b x.q c,i,c⟩]
def pG (l:List Bo):Nat→Bo→List UInt8
 | 0,_=>[]
 | f+1,x=>if x.oV<0 then [] else UInt8.ofNat x.I3::pG l f (l[x.oV.toNat]?.getD ⟨0,0,-1,0⟩)
def back (l:List Bo)(x:Bo):List UInt8:=pG l (x.oV+1).toNat x
def nV (a b:Df):Nat→Nat→List Bo→Option (List UInt8)
 | 0,_,_=>none
 | f+1,i,l=>match l[i]? with
   | none=>none
   | some x=>if iL a x.p=iL b x.q then nV a b f (i+1) (j5 a b i x 256 l) else some (back l x).reverse
def RB (a b:Df):Option (List UInt8):=if wb a&&wb b then nV a b 66051 0 [⟨0,0,-1,0⟩] else none
structure Gh (a b:Df)(l:List Bo):Prop where
 nd:(l.map Bo.pq).Nodup
 bp:∀ x∈l,-1≤x.p∧x.p<a.ends.length
 bq:∀ x∈l,-1≤x.q∧x.q<b.ends.length
 fr:∀ (k:Nat)(x:Bo),l[k]?=some x→-1≤x.oV∧x.oV<k
 I3:∀ x∈l,x.I3<256
theorem Gh.one {a b:Df}(ha:1≤a.ends.length)(hb:1≤b.ends.length):Gh a b [⟨0,0,-1,0⟩]:=by
 refine⟨by simp,?_,?_,?_,?_⟩
 · intro x hx;rw[List.mem_singleton.1 hx];exact⟨by decide,by show (0:Int)<_;omega⟩
 · intro x hx;rw[List.mem_singleton.1 hx];exact⟨by decide,by show (0:Int)<_;omega⟩
 · intro k x hx
   cases k with
   | zero=>simp at hx;subst hx;exact⟨by decide,by decide⟩
   | succ k=>simp at hx
 · intro x hx;rw[List.mem_singleton.1 hx];decide
theorem Gh.push {a b:Df}{l:List Bo}(h:Gh a b l){p q:Int}{i c:Nat}(hn:(p,q)∉l.map Bo.pq)(hp:-1≤p∧p<a.ends.length)(hq:-1≤q∧q<b.ends.length)(hi:i<l.length)(hc:c<256):Gh a b (l++[⟨p,q,i,c⟩]):=by
 refine⟨?_,?_,?_,?_,?_⟩
 · rw[List.map_append,List.nodup_append]
   refine⟨h.nd,by simp,fun x hx y hy=>?_⟩
   simp only[List.map_cons,List.map_nil,List.mem_singleton] at hy
   subst hy
   rintro rfl
   exact hn hx
 · intro x hx
   rcases List.mem_append.1 hx with hx|hx
   · exact h.bp x hx
   · rw[List.mem_singleton.1 hx];exact hp
 · intro x hx
   rcases List.mem_append.1 hx with hx|hx
   · exact h.bq x hx
   · rw[List.mem_singleton.1 hx];exact hq
 · intro k x hx
   rcases Nat.lt_or_ge k l.length with hk|hk
   · rw[List.getElem?_append_left hk] at hx
     exact h.fr k x hx
   · rw[List.getElem?_append_right hk] at hx
     have:=List.mem_singleton.1 (List.mem_of_getElem? hx)
     subst this
     exact⟨by show (-1:Int)≤(i:Int);omega,by show (i:Int)<(k:Int);omega⟩
 · intro x hx
   rcases List.mem_append.1 hx with hx|hx
   · exact h.I3 x hx
   · rw[List.mem_singleton.1 hx];exact hc
theorem Gh.len {a b:Df}{l:List Bo}(h:Gh a b l)(ha:a.ends.length≤256)(hb:b.ends.length≤256):l.length≤66049:=by
 have hn:(l.map fun x=>(x.p+1).toNat*257+(x.q+1).toNat).Nodup:=by
   have h1:=h.nd
   rw[List.nodup_iff_pairwise_ne,List.pairwise_map] at h1 ⊢
   refine h1.imp_of_mem ?_
   intro x y hx hy M7 he
   have p1:=h.bp x hx
   have p2:=h.bp y hy
   have q1:=h.bq x hx
   have q2:=h.bq y hy
   apply M7
   have e1:(x.p+1).toNat=(y.p+1).toNat:=by omega
   have e2:(x.q+1).toNat=(y.q+1).toNat:=by omega
   exact Prod.ext (by show x.p=y.p;omega) (by show x.q=y.q;omega)
 have:=cm.fJ hn (n:=66049) (fun z hz=>by
   obtain⟨x,hx,rfl⟩:=List.mem_map.1 hz
   have p1:=h.bp x hx
   have q1:=h.bq x hx
   omega)
 simpa using this
theorem I7 {d:Df}(h:iR d){q:Int}(hq:q<d.ends.length)(c:Nat):-1≤gP d q c∧gP d q c<d.ends.length:=by
 unfold gP
 have:=h.sz.1
 split
 · omega
 · exact h.TR (by omega) hq (oq _ _ h.sz.2.2.2.1)
theorem Gm {a b:Df}{i:Nat}{x:Bo}{c:Nat}{l:List Bo}(h:(gP a x.p c,gP b x.q c)∈(j5 a b i x c l).map Bo.pq):j5 a b i x (c+1) l=j5 a b i x c l:=by
 conv=>lhs;unfold j5
 rw[if_pos h]
theorem Gl {a b:Df}{i:Nat}{x:Bo}{c:Nat}{l:List Bo}(h:(gP a x.p c,gP b x.q c)∉(j5 a b i x c l).map Bo.pq):j5 a b i x (c+1) l=j5 a b i x c l++[⟨gP a x.p c,gP b x.q c,i,c⟩]:=by
 conv=>lhs;unfold j5
 rw[if_neg h]
theorem oO {a b:Df}{l:List Bo}(h:Gh a b l):∀ (N f:Nat),f≤N→∀ (k:Nat)(x:Bo),l[k]?=some x→(x.oV+1).toNat≤f→pG l f x=back l x
 | N,0,_,k,x,hx,hf=>by
   unfold back
   rw[show (x.oV+1).toNat=0 by omega]
 | 0,f+1,hN,_,_,_,_=>by omega
 | N+1,f+1,hN,k,x,hx,hf=>by
   unfold back
   have h1:=h.fr k x hx
   by_cases hn:x.oV<0
   · rw[show (x.oV+1).toNat=0 by omega]
     simp[pG,hn]
   · rw[show (x.oV+1).toNat=x.oV.toNat+1 by omega]
     have hk:=(List.getElem?_eq_some_iff.1 hx).1
     obtain⟨y,hy⟩:∃ y,l[x.oV.toNat]?=some y:=⟨_,List.getElem?_eq_getElem (by omega)⟩
     have h2:=h.fr _ y hy
     simp only[pG,if_neg hn,hy,Option.getD_some]
     rw[oO h N f (by omega) _ y hy (by omega),oO h N x.oV.toNat (by omega) _ y hy (by omega)]
theorem I4 {l:List Bo}{x:Bo}(h:x.oV<0):back l x = []:=by
 unfold back
 cases e:(x.oV+1).toNat with
 | zero=>rfl
 | succ n=>simp[pG,h]
theorem Gi {a b:Df}{l:List Bo}(h:Gh a b l){k:Nat}{x y:Bo}(hx:l[k]?=some x)(hn:¬ x.oV<0)(hy:l[x.oV.toNat]?=some y):back l x=UInt8.ofNat x.I3::back l y:=by
 have h2:=h.fr _ y hy
 conv=>lhs;unfold back
 rw[show (x.oV+1).toNat=x.oV.toNat+1 by omega]
 simp only[pG,if_neg hn,hy,Option.getD_some]
 rw[oO h _ x.oV.toNat (Nat.le_refl _) _ y hy (by omega)]
theorem Cy {a b:Df}{f i:Nat}{l:List Bo}{x:Bo}(hf:0<f)(hx:l[i]?=some x)(he:iL a x.p=iL b x.q):nV a b f i l=nV a b (f-1) (i+1) (j5 a b i x 256 l):=by
 obtain⟨g,rfl⟩:∃ g,f=g+1:=⟨f-1,by omega⟩
 simp only[nV,hx,if_pos he,Nat.add_sub_cancel]
theorem Gj {a b:Df}{f i:Nat}{l:List Bo}{x:Bo}(hf:0<f)(hx:l[i]?=some x)(he:iL a x.p≠iL b x.q):nV a b f i l=some (back l x).reverse:=by
 obtain⟨g,rfl⟩:∃ g,f=g+1:=⟨f-1,by omega⟩
 simp only[nV,hx,if_neg he]
theorem Gn {a b:Df}{f i:Nat}{l:List Bo}(hx:l.length≤i):nV a b f i l=none:=by
 cases f with
 | zero=>rfl
 | succ g=>simp only[nV,List.getElem?_eq_none hx]
def wE {α:Type} [DecidableEq α](l:List α)(s:α):Option Value:=if s∈l then some (.int .i64 1) else none
theorem zR {α:Type} [DecidableEq α]{l:List α}{s:α}(h:s∈l):wE l s=some (.int .i64 1):=by simp[wE,h]
theorem BF {α:Type} [DecidableEq α]{l:List α}{s:α}(h:s∉l):wE l s=none:=by simp[wE,h]
theorem Ao {α:Type} [DecidableEq α]{l:List α}{s:α}{g g':α→Option Value}(h:∀ j,g j=wE l j)(h':∀ j,g' j=if j=s then some (.int .i64 1) else g j):∀ j,g' j=wE (l++[s]) j:=by
 intro j
 rw[h']
 by_cases e:j=s
 · subst e;rw[if_pos rfl,zR (by simp)]
 · rw[if_neg e,h]
   by_cases hm:j∈l
   · rw[zR hm,zR (by simp[hm])]
   · rw[BF hm,BF (by simp[hm,e])]
structure Ph {α:Type}(xs l:List α)(i:Nat):Prop where
 len:l.length=xs.length
 at_:∀ k,k<xs.length→l[k]?=if k<i∨xs.length-1-k<i then xs[xs.length-1-k]? else xs[k]?
theorem Ph.zero {α:Type}(xs:List α):Ph xs xs 0:=⟨rfl,fun k hk=>by rw[if_neg (by omega)]⟩
theorem Ph.done {α:Type}{xs l:List α}{i:Nat}(h:Ph xs l i)(hi:xs.length≤2*i+1):l=xs.reverse:=by
 apply List.ext_getElem?
 intro k
 rcases Nat.lt_or_ge k xs.length with hk|hk
 · rw[h.at_ k hk,List.getElem?_reverse hk]
   by_cases e:k<i∨xs.length-1-k<i
   · rw[if_pos e]
   · rw[if_neg e,show xs.length-1-k=k by omega]
 · rw[List.getElem?_eq_none (by rw[h.len];exact hk),List.getElem?_eq_none (by simp;exact hk)]
theorem Ph.step {α:Type}{xs l:List α}{i:Nat}{x y:α}(h:Ph xs l i)(hi:2*i+1<xs.length)(hx:l[i]?=some x)(hy:l[xs.length-1-i]?=some y):Ph xs ((l.set i y).set (xs.length-1-i) x) (i+1):=by
 refine⟨by simp[h.len],fun k hk=>?_⟩
 have hl:=h.len
 have z0:=h.at_ i (by omega)
 have M6:=h.at_ (xs.length-1-i) (by omega)
 rw[if_neg (by omega),hx] at z0
 rw[if_neg (by omega),hy] at M6
 rw[List.getElem?_set,List.length_set]
 by_cases e1:xs.length-1-i=k
 · rw[if_pos e1,if_pos (by omega),if_pos (by omega),z0]
   congr 1;omega
 · rw[if_neg e1,List.getElem?_set]
   by_cases e2:i=k
   · subst e2
     rw[if_pos rfl,if_pos (by omega),if_pos (by omega),M6]
   · rw[if_neg e2,h.at_ k hk]
     by_cases e3:k<i∨xs.length-1-k<i
     · rw[if_pos e3,if_pos (by omega)]
     · rw[if_neg e3,if_neg (by omega)]
end Go.HL.cm
namespace Go.Proofs.YtmompllplidphaaGreatDoor
open Go Go.HL Go.Proofs Go.HL.Kl Go.HL.Kl.Mc Go.HL.cm
def I0 (t:Int×Int):Value:=.agg (cI .i64 [t.1,t.2]).toArray
instance akt:QK Tryz.prog 118 true 2 2:=QK.arr (m:=2) (e:=3) (se:=1) (QK.int (t:=3))
instance keQ:KE Tryz.prog 118 I0:=KE.ofA (Ei:=fun p:Int×Int=>[p.1,p.2]) (fun _=>rfl) (fun a b h=>by
 simp only[List.cons.injEq,and_true] at h
 exact Prod.ext h.1 h.2) (by decide) ⟨_,_,Tryz.underlying118⟩
def UnP (r:Option (List UInt8))(v:Value)(S:Hp):Prop:=(r=none∧v = .tuple #[.slice none 0 0,.bool false])∨∃ (t:List UInt8)(a:Option Addr)(c:Nat),r=some t∧v = .tuple #[.slice a t.length c,.bool true]∧aG Eb 1 5 (.slice a t.length c) t S
theorem Ap (d:Df)(aa:Option Addr)(ac:Nat)(na:Option Addr)(nc:Nat)(rows:List (Sl Int))(ea:Option Addr)(ec:Nat)(hx:d.next=rows.map Sl.xs)(q:Int)(hq:q<d.ends.length):HL.Fn Tryz.prog 78 [.agg [.slice aa d.atoms.length ac,.slice na rows.length nc,.slice ea d.ends.length ec].toArray,.int .i64 q] (fun w=>Cu d aa ac na nc rows ea ec w) [] (fun v _=>v = .bool (iL d q)):=by
 refine aW Tryz.func78 rfl rfl rfl fun w0 hw=>?_
 have B3:=hw.en.sl
 refine cR fun _ bI=>?_;refine cB rfl rfl rfl fun b2=>?_;refine oA (oZ bI (cR fun _ bJ=>?_));refine oM ?_
 by_cases pI:q≥0
 ·obtain⟨q,rfl⟩:=Int.eq_ofNat_of_zero_le pI
  obtain⟨e,he⟩:∃ e,d.ends[q]?=some e:=gE
  refine oS (ab (v':=.bool true) (iH rfl rfl) (congrArg Value.bool (decide_eq_true pI))) ?_;refine oM ?_;refine oY ?_;refine oS sF ?_;refine oY ?_;refine oS sL ?_;refine oY (oM ?_);refine oY ?_;refine oS (au rfl rfl B3 (by omega)) ?_;refine oY ?_;refine oS (az rfl ((cq.bj hw.en).ld q 0 he rfl (by decide) (by omega))) ?_;refine oS sT (oA (oZ bJ (aA ?_)));refine ?_;exact xR rfl rfl (congrArg Value.bool (by simp[iL,he]))
 ·refine oS (ab (v':=.bool false) (iH rfl rfl) (congrArg Value.bool (decide_eq_false pI))) ?_;refine oM ?_;refine oN ?_;refine oN ?_;refine oN ?_;refine oN ?_;refine oN ?_;refine oS sP (oA (oZ bJ (aA ?_)));refine ?_;exact xR rfl rfl (congrArg Value.bool (by unfold iL;rw[decide_eq_false (by omega)];rfl))
theorem mR (d:Df)(aa:Option Addr)(ac:Nat)(na:Option Addr)(nc:Nat)(rows:List (Sl Int))(ea:Option Addr)(ec:Nat)(hx:d.next=rows.map Sl.xs)(q:Int)(hq:q<rows.length)(k:Nat)(hK:∀ s∈rows,k<s.xs.length):HL.Fn Tryz.prog 77 [.agg [.slice aa d.atoms.length ac,.slice na rows.length nc,.slice ea d.ends.length ec].toArray,.int .i64 q,.int .i64 k] (fun w=>Cu d aa ac na nc rows ea ec w) [] (fun v _=>v = .int .i64 (if q<0 then -1 else CY d q k)):=by
 refine aW Tryz.func77 rfl rfl rfl fun w0 hw=>?_
 have oR:=hw.nx.sl
 refine cR fun _ bI=>?_;refine cB rfl rfl rfl fun b3=>?_;refine oA (oZ bI (ah fun _ bJ=>?_));refine cR fun _ bK=>?_;refine oM ?_
 by_cases jU:q<0
 ·refine oS (ab (v':=.bool true) (aF rfl rfl) (congrArg Value.bool (decide_eq_true jU))) ?_;refine oZ bK ?_;refine cT (cR fun _ bU=>?_);refine oA (oZ bU (aA ?_));refine aj (?_);exact xR rfl rfl (congrArg (Value.int .i64) (by rw[if_pos jU]))
 ·obtain⟨q,rfl⟩:=Int.eq_ofNat_of_zero_le (show 0≤q by omega)
  obtain⟨s,hs⟩:∃ s,rows[q]?=some s:=gE
  have jr:=List.mem_of_getElem? hs
  have gk:=(hw.IQ s jr).sl
  have zo:=hK s jr
  have kR:d.next[q]?=some s.xs:=by rw[hx,List.getElem?_map,hs];rfl
  obtain⟨v,hv⟩:∃ v,s.xs[k]?=some v:=gE
  refine oS (ab (v':=.bool false) (aF rfl rfl) (congrArg Value.bool (decide_eq_false jU))) ?_;refine oZ bK ?_;refine eL bJ (cR fun _ bT=>?_);refine oS sF ?_;refine oS sL (oM ?_);refine oS (au rfl rfl oR (by omega)) ?_;refine oS (az rfl ((cq.bj hw.nx).ld q 0 hs rfl (by decide) (by omega))) ?_;refine oM ?_;refine oS (au rfl rfl gk (by omega)) ?_;refine oS (az rfl ((cq.bj (hw.IQ s jr)).ld k 0 hv rfl (by decide) (by simp only[Sl.v];omega))) ?_;refine oA (oZ bT (aA ?_));refine ?_;exact xR rfl rfl (congrArg (Value.int .i64) (by rw[if_neg jU,Fp kR hv]))
set_option maxHeartbeats 1000000 in
theorem Cw (a:Option Addr)(c:Nat)(xs:List UInt8)(S:Hp)(hO:aG Eb 1 5 (.slice a xs.length c) xs S):HL.Fn Tryz.prog 79 [.slice a xs.length c] (fun _=>True) S (fun _ S'=>aG Eb 1 5 (.slice a xs.length c) xs.reverse S'):=by
 refine aW Tryz.func79 rfl rfl rfl fun w0 hw=>?_
 have gk:=hO.sl
 have Cf:=gk.le
 refine cR fun _ bI=>?_;refine oM ?_;refine oS sC ?_;refine oS sU (oA (oA (oZ bI (ai ?_))));refine fM (fun (i:Nat)(jj:Int)(l:List UInt8)(jP:Hp)=>jj=(xs.length:Int)-1-i∧i≤xs.length∧2*i≤xs.length+1∧Ph xs l i∧aG Eb 1 5 (.slice a xs.length c) l jP) (fun (i:Nat)(jj:Int)(l:List UInt8)(jP:Hp)=>[(2,.int .i64 i),(3,.int .i64 jj)]) [(0,_)] (fun (i:Nat)(jj:Int)(l:List UInt8)(jP:Hp)=>jP) (fun (i:Nat)(jj:Int)(l:List UInt8)(jP:Hp)=>xs.length-i) 0 ((xs.length:Int)-1) xs S ⟨by omega,Nat.zero_le _,by omega,Ph.zero _,hO⟩ aH aH aP ?_
 rintro i jj l jP ⟨hjj,hi,Ie,hR,hL⟩
 have o9:=hR.len
 have vN:=hL.sl
 rw[o9] at vN
 refine ah fun _ bJ=>?_;refine cR fun _ bK=>?_;refine oM (oM ?_)
 by_cases cH:2*i+1<xs.length
 ·obtain⟨x,ie⟩:∃ x,l[i]?=some x:=gE
  obtain⟨y,pn⟩:∃ y,l[xs.length-1-i]?=some y:=gE
  refine oS (ab (v':=.bool true) (aF rfl rfl) (congrArg Value.bool (decide_eq_true (by omega)))) ?_;refine oZ bK ?_;refine gp bJ (ah fun _ bU=>?_);refine ai ?_;refine aK (jP) (fun i=>Nat.beq i 13||Nat.beq i 15) ?_;refine eP 0 rfl sM ?_;refine eP 1 rfl sM ?_;refine eP 2 rfl sM ?_;refine eP 3 rfl sM ?_;refine eP 4 rfl sM ?_;refine eP 5 rfl sM ?_;refine eP 6 rfl (au rfl rfl vN (by omega)) ?_;refine eK 7 rfl (az rfl ((hL.aU aM).ld (xs.length-1-i) 0 pn rfl (by decide) (by omega))) ?_;refine eP 8 rfl sM ?_;refine eP 9 rfl sM ?_;refine eP 10 rfl (au rfl rfl vN (by omega)) ?_;refine eK 11 rfl (az rfl ((hL.aU aM).ld i 0 ie rfl (by decide) (by omega))) ?_;refine eP 12 rfl (au rfl rfl vN (by omega)) ?_;refine eO 13 rfl ?_;refine dp i y hL bh rfl rfl rfl (by omega) (by omega) fun S26 IV=>?_;refine ak ?_;refine cE rfl ?_;refine eP 14 rfl (au rfl rfl vN (by omega)) ?_;refine eO 15 rfl ?_;refine dp (xs.length-1-i) x IV bh rfl rfl rfl (by rw[List.length_set];omega) (by omega) fun S27 Rf=>?_;refine ak ?_;refine cE rfl ?_;refine cw (by kernel_rfl) ?_;refine aq (xZ bU (ae (oM ?_)));refine oS sD (oM ?_);refine oS sU (oA (oA (ak ?_)));exact xI (i+1,jj-1,_,_) ⟨by dsimp only;omega,by omega,by omega,hR.step (by omega) ie pn,Rf⟩
 ·rw[hR.done (by omega)] at hL
  refine oS (ab (v':=.bool false) (aF rfl rfl) (congrArg Value.bool (decide_eq_false (by omega)))) ?_;refine oZ bK ?_;refine cF ?_;refine ay ?_;refine ad (ad (ag ?_));exact fB rfl (.nil) (hL)
end Go.Proofs.YtmompllplidphaaGreatDoor
