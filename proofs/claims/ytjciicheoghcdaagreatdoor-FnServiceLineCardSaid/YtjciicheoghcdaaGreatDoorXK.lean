/- Part of the proof that the law FnServiceLine of the given program returns true for every input. -/
import Derived.BigRegion
import Derived.RegionTactic
import Derived.Test.YtjciicheoghcdaaGreatDoorXC
import Derived.Test.YtjciicheoghcdaaGreatDoorXG
import Derived.Test.YtjciicheoghcdaaGreatDoorXH
import Derived.Test.YtjciicheoghcdaaGreatDoorXJ
import Derived.Test.YtjciicheoghcdaaGreatDoorXl
import Derived.Test.YtjciicheoghcdaaGreatDoorXy
namespace Go.Proofs.YtjciicheoghcdaaGreatDoor
open Go.RowKit
set_option linter.unusedSimpArgs false
set_option linter.unusedVariables false
set_option maxRecDepth 20000
set_option maxHeartbeats 16000000
section
attribute [local go_sem] af ah ae
open Go.Maps
theorem Ac {l:List UInt8} (h:(Lib.cut l [32]).2.2=false):(Lib.cut l [32]).2.1=[]:=by
 unfold Lib.cut at h ⊢
 split at h
 ·cases h
 ·rename_i hh;rw [if_neg hh]
theorem tR (l:List UInt8):(Lib.cut l [32]).2.1.length<=l.length:=by
 unfold Lib.cut
 split
 ·simp
 ·simp
def RdK (t:List UInt8) (k:Nat) (w:World) (e:Ending) (w':World):Prop :=
 (∃ ms A c F,RdM k t ms/\e= .returned (.tuple #[.slice A k c,.bool true])/\RI mxE w' A k c ms F/\Fr w' w.heap.size F/\Below w.heap.size w w') \/
 ((∀ ms,¬ RdM k t ms)/\e= .returned (.tuple #[.slice none 0 0,.bool false])/\Below w.heap.size w w')
theorem t_ (t:List UInt8) (hl:t.length<=1048576) (k:Nat) (h3:k<=3) (h0:k=0->t=[]) (w:World) (ht:Tab w) (hm:iD w):Calls Tryz.prog 37 #[.string (bs t),.int .i64 (k:Int)] w (RdK t k w):=by
 rcases Nat.eq_zero_or_pos k with hk | hk
 ·obtain rfl:=hk;obtain rfl:=h0 rfl;refine (mE w).mono ?_;rintro e w' ⟨rfl,hb⟩
  exact .inl ⟨[],none,0,[],⟨rfl,fun h=>absurd h (by omega)⟩,rfl,RI.nil w' none (by unfold maxLen;omega),Fr.nil _ _,hb⟩
 ·refine (nF t hl k hk h3 w ht hm).mono ?_;rintro e w' (⟨ms,A,c,F,h1,h2,h3,h4,h6,h5⟩ | ⟨h1,h2,h3⟩)
  ·exact .inl ⟨ms,A,c,F,⟨h2,fun _=>h1⟩,h3,h4,h6,h5⟩
  ·exact .inr ⟨fun ms h=>h1 ms (h.2 hk) h.1,h2,h3⟩
def tH (K:World->Prop) (fid:FuncId) (caps:Array Value) (k:Nat) (f:List Mx->List SL->Int->Option Res):Prop :=
 (∀ (W:World) (args:Array Value),(callFunc fid args).run Tryz.prog W= .ok (.enter fid args) W) /\
 ∀ (W:World) (net:List SL) (s:Int) (ms:List Mx) (base n c c2:Nat) (A B:Option Addr) (css:List (List Value)) (F FM:List Nat),K W->jO net s->(∀ m,m∈ms->mvB m=true)->ms.length=k->base<=W.heap.size->n=net.length ->
  OX (kE smE) W base 99 A n c css net F->RI mxE W B k c2 ms FM->Tab W->Calls Tryz.prog fid (#[.agg #[.slice A n c,.int .i64 s],.slice B k c2]++caps) W (qY base A F (f ms net s) W)
theorem pN {K:World->Prop} {kd:Int} {g k:Nat} (hb:∀ W,K W->Blk W g 3 #[.int .i64 kd]) (h3:k<=3):tH K 123 #[.pointer (some ⟨g,0,none⟩)] k (fun ms=>dI kd ms):=by
 refine ⟨fun _ _=>by kernel_rfl,fun W net s ms base n c c2 A B css F FM hW hs hmv hk hbw hn hox hms _=> ?_⟩
 cases hl:aL kd ms
 ·exact nE hl hs.2 W hbw hn hk hox hms hmv h3 (hb W hW)
 ·by_cases h4:net.length<4
  ·exact oT hl h4 hs.2 W hbw hn hk hox hms hmv h3 (hb W hW)
  ·exact mC hl (by omega) hs.2 W hbw hn hk hox hms hmv h3 (hb W hW)
theorem xC (K:World->Prop):tH K 78 #[] 1 (fun ms=>ic (ms.getD 0 Mx.z)):=by
 refine ⟨fun _ _=>by kernel_rfl,fun W net s ms base n c c2 A B css F FM hW hs hmv hk hbw hn hox hms ht=> ?_⟩
 obtain ⟨m,rfl⟩:=List.length_eq_one_iff.1 hk;have hm:=hmv m (List.mem_cons_self ..)
 cases hf:(bE (bh net) (some (m.r,m.c))).isSome
 ·exact mF hs.1 hm hs.2 hf W hbw hn hox hms
 ·exact nG hs.1 hm hs.2 hf W ht hbw hn hox hms
theorem uF (K:World->Prop):tH K 79 #[] 1 (fun ms=>eu (ms.getD 0 Mx.z)):=by
 refine ⟨fun _ _=>by kernel_rfl,fun W net s ms base n c c2 A B css F FM hW hs hmv hk hbw hn hox hms ht=> ?_⟩
 obtain ⟨m,rfl⟩:=List.length_eq_one_iff.1 hk;have hm:=hmv m (List.mem_cons_self ..)
 cases hf:(bE (bh net) (some (m.r,m.c))).isSome
 ·exact sY hs.1 hm hf W hbw hn hox hms
 ·exact uP hs.1 hm hf W ht hbw hn hox hms
theorem vJ {n:List UInt8} (h:ei n=none) (g1 g2 g3:Nat) (z:DataW Value):Maps.has (qZ g1 g2 g3) (.string n)=false/\(qZ g1 g2 g3).atKey (.string n) z=z:=by
 unfold ei at h
 split at h
 ·cases h
 split at h
 ·cases h
 split at h
 ·cases h
 split at h
 ·cases h
 split at h
 ·cases h
 rename_i h1 h2 h3 h4 h5
 have e1:(([100,101,110,115,101]:List UInt8) == n)=false:=by simpa using Ne.symm h1
 have e2:(([114,97,109,112]:List UInt8) == n)=false:=by simpa using Ne.symm h2
 have e3:(([109,105,120]:List UInt8) == n)=false:=by simpa using Ne.symm h3
 have e4:(([114,117,110]:List UInt8) == n)=false:=by simpa using Ne.symm h4
 have e5:(([110,101,101,100,115]:List UInt8) == n)=false:=by simpa using Ne.symm h5
 constructor
 ·simp only [Maps.has,qZ,List.any,Lit.sameKey,e1,e2,e3,e4,e5,Bool.or_self,Bool.or_false]
 ·simp only [DataW.atKey,qZ,List.find?,Lit.sameKey,e1,e2,e3,e4,e5]
theorem vK {n:List UInt8} {k:Nat} {f:List Mx->List SL->Int->Option Res} (h:ei n=some (k,f)) {K:World->Prop} {g1 g2 g3:Nat} (b1:∀ W,K W->Blk W g1 3 #[.int .i64 1]) (b2:∀ W,K W->Blk W g2 3 #[.int .i64 2]) (b3:∀ W,K W->Blk W g3 3 #[.int .i64 3]) (z:DataW Value) :
  Maps.has (qZ g1 g2 g3) (.string n)=true/\∃ fid caps,(qZ g1 g2 g3).atKey (.string n) z= .held (.agg #[.int .i64 (k:Int),.func (.func fid) #[] caps])/\tH K fid caps k f/\k<=3:=by
 unfold ei at h
 split at h
 ·rename_i e;subst e;injection h with h;injection h with h1 h2;subst h1;subst h2
  exact ⟨rfl,_,_,rfl,pN b1 (by omega),by omega⟩
 split at h
 ·rename_i e;subst e;injection h with h;injection h with h1 h2;subst h1;subst h2
  exact ⟨rfl,_,_,rfl,pN b2 (by omega),by omega⟩
 split at h
 ·rename_i e;subst e;injection h with h;injection h with h1 h2;subst h1;subst h2
  exact ⟨rfl,_,_,rfl,pN b3 (by omega),by omega⟩
 split at h
 ·rename_i e;subst e;injection h with h;injection h with h1 h2;subst h1;subst h2
  exact ⟨rfl,_,_,rfl,xC K,by omega⟩
 split at h
 ·rename_i e;subst e;injection h with h;injection h with h1 h2;subst h1;subst h2
  exact ⟨rfl,_,_,rfl,uF K,by omega⟩
 ·cases h
end
section
attribute [local go_sem] af ah ae
open Go.Maps
def LnP (net:List SL) (s:Int) (l:List UInt8) (w:World) (e:Ending) (w':World):Prop:=∃ (r:Res) (A:Option Addr) (c:Nat) (css:List (List Value)) (F:List Nat),LnR net s l r/\e= .returned (.tuple #[.agg #[.slice A r.1.1.length c,.int .i64 r.1.2],.string (bs r.2)])/\OX (kE smE) w' w.heap.size 99 A r.1.1.length c css r.1.1 F/\Below w.heap.size w w'
theorem OX.neS {α:Type} {E:Elt α} {w:World} {base n c:Nat} {T:TypeId} {A:Option Addr} {css:List (List Value)} {xs:List α} {F:List Nat} (h:OX E w base T A n c css xs F) (cs:Array Value) (hT:T≠25:=by decide):∀ i,(blk A=some i\/i∈F)->w.heap[i]?≠some (.cells cs 25):=fun i hi e=>nvX hT w h i hi cs e
theorem Hq.nbs {α:Type} {E:Elt α} {w0 w:World} {L:List Ow} {b n k h0:Nat} {T t':TypeId} {A:Option Addr} {css:List (List Value)} {xs:List α} {F:List Nat} {ds:List Value} (H:Hq w0 (qX E b T A n k css xs F::L) w) (m:Has L (qB h0 t' ds)):¬ (blk A=some h0\/h0∈F):=fun e=>H.S.2.1 h0 e _ m.mem rfl
theorem UpL.kz {G:Nat->Prop} {w w':World} {b:Nat} {Z:Obj} (U:UpL G w w') (h:∀ i,G i->w.heap[i]?≠some Z):KB b Z w w':=⟨U.size,fun i _ hl e=>(U.block i hl fun hg=>h i hg e).trans e⟩
theorem vM (l:List UInt8):(Lib.cut l [32]).1.length<=l.length:=by
 unfold Lib.cut
 split
 ·simp;omega
 ·simp
theorem mz {net:List SL} {s:Int} (h:jO net s) {l:List UInt8} (hl:l.length<=1048576) {A:Option Addr} {cap:Nat} {F:List Nat} (w:World) (ht:Tab w) (hm:iD w) (hx:RI (kE smE) w A net.length cap net F) :
  Calls Tryz.prog 9 #[.agg #[.slice A net.length cap,.int .i64 s],.string (bs l)] w (LnP net s l w):=by
 obtain ⟨nm,hc1⟩:∃ x,x=(Lib.cut l [32]).1:=⟨_,rfl⟩;obtain ⟨tx,hc2⟩:∃ x,x=(Lib.cut l [32]).2.1:=⟨_,rfl⟩;obtain ⟨sp,hc3⟩:∃ x,x=(Lib.cut l [32]).2.2:=⟨_,rfl⟩;have hnl:(bs nm).size<=maxLen:=by rw [aK,hc1];have:=vM l;unfold maxLen;omega
 have HC1:Hid ((Lib.cut l [32]).1=nm):=hc1.symm;have HC2:Hid ((Lib.cut l [32]).2.1=tx):=hc2.symm;have HC3:Hid ((Lib.cut l [32]).2.2=sp):=hc3.symm;have HSV:Hid (svB (net,s)=true):=by unfold Hid svB;rw [h.1,h.2];rfl
 have HSS:Hid (svS (net,s)):=mg h.1;have HNL:=Lib.hid hnl;have HS:=Lib.hid h;have HL:=Lib.hid hl;have HT:=Lib.hid ht;have HM:=Lib.hid hm;have HX:=Lib.hid hx;clear hc1 hc2 hc3 h hl ht hm hx hnl;refine zE ?_;intro u1 H;refine zG (iM u1 [.slice A net.length cap,.int .i64 s] (net,s) F ⟨A,cap,rfl,HX.out.below H.O⟩ HSS.out) ?_;rintro e w2 ⟨rfl,hb⟩;replace H:=H.b hb;rw [HSV.out];clear hb;refine zN ?_;clear H;intro u3 H;refine zG (yY l [32] u3 HL.out (HM.out.below H.O (Nat.le_refl _))) ?_;rintro e w4 ⟨rfl,hb⟩;replace H:=H.b hb;rw [HC1.out,HC2.out,HC3.out];clear hb;refine zN ?_;clear H;intro u5 H;refine zG (kn u5) ?_;rintro e w9 ⟨gm,g1,g2',g3,rfl,hmap,b1,b2,b3,hgg,hb⟩;have hob:=H.m;replace H:=H.add hb ((qB g1 3 [.int .i64 1]).and ((qB g2' 3 [.int .i64 2]).and (qB g3 3 [.int .i64 3]))) ⟨b1,b2,b3⟩ (fun i hi=>by rcases hi with h | h | h <;> (have h:i=_:=h;omega))
 clear hb b1 b2 b3 hgg hob;obtain ⟨v,ps,hrun,hv⟩:=hmap.look_ok (t:=66) (string_keyed Tryz.underlying9) Tryz.underlying66 (z:= .agg #[.int .i64 0,.nilFunc]) (zd:= .held (.agg #[.int .i64 0,.nilFunc])) (zp:=[]) (by kernel_rfl) rfl (key:= .string (bs nm)) (WideMaps.keyOf_string_mk Tryz.underlying9 HNL.out)
 have hnm:(bs nm).data.toList=nm:=by simp [bs]
 rw [hnm] at hrun hv;injection hv with hv;injection hv with hv _
 cases hc:ei nm with
 | none =>
  obtain ⟨h1,h2⟩:=vJ hc g1 g2' g3 (.held (.agg #[.int .i64 0,.nilFunc]));rw [h1] at hrun;rw [h2] at hv;injection hv with hv;subst hv;have HLN:Hid (LnR net s l ((net,s),fa)):=by unfold Hid LnR;rw [HC1.out,hc]
  clear h1 h2 hc hmap hnm;refine zC ?_;intro C;intros
  go_wp2_with (with_reducible refine gn 64 rfl ?_)
  refine zM ?_;clear H C;intro u10 H;intros;refine Lib.hid ?_;refine zSt ?_;clear H;intro w10 H;refine zN ?_;clear H;intro u11 H;refine zG (bg HS.out.1 u11 (HX.out.below H.O)) ?_;rintro e w12 ⟨AC,cC,cssC,FC,rfl,hox,hb⟩;replace H:=H.ox hb hox;clear hox hb;refine zS_ ?_;clear H;intro u13 H
  exact ⟨((net,s),fa),AC,cC,cssC,FC,HLN.out,rfl,(H.x 0),H.O⟩
 | some p =>
  obtain ⟨kk,f⟩:=p;obtain ⟨h1,fid,caps,h2,hact,hk3⟩:=vK hc (K:=((qB g1 3 [.int .i64 1]).and ((qB g2' 3 [.int .i64 2]).and (qB g3 3 [.int .i64 3]))).P) (fun W h=>h.1) (fun W h=>h.2.1) (fun W h=>h.2.2) (.held (.agg #[.int .i64 0,.nilFunc]))
  rw [h1] at hrun;rw [h2] at hv;injection hv with hv;subst hv;have hfr:=hact.1;have HACT:=Lib.hid hact.2;have HCM:=Lib.hid hc;clear h1 h2 hc hmap hact hnm;rcases Nat.eq_zero_or_pos kk with k0 | k0
  ·have e0:((kk:Int) == 0)=true:=by rw [k0];rfl
   have e1:decide (0<(kk:Int))=false:=by rw [k0];rfl
   have e2:¬ (0<(kk:Int)):=by omega
   replace e2:(kk:Int)<=0:=by omega
   have HKZ:=Lib.hid k0;clear k0
   cases sp with
   | true =>
    have HLN:Hid (LnR net s l ((net,s),fa)):=by unfold Hid LnR;rw [HC1.out,HCM.out];exact .inl ⟨.inl ⟨HKZ.out,HC3.out⟩,rfl⟩
    refine zC ?_;intro C;intros
    go_wp2_with (with_reducible refine gn 64 rfl ?_)
    refine zM ?_;clear H C;intro u10 H;intros;refine Lib.hid ?_;refine zSt ?_;clear H;intro w10 H;refine zN ?_;clear H;intro u11 H;refine zG (bg HS.out.1 u11 (HX.out.below H.O)) ?_;rintro e w12 ⟨AC,cC,cssC,FC,rfl,hox,hb⟩;replace H:=H.ox hb hox;clear hox hb;refine zS_ ?_;clear H;intro u13 H
    exact ⟨((net,s),fa),AC,cC,cssC,FC,HLN.out,rfl,(H.x 0),H.O⟩
   | false =>
    have htx:tx=[]:=by rw [<- HC2.out];exact Ac HC3.out
    have HTL:Hid (tx.length<=1048576):=by unfold Hid;rw [htx];simp
    have HK0:Hid (kk=0->tx=[]):=fun _=>htx
    have HNF:Hid (¬ uV kk (Lib.cut l [32])):=by unfold Hid uV;rw [HC3.out];have:=HKZ.out;rintro (⟨_,h⟩ | ⟨h,_⟩);cases h;omega
    clear htx;refine zC ?_;intro C;intros
    go_wp2_with (with_reducible refine gn 64 rfl ?_)
    refine zM ?_;clear H C;intro u10 H;intros;refine Lib.hid ?_;refine zSt ?_;clear H;intro w10 H;refine zN ?_;clear H;intro u11 H;refine zG (t_ tx HTL.out kk hk3 HK0.out u11 (HT.out.below H.O (Nat.le_refl _)) (HM.out.below H.O (Nat.le_refl _))) ?_;rintro e wR (⟨ms,AM,cM,FM,hrd,rfl,hrm,hrf,hb⟩ | ⟨hrd,rfl,hb⟩)
    ·replace H:=H.rf hb hrm hrf;have HRD:=Lib.hid hrd;clear hrd hrm hrf hb
     cases hres:f ms net s with
     | none =>
      have HLN:Hid (LnR net s l ((net,s),tNo)):=by unfold Hid LnR;rw [HC1.out,HCM.out];exact .inr ⟨HNF.out,.inl ⟨ms,by rw [HC2.out];exact HRD.out,by rw [hres];rfl⟩⟩
      have HRES:=Lib.hid hres;clear hres;refine zN ?_;clear H;intro u13 H;have E:=H.el;refine zXF (tgF [w9.heap.size,w.heap.size] 10 13 (.cells #[.slice none 0 0,.int .i64 0] 25)) ?_;clear H;intro S w14 hne H;refine zD ((And.intro (H.c 1) (H.c 4))) ?_;intro G;intros;refine f_ (fun w15 (hb:Bw w14 w15)=>bg HS.out.1 w15 (HX.out.below (H.b hb).O)) ?_;clear H
      rintro w15 K hK H e w16 ⟨AC,cC,cssC,FC,rfl,hox,hb⟩;replace H:=H.ox hb hox;clear hox;refine fK ?_;clear hK K hb;intros;refine fU (fun w17 (hb:Bw w16 w17)=>HACT.out w17 net s ms _ _ _ _ _ _ _ _ _ ((H.b hb).p 3) HS.out HRD.out.mv HRD.out.1 (H.b hb).O.size rfl ((H.b hb).x 0) ((H.b hb).f 1).1 (HT.out.below (H.b hb).O (Nat.le_refl _))) ?_;clear H
      rintro w17 K hK H e w18 hr;rw [HRES.out] at hr;have hb:=hr.2.kz (b:=u13.heap.size) (Z:= .cells #[.slice none 0 0,.int .i64 0] 25) (OX.neS (H.x 0) _);obtain ⟨rfl,hu⟩:=hr;replace H:=Hr.ul H hu (fun i hi=>hi) (by repeat (first | exact all_nil | refine all_cons (Hq.nbs H.H (by repeat (with_reducible first | exact Has.h0 | apply Has.t0))) ?_))
      refine fKU ?_;clear hK K hb hu;refine yGv ?_;clear H;intro w19 g19 hg19 H;refine yS ?_;clear H;intro w20 H;refine yN ?_;clear H G;intro u21 H;refine zG (bg HS.out.1 u21 (HX.out.below H.O)) ?_;rintro e w22 ⟨AC,cC,cssC,FC,rfl,hox,hb⟩;replace H:=H.ox hb hox;clear hox hb;refine zS_ ?_;clear H;intro u23 H
      exact ⟨((net,s),tNo),AC,cC,cssC,FC,HLN.out,rfl,(H.x 0),H.O⟩
     | some r =>
      have HLN:Hid (LnR net s l r):=by unfold Hid LnR;rw [HC1.out,HCM.out];exact .inr ⟨HNF.out,.inl ⟨ms,by rw [HC2.out];exact HRD.out,by rw [hres];rfl⟩⟩
      have HRES:=Lib.hid hres;clear hres;refine zN ?_;clear H;intro u13 H;have hZ9:=Blk.lt (H.k 1);have hZ8:=Blk.lt (H.k 4);have E:=H.el;refine zXF (tgF [w9.heap.size,w.heap.size] 10 13 (.cells #[.slice none 0 0,.int .i64 0] 25)) ?_;clear H;intro S w14 hne H;refine zD ((And.intro (H.c 1) (H.c 4))) ?_;intro G;intros;refine f_ (fun w15 (hb:Bw w14 w15)=>bg HS.out.1 w15 (HX.out.below (H.b hb).O)) ?_;clear H
      rintro w15 K hK H e w16 ⟨AC,cC,cssC,FC,rfl,hox,hb⟩;replace H:=H.ox hb hox;clear hox;refine fK ?_;clear hK K hb;intros;refine fU (fun w17 (hb:Bw w16 w17)=>HACT.out w17 net s ms _ _ _ _ _ _ _ _ _ ((H.b hb).p 3) HS.out HRD.out.mv HRD.out.1 (H.b hb).O.size rfl ((H.b hb).x 0) ((H.b hb).f 1).1 (HT.out.below (H.b hb).O (Nat.le_refl _))) ?_;clear H
      rintro w17 K hK H e w18 hr;rw [HRES.out] at hr;have hb:=hr.2.kz (b:=u13.heap.size) (Z:= .cells #[.slice none 0 0,.int .i64 0] 25) (OX.neS (H.x 0) _);obtain ⟨⟨A5,c5,css5,F5,rfl,X5⟩,hu⟩:=hr;replace H:=Hr.ul H hu (fun i hi=>hi) (by repeat (first | exact all_nil | refine all_cons (Hq.nbs H.H (by repeat (with_reducible first | exact Has.h0 | apply Has.t0))) ?_))
      refine fKU ?_;clear hK K hb hu;refine yGv ?_;clear H;intro w19 g19 hg19 X5 H;replace H:=H.d 1;replace H:=H.d 1;replace H:=H.d 1;replace H:=H.d 2;replace H:=Hr.adV H X5;clear X5;refine yS ?_;clear H;intro w20 H;refine yN ?_;clear H G;intro u21 H;refine zS_ ?_;clear H;intro u22 H
      exact ⟨r,A5,c5,css5,F5,HLN.out,rfl,(H.x 0),H.O⟩
    ·replace H:=H.b hb;have HLN:Hid (LnR net s l ((net,s),tNo)):=by unfold Hid LnR;rw [HC1.out,HCM.out];exact .inr ⟨HNF.out,.inr ⟨by rw [HC2.out];exact hrd,rfl⟩⟩
     clear hrd hb;refine zN ?_;clear H;intro u13 H;refine zG (bg HS.out.1 u13 (HX.out.below H.O)) ?_;rintro e w14 ⟨AC,cC,cssC,FC,rfl,hox,hb⟩;replace H:=H.ox hb hox;clear hox hb;refine zS_ ?_;clear H;intro u15 H
     exact ⟨((net,s),tNo),AC,cC,cssC,FC,HLN.out,rfl,(H.x 0),H.O⟩
  ·have e0:((kk:Int) == 0)=false:=by simp;omega
   have e1:decide (0<(kk:Int))=true:=by simp;omega
   have e2:0<(kk:Int):=by omega
   have e3:¬ (kk:Int)=0:=by omega
   by_cases htx:tx=[]
   ·have HLN:Hid (LnR net s l ((net,s),fa)):=by unfold Hid LnR;rw [HC1.out,HCM.out];exact .inl ⟨.inr ⟨k0,by rw [HC2.out];exact htx⟩,rfl⟩
    subst htx;have e4:(bs []).toList.isEmpty=true:=by rw [mm];exact (jo _ _).2 rfl
    refine zC ?_;intro C;intros
    go_wp2_with (with_reducible refine gn 64 rfl ?_)
    refine zM ?_;clear H C;intro u10 H;intros;refine Lib.hid ?_;refine zSt ?_;clear H;intro w10 H;refine zN ?_;clear H;intro u11 H;refine zG (bg HS.out.1 u11 (HX.out.below H.O)) ?_;rintro e w12 ⟨AC,cC,cssC,FC,rfl,hox,hb⟩;replace H:=H.ox hb hox;clear hox hb;refine zS_ ?_;clear H;intro u13 H
    exact ⟨((net,s),fa),AC,cC,cssC,FC,HLN.out,rfl,(H.x 0),H.O⟩
   ·have htb:(bs tx).toList.isEmpty=false:=by rw [mm];exact iE (fun e=>htx (by have h:=congrArg (fun b:ByteArray=>b.data.toList) e;simpa [bs] using h))
    have HTL:Hid (tx.length<=1048576):=by unfold Hid;rw [<- HC2.out];exact Nat.le_trans (tR l) HL.out
    have HK0:Hid (kk=0->tx=[]):=fun h=>absurd h (by omega)
    have HNF:Hid (¬ uV kk (Lib.cut l [32])):=by unfold Hid uV;rw [HC2.out];rintro (⟨h,_⟩ | ⟨_,h⟩);omega;exact htx h
    refine zC ?_;intro C;intros
    go_wp2_with (with_reducible refine gn 64 rfl ?_)
    refine zM ?_;clear H C;intro u10 H;intros;refine Lib.hid ?_;refine zSt ?_;clear H;intro w10 H;refine zN ?_;clear H;intro u11 H;refine zG (t_ tx HTL.out kk hk3 HK0.out u11 (HT.out.below H.O (Nat.le_refl _)) (HM.out.below H.O (Nat.le_refl _))) ?_;rintro e wR (⟨ms,AM,cM,FM,hrd,rfl,hrm,hrf,hb⟩ | ⟨hrd,rfl,hb⟩)
    ·replace H:=H.rf hb hrm hrf;have HRD:=Lib.hid hrd;clear hrd hrm hrf hb
     cases hres:f ms net s with
     | none =>
      have HLN:Hid (LnR net s l ((net,s),tNo)):=by unfold Hid LnR;rw [HC1.out,HCM.out];exact .inr ⟨HNF.out,.inl ⟨ms,by rw [HC2.out];exact HRD.out,by rw [hres];rfl⟩⟩
      have HRES:=Lib.hid hres;clear hres;refine zN ?_;clear H;intro u13 H;have E:=H.el;refine zXF (tgF [w9.heap.size,w.heap.size] 10 13 (.cells #[.slice none 0 0,.int .i64 0] 25)) ?_;clear H;intro S w14 hne H;refine zD ((And.intro (H.c 1) (H.c 4))) ?_;intro G;intros;refine f_ (fun w15 (hb:Bw w14 w15)=>bg HS.out.1 w15 (HX.out.below (H.b hb).O)) ?_;clear H
      rintro w15 K hK H e w16 ⟨AC,cC,cssC,FC,rfl,hox,hb⟩;replace H:=H.ox hb hox;clear hox;refine fK ?_;clear hK K hb;intros;refine fU (fun w17 (hb:Bw w16 w17)=>HACT.out w17 net s ms _ _ _ _ _ _ _ _ _ ((H.b hb).p 3) HS.out HRD.out.mv HRD.out.1 (H.b hb).O.size rfl ((H.b hb).x 0) ((H.b hb).f 1).1 (HT.out.below (H.b hb).O (Nat.le_refl _))) ?_;clear H
      rintro w17 K hK H e w18 hr;rw [HRES.out] at hr;have hb:=hr.2.kz (b:=u13.heap.size) (Z:= .cells #[.slice none 0 0,.int .i64 0] 25) (OX.neS (H.x 0) _);obtain ⟨rfl,hu⟩:=hr;replace H:=Hr.ul H hu (fun i hi=>hi) (by repeat (first | exact all_nil | refine all_cons (Hq.nbs H.H (by repeat (with_reducible first | exact Has.h0 | apply Has.t0))) ?_))
      refine fKU ?_;clear hK K hb hu;refine yGv ?_;clear H;intro w19 g19 hg19 H;refine yS ?_;clear H;intro w20 H;refine yN ?_;clear H G;intro u21 H;refine zG (bg HS.out.1 u21 (HX.out.below H.O)) ?_;rintro e w22 ⟨AC,cC,cssC,FC,rfl,hox,hb⟩;replace H:=H.ox hb hox;clear hox hb;refine zS_ ?_;clear H;intro u23 H
      exact ⟨((net,s),tNo),AC,cC,cssC,FC,HLN.out,rfl,(H.x 0),H.O⟩
     | some r =>
      have HLN:Hid (LnR net s l r):=by unfold Hid LnR;rw [HC1.out,HCM.out];exact .inr ⟨HNF.out,.inl ⟨ms,by rw [HC2.out];exact HRD.out,by rw [hres];rfl⟩⟩
      have HRES:=Lib.hid hres;clear hres;refine zN ?_;clear H;intro u13 H;have hZ9:=Blk.lt (H.k 1);have hZ8:=Blk.lt (H.k 4);have E:=H.el;refine zXF (tgF [w9.heap.size,w.heap.size] 10 13 (.cells #[.slice none 0 0,.int .i64 0] 25)) ?_;clear H;intro S w14 hne H;refine zD ((And.intro (H.c 1) (H.c 4))) ?_;intro G;intros;refine f_ (fun w15 (hb:Bw w14 w15)=>bg HS.out.1 w15 (HX.out.below (H.b hb).O)) ?_;clear H
      rintro w15 K hK H e w16 ⟨AC,cC,cssC,FC,rfl,hox,hb⟩;replace H:=H.ox hb hox;clear hox;refine fK ?_;clear hK K hb;intros;refine fU (fun w17 (hb:Bw w16 w17)=>HACT.out w17 net s ms _ _ _ _ _ _ _ _ _ ((H.b hb).p 3) HS.out HRD.out.mv HRD.out.1 (H.b hb).O.size rfl ((H.b hb).x 0) ((H.b hb).f 1).1 (HT.out.below (H.b hb).O (Nat.le_refl _))) ?_;clear H
      rintro w17 K hK H e w18 hr;rw [HRES.out] at hr;have hb:=hr.2.kz (b:=u13.heap.size) (Z:= .cells #[.slice none 0 0,.int .i64 0] 25) (OX.neS (H.x 0) _);obtain ⟨⟨A5,c5,css5,F5,rfl,X5⟩,hu⟩:=hr;replace H:=Hr.ul H hu (fun i hi=>hi) (by repeat (first | exact all_nil | refine all_cons (Hq.nbs H.H (by repeat (with_reducible first | exact Has.h0 | apply Has.t0))) ?_))
      refine fKU ?_;clear hK K hb hu;refine yGv ?_;clear H;intro w19 g19 hg19 X5 H;replace H:=H.d 1;replace H:=H.d 1;replace H:=H.d 1;replace H:=H.d 2;replace H:=Hr.adV H X5;clear X5;refine yS ?_;clear H;intro w20 H;refine yN ?_;clear H G;intro u21 H;refine zS_ ?_;clear H;intro u22 H
      exact ⟨r,A5,c5,css5,F5,HLN.out,rfl,(H.x 0),H.O⟩
    ·replace H:=H.b hb;have HLN:Hid (LnR net s l ((net,s),tNo)):=by unfold Hid LnR;rw [HC1.out,HCM.out];exact .inr ⟨HNF.out,.inr ⟨by rw [HC2.out];exact hrd,rfl⟩⟩
     clear hrd hb;refine zN ?_;clear H;intro u13 H;refine zG (bg HS.out.1 u13 (HX.out.below H.O)) ?_;rintro e w14 ⟨AC,cC,cssC,FC,rfl,hox,hb⟩;replace H:=H.ox hb hox;clear hox hb;refine zS_ ?_;clear H;intro u15 H
     exact ⟨((net,s),tNo),AC,cC,cssC,FC,HLN.out,rfl,(H.x 0),H.O⟩
end
section
attribute [local go_sem] af ah ae
def AdR (base:Nat) (A:Option Addr) (c:Nat) (css:List (List Value)) (F:List Nat) (net:List SL) (s:Int) (res:Option Res) (w:World) (e:Ending) (w':World):Prop:=(match res with
 | none=>e= .returned (.tuple #[.agg #[.slice A net.length c,.int .i64 s],.string (bs [110,111])])/\OX (kE smE) w' base 99 A net.length c css net F
 | some r=>∃ A' c' css' F',e= .returned (.tuple #[.agg #[.slice A' r.1.1.length c',.int .i64 r.1.2],.string (bs r.2)])/\OX (kE smE) w' base 99 A' r.1.1.length c' css' r.1.1 F')/\UpL (fun i=>blk A=some i\/i∈F) w w'
theorem pz {kd s:Int} {ms:List Mx} (hl:aL kd ms=true) (hs:sdB s=true):gH [(kd,ms)] s=true:=by
 unfold gH
 simp [hl,hs]
theorem qE {kd s:Int} {net:List SL} {ms:List Mx} (hl:aL kd ms=false) (hs:sdB s=true) {base c c2:Nat} {A B:Option Addr} {css:List (List Value)} {F FM:List Nat} (w:World) (hbw:base<=w.heap.size) (hox:OX (kE smE) w base 99 A net.length c css net F) (hms:RI mxE w B ms.length c2 ms FM) (hmS:∀ m,m∈ms->mS m) (hml:ms.length<=1048576) :
  Calls Tryz.prog 44 #[.agg #[.slice A net.length c,.int .i64 s],.agg #[.int .i64 kd,.slice B ms.length c2]] w (AdR base A c css F net s (dI kd ms net s) w):=by
 have hns:gG (kS mS) [(kd,ms)]:=⟨by simp,fun l hl=>by obtain rfl:l=(kd,ms):=(by simpa using hl);exact ⟨hml,hmS⟩⟩
 have HSP:Hid (o_ [(kd,ms)] s=([],0)):=by show _=_;rw [tz (rZ (k:=0) (l:=(kd,ms)) rfl hl)]
 have HPA:Hid (dI kd ms net s=none):=by show _=_;unfold dI;rw [if_neg (by rw [hl];simp)]
 have HZ:=Lib.hid (Hq.rs0 hox);have HOX:=Lib.hid hox;have HBW:=Lib.hid hbw;have HMS:=Lib.hid hms;have HNS:=Lib.hid hns;clear hns hox hbw hms hmS hml hl hs;refine zE ?_;intro u1 H;have hms1:=RI.below HMS.out H.O;replace H:=HZ.out.join H (by repeat constructor)
 refine zG (jP _ _ _ [(kd,ms)] _ s u1 (RI.one (E:=kE mxE) (cs:=[.int .i64 kd,.slice B ms.length c2]) (x:=(kd,ms)) (H.k 0) ⟨B,c2,rfl,hms1⟩) HNS.out) ?_;rintro e w2 ⟨A2,n2,c3,css2,F2,rfl,hox2,hb⟩;replace H:=H.ox hb hox2;clear hox2 hb hms1;rw [HSP.out] at H ⊢
 dsimp only at H ⊢
 refine zS_ ?_;clear H;intro u3 H
 exact (by obtain ⟨h1,h2⟩:=Hq.rsX HOX.out HBW.out (((((H.d 0).d 0).d 0).d 0).d 0);rw [HPA.out];exact ⟨⟨rfl,h1⟩,h2⟩)
theorem o9 {kd s:Int} {net:List SL} {ms:List Mx} (hl:aL kd ms=true) (h4:net.length=4) (hs:sdB s=true) {base c c2:Nat} {A B:Option Addr} {css:List (List Value)} {F FM:List Nat} (w:World) (hbw:base<=w.heap.size) (hox:OX (kE smE) w base 99 A net.length c css net F) (hms:RI mxE w B ms.length c2 ms FM) (hmS:∀ m,m∈ms->mS m) (hml:ms.length<=1048576) :
  Calls Tryz.prog 44 #[.agg #[.slice A net.length c,.int .i64 s],.agg #[.int .i64 kd,.slice B ms.length c2]] w (AdR base A c css F net s (dI kd ms net s) w):=by
 have hns:gG (kS mS) [(kd,ms)]:=⟨by simp,fun l hl=>by obtain rfl:l=(kd,ms):=(by simpa using hl);exact ⟨hml,hmS⟩⟩
 have HSP:Hid (o_ [(kd,ms)] s=([(kd,(aP ms s).1)],(aP ms s).2)):=by show _=_;rw [tA (pz hl hs)];rfl
 have HPA:Hid (dI kd ms net s=none):=by show _=_;unfold dI;rw [if_neg (by omega)]
 have hqs:sdB (aP ms s).2=true:=fE hs (lD hl);obtain ⟨P,hP⟩:∃ P,P=(aP ms s).1:=⟨_,rfl⟩;obtain ⟨q2,hq2⟩:∃ y,y=(aP ms s).2:=⟨_,rfl⟩;rw [<- hP,<- hq2] at HSP;rw [<- hq2] at hqs;have hq0:¬ q2=0:=by have:=dH hqs;omega
 have hqb:(q2 == 0)=false:=by simpa using hq0
 clear hqs hP hq2;have HZ:=Lib.hid (Hq.rs0 hox);have HOX:=Lib.hid hox;have HBW:=Lib.hid hbw;have HMS:=Lib.hid hms;have HNS:=Lib.hid hns;clear hns hox hbw hms hmS hml hl hs;refine zE ?_;intro u1 H;have hms1:=RI.below HMS.out H.O;replace H:=HZ.out.join H (by repeat constructor)
 refine zG (jP _ _ _ [(kd,ms)] _ s u1 (RI.one (E:=kE mxE) (cs:=[.int .i64 kd,.slice B ms.length c2]) (x:=(kd,ms)) (H.k 0) ⟨B,c2,rfl,hms1⟩) HNS.out) ?_;rintro e w2 ⟨A2,n2,c3,css2,F2,rfl,hox2,hb⟩;replace H:=H.ox hb hox2;clear hox2 hb hms1;rw [HSP.out] at H ⊢
 dsimp only at H ⊢
 have e4:((net.length:Int) == 4)=true:=by simp;omega
 refine zS_ ?_;clear H;intro u3 H
 exact (by obtain ⟨h1,h2⟩:=Hq.rsX HOX.out HBW.out (((((H.d 0).d 0).d 0).d 0).d 0);rw [HPA.out];exact ⟨⟨by rw [h4];rfl,h1⟩,h2⟩)
theorem sC {kd s:Int} {net:List SL} {ms:List Mx} (hl:aL kd ms=true) (h4:net.length<4) (hs:sdB s=true) {base c c2:Nat} {A B:Option Addr} {css:List (List Value)} {F FM:List Nat} (w:World) (hbw:base<=w.heap.size) (hox:OX (kE smE) w base 99 A net.length c css net F) (hms:RI mxE w B ms.length c2 ms FM) (hmS:∀ m,m∈ms->mS m) (hml:ms.length<=1048576) :
  Calls Tryz.prog 44 #[.agg #[.slice A net.length c,.int .i64 s],.agg #[.int .i64 kd,.slice B ms.length c2]] w (AdR base A c css F net s (dI kd ms net s) w):=by
 have hns:gG (kS mS) [(kd,ms)]:=⟨by simp,fun l hl=>by obtain rfl:l=(kd,ms):=(by simpa using hl);exact ⟨hml,hmS⟩⟩
 have HSP:Hid (o_ [(kd,ms)] s=([(kd,(aP ms s).1)],(aP ms s).2)):=by show _=_;rw [tA (pz hl hs)];rfl
 have HPA:Hid (dI kd ms net s=some ((net++[(kd,(aP ms s).1)],(aP ms s).2),[111,107])):=by show _=_;unfold dI;rw [if_pos ⟨hl,h4⟩]
 have hqs:sdB (aP ms s).2=true:=fE hs (lD hl);obtain ⟨P,hP⟩:∃ P,P=(aP ms s).1:=⟨_,rfl⟩;obtain ⟨q2,hq2⟩:∃ y,y=(aP ms s).2:=⟨_,rfl⟩;rw [<- hP,<- hq2] at HSP HPA;rw [<- hq2] at hqs;have hq0:¬ q2=0:=by have:=dH hqs;omega
 have hqb:(q2 == 0)=false:=by simpa using hq0
 clear hqs hP hq2;have hll:(net++[(kd,P)]).length=net.length+1:=by simp
 have HZ:=Lib.hid (Hq.rs0 hox);have HOX:=Lib.hid hox;have HBW:=Lib.hid hbw;have HMS:=Lib.hid hms;have HNS:=Lib.hid hns;clear hns hox hbw hms hmS hml hl hs;refine zE ?_;intro u1 H;have hms1:=RI.below HMS.out H.O;replace H:=HZ.out.join H (by repeat constructor)
 refine zG (jP _ _ _ [(kd,ms)] _ s u1 (RI.one (E:=kE mxE) (cs:=[.int .i64 kd,.slice B ms.length c2]) (x:=(kd,ms)) (H.k 0) ⟨B,c2,rfl,hms1⟩) HNS.out) ?_;rintro e w2 ⟨A2,n2,c3,css2,F2,rfl,hox2,hb⟩;replace H:=H.ox hb hox2;clear hox2 hb hms1;rw [HSP.out] at H ⊢
 dsimp only at H ⊢
 have e4:((net.length:Int) == 4)=false:=by simp;omega
 have e5:¬ (net.length:Int)=4:=by omega
 obtain ⟨cs2,g2,rfl,rfl,rfl,hp2,-⟩:=OX.one (H.x 0);obtain ⟨A3,c4,rfl,-⟩:=hp2;refine zN ?_;clear H;intro u3 H;have ez:=(OX.ft (H.x 0)).2.2.2;refine zXZ (tg [w.heap.size,g2]) ?_;clear H;intro S w4 hne H;refine zD (H.c 4) ?_;intro G;have r0:=H.row (show World.cell? _ ⟨g2,0,none⟩=some (.int .i64 kd) from (OX.ft (H.x 0)).2.2.1 0 (by decide))
 have r1:=H.row (show World.cell? _ ⟨g2,1,none⟩=some (.slice A3 P.length c4) from (OX.ft (H.x 0)).2.2.1 1 (by decide))
 refine yM ?_;clear H;intro w5 H;have e2:=OX.ft (H.x 1);have hx:=e2.1;have hf:=e2.2.1.mono (Nat.zero_le _:(fI w).heap.size<=_);have hng:blk A≠some g2:=fun e=>by refine H.H.noo 6 1 g2 ?_ ?_;exact Or.inl e;exact Or.inl rfl
 replace H:=((H.r 1).r 6);refine yX (an4 zY hx hf (fun i hi=>Or.inr hi)) ?_;clear H e2 hx hf hng;intro g1 k1 w6 H
 intros;refine zCr ?_;intro C;intros
 repeat (first | (refine lc' ?_;intro K hK;go_big_quiet_op;go_big_quiet_on) | refine lk' ?_)
 refine aV rfl (by rfl) (by rfl) (fun K hK=> ?_)
 unfold Oper.gives
 go_simp
 refine hK _ _ ?_;replace H:=H.H;refine aI ?_;clear C G;refine zS_ ?_;clear H;intro u7 H
 exact (by obtain ⟨h1,h2⟩:=Hq.rsX HOX.out HBW.out (((((H.d 1).d 1).d 1).d 1).d 1);rw [HPA.out];exact ⟨⟨some ⟨g1,0,none⟩,k1,_,_,by dsimp only;rw [hll];rfl,by dsimp only;rw [hll];exact h1⟩,h2⟩)
theorem jR {kd s:Int} {net:List SL} {ms:List Mx} (h4:net.length<=4) (hs:sdB s=true) {base c c2:Nat} {A B:Option Addr} {css:List (List Value)} {F FM:List Nat} (w:World) (hbw:base<=w.heap.size) (hox:OX (kE smE) w base 99 A net.length c css net F) (hms:RI mxE w B ms.length c2 ms FM) (hmS:∀ m,m∈ms->mS m) (hml:ms.length<=1048576) :
  Calls Tryz.prog 44 #[.agg #[.slice A net.length c,.int .i64 s],.agg #[.int .i64 kd,.slice B ms.length c2]] w (AdR base A c css F net s (dI kd ms net s) w):=by
 cases hl:aL kd ms
 ·exact qE hl hs w hbw hox hms hmS hml
 ·by_cases h:net.length<4
  ·exact sC hl h hs w hbw hox hms hmS hml
  ·exact o9 hl (by omega) hs w hbw hox hms hmS hml
end
def Wk (l:List UInt8) (k:Nat) (W:List (List UInt8)):Prop:=W≠[]/\(∀ x∈W,(32:UInt8)∉x)/\Lib.join W [32]=l.take k
theorem Wk.start (l:List UInt8):Wk l 0 [[]]:=⟨by simp,by simp,by simp [Lib.join_one]⟩
theorem Wk.space {l:List UInt8} {k:Nat} {W:List (List UInt8)} (h:Wk l k W) (hk:k<l.length) (hc:l[k]=32):Wk l (k+1) (W++[[]]):=by
 obtain ⟨h1,h2,h3⟩:=h;refine ⟨by simp,fun x hx=> ?_,?_⟩
 ·rcases List.mem_append.1 hx with hx | hx
  ·exact h2 x hx
  ·have:x=[]:=by simpa using hx
   rw [this];simp
 ·rw [fo h1,h3,List.take_succ_eq_append_getElem hk,hc,List.append_nil]
theorem Wk.more {l:List UInt8} {k m:Nat} {W:List (List UInt8)} {x:List UInt8} {c:UInt8} (h:Wk l k W) (hk:k<l.length) (hc:l[k]=c) (hne:c≠32) (hm:W.length=m+1) (hx:W.getD m []=x):Wk l (k+1) (W.set m (x++[c])):=by
 obtain ⟨h1,h2,h3⟩:=h;obtain ⟨I,hI⟩:∃ I,W=I++[x]/\I.length=m:=by
  refine ⟨W.take m,?_,by rw [List.length_take];omega⟩
  have:=List.take_succ_eq_append_getElem (l:=W) (i:=m) (by omega)
  rw [List.take_of_length_le (by omega)] at this
  rw [List.getD_eq_getElem?_getD,List.getElem?_eq_getElem (by omega)] at hx
  rw [<- hx]
  exact this
 obtain ⟨rfl,hIm⟩:=hI;have e:(I++[x]).set m (x++[c])=I++[x++[c]]:=by
  rw [List.set_append_right _ _ (by omega),hIm,Nat.sub_self]
  rfl
 rw [e];refine ⟨by simp,fun y hy=> ?_,?_⟩
 ·rcases List.mem_append.1 hy with hy | hy
  ·exact h2 y (List.mem_append_left _ hy)
  ·have:y=x++[c]:=by simpa using hy
   rw [this];intro hm;rcases List.mem_append.1 hm with hm | hm
   ·exact h2 x (by simp) hm
   ·have:(32:UInt8)=c:=by simpa using hm
    exact hne this.symm
 ·rw [List.take_succ_eq_append_getElem hk,hc,<- h3]
  by_cases hI0:I=[]
  ·subst hI0;simp [Lib.join_one]
  ·rw [fo hI0,fo hI0];simp [List.append_assoc]
theorem Wk.fin {l:List UInt8} {W:List (List UInt8)} (h:Wk l l.length W):W=Lib.split l [32]:=by
 obtain ⟨h1,h2,h3⟩:=h;rw [List.take_length] at h3;rw [<- h3]
 exact (kV h1 h2).symm
theorem Wk.len {l:List UInt8} {k:Nat} {W:List (List UInt8)} (h:Wk l k W):W.length<=l.length+1/\∀ x∈W,x.length<=l.length:=by
 obtain ⟨h1,h2,h3⟩:=h;have e:Lib.split (l.take k) [32]=W:=by rw [<- h3];exact kV h1 h2
 have hk:(l.take k).length<=l.length:=by rw [List.length_take];omega
 refine ⟨?_,fun x hx=> ?_⟩
 ·have hl:∀ W:List (List UInt8),W≠[]->W.length<=(Lib.join W [32]).length+1:=by
   intro W
   induction W with
   | nil=>intro h;exact absurd rfl h
   | cons x W ih =>
    intro _
    by_cases hW:W=[]
    ·subst hW;simp
    ·rw [hU x hW,List.length_append,List.length_append,List.length_cons];have:=ih hW;simp only [List.length_cons,List.length_nil]
     omega
  have:=hl W h1;rw [h3] at this
  omega
 ·rw [<- e] at hx
  exact Nat.le_trans (bX (by simp) hx) hk
def Wi (l:List UInt8) (w wr:World) (k g m cap:Nat) (W:List (List UInt8)):Prop:=Wk l k W/\W.length=m+1/\VO wr w.heap.size 9 1 (some ⟨g,0,none⟩) (m+1) cap (strs W)/\Below w.heap.size w wr
theorem xl (W:List (List UInt8)) (m:Nat) (x:List UInt8):(strs W).set m (.string (bs x))=strs (W.set m x):=by
 simp [strs,List.map_set]
theorem tp (l:List UInt8) (hl:l.length<=1048577) (w:World):Calls Tryz.prog 87 #[.string (bs l)] w fun e w'=>(∃ (A:Option Addr) (c:Nat),e= .returned (.slice A (Lib.split l [32]).length c)/\VO w' w.heap.size 9 1 A (Lib.split l [32]).length c (strs (Lib.split l [32])))/\Below w.heap.size w w':=by
 obtain ⟨s,hs⟩:∃ s,s=bs l:=⟨_,rfl⟩;rw [<- hs];have hss:s.size=l.length:=by rw [hs,aK]
 have HS:=Lib.hid hs;have HSS:=Lib.hid hss;have HL:=Lib.hid hl;have HZ:Hid (Wi l w (w.alloc (.cells #[.string ⟨#[]⟩] 9)) 0 w.heap.size 0 1 [[]]):=by
  refine ⟨Wk.start l,rfl,?_,(Below.refl _ _).alloc (Nat.le_refl _) _⟩
  exact ⟨by simp [strs],.inr ⟨w.heap.size,1,_,rfl,Nat.le_refl _,Blk.new w 9 _,Nat.le_refl _,by unfold maxLen;omega,by simp,rfl⟩⟩
 clear hs hss hl;obtain ⟨i0',hi,hz0,hz1,hz2⟩:=info_parts mQ
 go_enter Tryz.func87,Tryz.ntmps87
 go_wp2_with fail
 go_loopw [3,4] (fun o q wr=>∃ (k g m cap:Nat) (W:List (List UInt8)),k<=s.size/\q= .int .i64 k/\o= .slice (some ⟨g,0,none⟩) (m+1) cap/\Hid (Wi l w wr k g m cap W)) (fun _ q _=>s.size-(intOf q).toNat)
 case atStart=>exact ⟨0,_,0,1,_,Nat.zero_le _,rfl,rfl,HZ⟩
 case round =>
  obtain ⟨k,g,m,cap,W,hk,rfl,rfl,hwi⟩:=hrel;obtain ⟨wo,rfl⟩:∃ u:World,u=wr:=⟨_,rfl⟩;have hk64:(s.size:Int)<=1048577:=by have:=HSS.out;have:=HL.out;omega
  have k0:(0:Int)<=(k:Int):=by omega
  have hsz:w.heap.size<=wo.heap.size:=hwi.out.2.2.2.size;have hm:m+1<=1048578:=by have h1:=hwi.out.1.len.1;have h2:=hwi.out.2.1;have:=HL.out;omega
  by_cases hlt:k<s.size
  ·obtain ⟨hkl,hbk⟩:=jY l HS.out k hlt;have k1:(k:Int)<(s.size:Int):=by omega
   have k2:((k:Int)+1)<=(s.size:Int):=by omega
   obtain ⟨c,hc⟩:∃ c,l[k]=c:=⟨_,rfl⟩;have hsc:s[k]=c:=by rw [<- hbk];exact hc
   have HC:=Lib.hid hc;clear hc hbk
   by_cases hsp:c=32
   ·have hcb:((c.toNat:Int) == 32)=true:=by rw [hsp];rfl
    have HNX:=Lib.hid (hwi.out.1.space hkl (by rw [HC.out];exact hsp))
    clear hsp
    go_wp2_with (at_builtin;refine wpList_append_lies _ rfl _ _ 48 rfl w.heap.size 9 i0' (.string ByteArray.empty) 1 16 Tryz.underlying48 hi hz0 hz1 hz2 rfl (by decide) (.slice (some ⟨g,0,none⟩) (m+1) cap) (m+1) _ rfl (World.ownsRow.alloc hwi.out.2.2.1 _) ⟨wo.heap.size,0,none⟩ 1 1 [.string ⟨#[]⟩] rfl rfl ?c1 ?c2 ?c3 ?c4 ?c5 ?c6 (wo.heap.size+1) ?c7 ?_)
    case c1=>exact fk _ _ _
    case c2=>simp [Value.oneCell']
    case c3=>omega
    case c4=>unfold maxLen;omega
    case c5=>omega
    case c6=>simp;omega
    case c7=>simp
    intro g' cap' w2 hown hgrow hat _;have hNX:Hid (Wi l w w2 (k+1) g' (m+1) cap' (W++[[]])):=by
     obtain ⟨k1,k2,_,_⟩:=VO.push hwi.out.2.2.1 hwi.out.2.2.2 (Nat.le_refl _) hwi.out.2.2.2.size hown hgrow hat;refine ⟨HNX.out,by rw [List.length_append,hwi.out.2.1];rfl,?_,k2⟩
     have e:strs (W++[[]])=strs W++[.string ⟨#[]⟩]:=by simp [strs];rfl
     rw [e]
     exact k1
    clear hown hgrow hat HNX hwi;go_wp2
    go_roundw
    case rel=>exact ⟨k+1,g',m+1,cap',_,by omega,by go_num,rfl,hNX⟩
    case measure=>simp [intOf];omega
   ·have hcb:((c.toNat:Int) == 32)=false:=by
     rw [beq_eq_false_iff_ne];intro h
     exact hsp (UInt8.toNat_inj.1 (by have e:(32:UInt8).toNat=32:=rfl;omega))
    obtain ⟨x,hx⟩:∃ x,W.getD m []=x:=⟨_,rfl⟩;have HNX:=Lib.hid (hwi.out.1.more hkl HC.out hsp hwi.out.2.1 hx);have hxl:x.length<=l.length:=hwi.out.1.len.2 x (by rw [<- hx];exact eS (by rw [hwi.out.2.1];omega))
    have cg:wo.cell? ⟨g,m,none⟩=some (.string (bs x)):=by rw [hwi.out.2.2.1.cell m (by omega),jh (by rw [hwi.out.2.1];omega),hx]
    have fg:wo.frozen? ⟨g,m,none⟩=false:=hwi.out.2.2.1.frozen m;have hex:s.extract k (k+1)=bs [c]:=by
     rw [HS.out];have h:((bs l).extract k (k+1)).data.toList=[c]:=by
      rw [Lib.extract_data]
      show (l.drop k).take (k+1-k)=[c]
      rw [<- HC.out,List.drop_eq_getElem_cons hkl];have e1:k+1-k=1:=by omega
      rw [e1]
      rfl
     rw [<- fe ((bs l).extract k (k+1)),h]
    have hap:bs x++bs [c]=bs (x++[c]):=bN _ _;have hov:(9223372036854775807<(bs x).size+(bs [c]).size)=False:=by
     rw [aK,aK];simp only [List.length_cons,List.length_nil,eq_iff_iff,iff_false];have:=HL.out
     omega
    have m0:(0:Int)<=(m:Int):=by omega
    have m1:(m:Int)<(m:Int)+1:=by omega
    clear hx hxl hsp
    go_wp2_with fail
    go_region
    have hNX:Hid (Wi l w (wo.setCell ⟨g,m,none⟩ (.string (bs (x++[c])))).drew (k+1) g m cap (W.set m (x++[c]))):=by
     refine ⟨HNX.out,by rw [List.length_set,hwi.out.2.1],?_,(hwi.out.2.2.2.setCell (hwi.out.2.2.1.aj g rfl).1 _).drew⟩
     rw [<- xl]
     exact VO.drewN (hwi.out.2.2.1.store m (.string (bs (x++[c])))) 1
    clear HNX hwi;go_wp2
    go_roundw
    case rel=>exact ⟨k+1,g,m,cap,_,by omega,by go_num,rfl,hNX⟩
    case measure=>simp [intOf];omega
  ·obtain rfl:k=s.size:=by omega
   have hfin:Hid (W=Lib.split l [32]):=by
    have h:=hwi.out.1;rw [HSS.out] at h
    exact h.fin
   have hn:Hid (m+1=(Lib.split l [32]).length):=by show _=_;rw [<- hfin.out,hwi.out.2.1]
   have HV:Hid (VO wo w.heap.size 9 1 (some ⟨g,0,none⟩) (Lib.split l [32]).length cap (strs (Lib.split l [32]))):=by
    have h:=hwi.out.2.2.1;rw [hfin.out,hn.out] at h
    exact h
   have HB:=Lib.hid hwi.out.2.2.2;clear hwi;go_wp2
   go_ret
   exact ⟨⟨_,cap,lI (A:=some ⟨g,0,none⟩) hn.out,HV.out⟩,HB.out⟩
end Go.Proofs.YtjciicheoghcdaaGreatDoor
