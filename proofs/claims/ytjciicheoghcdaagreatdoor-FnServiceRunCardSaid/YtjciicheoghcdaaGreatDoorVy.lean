/- Part of the proof: the law FnServiceRun is true for every input. -/
import Derived.BigRegion
import Derived.Maps.OwnSet
import Derived.RegionTactic
import Derived.Test.YtjciicheoghcdaaGreatDoorVk
import Derived.Test.YtjciicheoghcdaaGreatDoorVr
import Derived.Test.YtjciicheoghcdaaGreatDoorVw
import Derived.Test.YtjciicheoghcdaaGreatDoorVx
namespace Go.Proofs.YtjciicheoghcdaaGreatDoor
open Go.RowKit Go.Proofs.Tryz
set_option linter.all false
set_option maxRecDepth 20000
set_option maxHeartbeats 16000000
section
attribute [local go_sem] af ah ae
open Go.Maps
def RH (v:Value):Option (DataW Value×List MemPlace):=some (.held v,[])
def qZ (g1 g2 g3:Nat):DataW Value:= .map [(.string [100,101,110,115,101],.held (.agg #[.int .i64 2,.func (.func 123) #[] #[.pointer (some ⟨g1,0,none⟩)]])),(.string [109,105,120],.held (.agg #[.int .i64 3,.func (.func 123) #[] #[.pointer (some ⟨g3,0,none⟩)]])),(.string [110,101,101,100,115],.held (.agg #[.int .i64 1,.func (.func 79) #[] #[]])),(.string [114,97,109,112],.held (.agg #[.int .i64 0,.func (.func 123) #[] #[.pointer (some ⟨g2,0,none⟩)]])),(.string [114,117,110],.held (.agg #[.int .i64 1,.func (.func 78) #[] #[]]))]
theorem jH (kd:Int) (w:World):Calls prog 77 #[.int .i64 kd] w fun e w'=>e= .returned (.func (.func 123) #[] #[.pointer (some ⟨w.heap.size,0,none⟩)])/\w'=w.alloc (.cells #[.int .i64 kd] 3):=by
 go_enter func77,ntmps77
 go_wp2
 go_ret
 exact⟨rfl,rfl⟩
def CmR (w:World) (e:Ending) (w':World):Prop:=∃ g g1 g2 g3,e= .returned (.map (some g))/\w'.ownsMap prog 9 RH g 5 (qZ g1 g2 g3)/\Blk w' g1 3 #[.int .i64 1]/\Blk w' g2 3 #[.int .i64 2]/\Blk w' g3 3 #[.int .i64 3]/\(w.heap.size<=g1/\w.heap.size<=g2/\w.heap.size<=g3)/\Below w.heap.size w w'
theorem Blk.ik {w w':World} {g b:Nat} {t:TypeId} {cs:Array Value} (h:Blk w g t cs) (hg:w.grownBy w' (some b)) (hn:b≠g):Blk w' g t cs:=(hg.block g h.lt (fun e=>hn (by injection e with e;exact e.symm))).trans h
theorem Gc (w:World):Calls prog 35 #[] w (CmR w):=by
 have hmm:=@run_makeMap prog;have KK:Hid (Keyed prog 9):=string_keyed underlying9;have h0:Hid ((w.alloc (.map #[] 0)).ownsMap prog 9 RH w.heap.size 0 (.map [])):=World.ownsMap_made _ _ _ _;obtain⟨u0,hu⟩:∃ u,u=w.alloc (.map #[] 0):=⟨_,rfl⟩;rw[<-hu] at h0;have O:Hid (Below w.heap.size w u0):=Below.cast hu (Qb.alloc Ql _);have HU:=Qh hu;have zg:w.heap.size<u0.heap.size:=h0.out.lt;clear hu
 go_enter func35,ntmps35
 go_wp2_with fail
 rw[<-HU.out];refine(jH 1 u0).mono ?_;rintro e wx ⟨rfl,rfl⟩;obtain⟨g1,hg1⟩:∃ g,g=u0.heap.size:=⟨_,rfl⟩;rw[<-hg1];obtain⟨v1,hv1⟩:∃ v,v=u0.alloc (.cells #[.int .i64 1] 3):=⟨_,rfl⟩;rw[<-hv1];have hm0:Hid (World.ownsMap v1 prog 9 RH w.heap.size 0 (.map []:DataW Value)):=by rw[hv1];exact h0.out.alloc _
 replace O:Hid (Below w.heap.size w v1):=Below.cast hv1 (O.out.alloc O.out.size _);have bg1:Blk v1 g1 3 #[.int .i64 1]:=Blk.cast hv1 (Blk.iA hg1);have ng1:w.heap.size≠g1:=by have:=h0.out.lt;omega
 have gg1:w.heap.size<=g1:=by have:=h0.out.lt;omega
 clear hg1 hv1 h0;obtain⟨u1,hr1,hq1,hw1⟩:=hm0.out.update (t:=66) KK.out underlying66 (by unfold maxLen;omega) (key:= .string ⟨#[100,101,110,115,101]⟩) (WideMaps.keyOf_string_mk underlying9 (by decide)) (val:= .agg #[.int .i64 2,.func (.func 123) #[] #[.pointer (some ⟨g1,0,none⟩)]]) rfl
 replace O:Hid (Below w.heap.size w u1):=O.out.grown hw1 O.out.size (fun j hj=>by injection hj with hj;subst hj;exact Nat.le_refl _)
 replace bg1:=bg1.ik hw1 ng1;have h1:Hid (World.ownsMap u1 prog 9 RH w.heap.size 1 (DataW.put (.map []:DataW Value) (.string [100,101,110,115,101]) (.held (.agg #[.int .i64 2,.func (.func 123) #[] #[.pointer (some ⟨g1,0,none⟩)]])))):=hq1;clear hq1 hw1 hm0
 go_wp2_with fail
 refine(jH 2 u1).mono ?_;rintro e wx ⟨rfl,rfl⟩;obtain⟨g2,hg2⟩:∃ g,g=u1.heap.size:=⟨_,rfl⟩;rw[<-hg2];obtain⟨v2,hv2⟩:∃ v,v=u1.alloc (.cells #[.int .i64 2] 3):=⟨_,rfl⟩;rw[<-hv2];have hm1:Hid (World.ownsMap v2 prog 9 RH w.heap.size 1 (DataW.put (.map []:DataW Value) (.string [100,101,110,115,101]) (.held (.agg #[.int .i64 2,.func (.func 123) #[] #[.pointer (some ⟨g1,0,none⟩)]])))):=by rw[hv2];exact h1.out.alloc _
 replace O:Hid (Below w.heap.size w v2):=Below.cast hv2 (O.out.alloc O.out.size _);have bg2:Blk v2 g2 3 #[.int .i64 2]:=Blk.cast hv2 (Blk.iA hg2);have ng2:w.heap.size≠g2:=by have:=h1.out.lt;omega
 have gg2:w.heap.size<=g2:=by have:=h1.out.lt;omega
 replace bg1:=Blk.cast hv2 (bg1.alloc _);clear hg2 hv2 h1;obtain⟨u2,hr2,hq2,hw2⟩:=hm1.out.update (t:=66) KK.out underlying66 (by unfold maxLen;omega) (key:= .string ⟨#[114,97,109,112]⟩) (WideMaps.keyOf_string_mk underlying9 (by decide)) (val:= .agg #[.int .i64 0,.func (.func 123) #[] #[.pointer (some ⟨g2,0,none⟩)]]) rfl
 replace O:Hid (Below w.heap.size w u2):=O.out.grown hw2 O.out.size (fun j hj=>by injection hj with hj;subst hj;exact Nat.le_refl _)
 replace bg1:=bg1.ik hw2 ng1;replace bg2:=bg2.ik hw2 ng2;have h2:Hid (World.ownsMap u2 prog 9 RH w.heap.size 2 (DataW.put (DataW.put (.map []:DataW Value) (.string [100,101,110,115,101]) (.held (.agg #[.int .i64 2,.func (.func 123) #[] #[.pointer (some ⟨g1,0,none⟩)]]))) (.string [114,97,109,112]) (.held (.agg #[.int .i64 0,.func (.func 123) #[] #[.pointer (some ⟨g2,0,none⟩)]])))):=hq2;clear hq2 hw2 hm1
 go_wp2_with fail
 refine(jH 3 u2).mono ?_;rintro e wx ⟨rfl,rfl⟩;obtain⟨g3,hg3⟩:∃ g,g=u2.heap.size:=⟨_,rfl⟩;rw[<-hg3];obtain⟨v3,hv3⟩:∃ v,v=u2.alloc (.cells #[.int .i64 3] 3):=⟨_,rfl⟩;rw[<-hv3];have hm2:Hid (World.ownsMap v3 prog 9 RH w.heap.size 2 (DataW.put (DataW.put (.map []:DataW Value) (.string [100,101,110,115,101]) (.held (.agg #[.int .i64 2,.func (.func 123) #[] #[.pointer (some ⟨g1,0,none⟩)]]))) (.string [114,97,109,112]) (.held (.agg #[.int .i64 0,.func (.func 123) #[] #[.pointer (some ⟨g2,0,none⟩)]])))):=by rw[hv3];exact h2.out.alloc _
 replace O:Hid (Below w.heap.size w v3):=Below.cast hv3 (O.out.alloc O.out.size _);have bg3:Blk v3 g3 3 #[.int .i64 3]:=Blk.cast hv3 (Blk.iA hg3);have ng3:w.heap.size≠g3:=by have:=h2.out.lt;omega
 have gg3:w.heap.size<=g3:=by have:=h2.out.lt;omega
 replace bg1:=Blk.cast hv3 (bg1.alloc _);replace bg2:=Blk.cast hv3 (bg2.alloc _);clear hg3 hv3 h2;obtain⟨u3,hr3,hq3,hw3⟩:=hm2.out.update (t:=66) KK.out underlying66 (by unfold maxLen;omega) (key:= .string ⟨#[109,105,120]⟩) (WideMaps.keyOf_string_mk underlying9 (by decide)) (val:= .agg #[.int .i64 3,.func (.func 123) #[] #[.pointer (some ⟨g3,0,none⟩)]]) rfl
 replace O:Hid (Below w.heap.size w u3):=O.out.grown hw3 O.out.size (fun j hj=>by injection hj with hj;subst hj;exact Nat.le_refl _)
 replace bg1:=bg1.ik hw3 ng1;replace bg2:=bg2.ik hw3 ng2;replace bg3:=bg3.ik hw3 ng3;have h3:Hid (World.ownsMap u3 prog 9 RH w.heap.size 3 (DataW.put (DataW.put (DataW.put (.map []:DataW Value) (.string [100,101,110,115,101]) (.held (.agg #[.int .i64 2,.func (.func 123) #[] #[.pointer (some ⟨g1,0,none⟩)]]))) (.string [114,97,109,112]) (.held (.agg #[.int .i64 0,.func (.func 123) #[] #[.pointer (some ⟨g2,0,none⟩)]]))) (.string [109,105,120]) (.held (.agg #[.int .i64 3,.func (.func 123) #[] #[.pointer (some ⟨g3,0,none⟩)]])))):=hq3;clear hq3 hw3 hm2;have hm3:=h3;clear h3;obtain⟨u4,hr4,hq4,hw4⟩:=hm3.out.update (t:=66) KK.out underlying66 (by unfold maxLen;omega) (key:= .string ⟨#[114,117,110]⟩) (WideMaps.keyOf_string_mk underlying9 (by decide)) (val:= .agg #[.int .i64 1,.func (.func 78) #[] #[]]) rfl
 replace O:Hid (Below w.heap.size w u4):=O.out.grown hw4 O.out.size (fun j hj=>by injection hj with hj;subst hj;exact Nat.le_refl _)
 replace bg1:=bg1.ik hw4 ng1;replace bg2:=bg2.ik hw4 ng2;replace bg3:=bg3.ik hw4 ng3;have h4:Hid (World.ownsMap u4 prog 9 RH w.heap.size 4 (DataW.put (DataW.put (DataW.put (DataW.put (.map []:DataW Value) (.string [100,101,110,115,101]) (.held (.agg #[.int .i64 2,.func (.func 123) #[] #[.pointer (some ⟨g1,0,none⟩)]]))) (.string [114,97,109,112]) (.held (.agg #[.int .i64 0,.func (.func 123) #[] #[.pointer (some ⟨g2,0,none⟩)]]))) (.string [109,105,120]) (.held (.agg #[.int .i64 3,.func (.func 123) #[] #[.pointer (some ⟨g3,0,none⟩)]]))) (.string [114,117,110]) (.held (.agg #[.int .i64 1,.func (.func 78) #[] #[]])))):=hq4;clear hq4 hw4 hm3;have hm4:=h4;clear h4;obtain⟨u5,hr5,hq5,hw5⟩:=hm4.out.update (t:=66) KK.out underlying66 (by unfold maxLen;omega) (key:= .string ⟨#[110,101,101,100,115]⟩) (WideMaps.keyOf_string_mk underlying9 (by decide)) (val:= .agg #[.int .i64 1,.func (.func 79) #[] #[]]) rfl
 replace O:Hid (Below w.heap.size w u5):=O.out.grown hw5 O.out.size (fun j hj=>by injection hj with hj;subst hj;exact Nat.le_refl _)
 replace bg1:=bg1.ik hw5 ng1;replace bg2:=bg2.ik hw5 ng2;replace bg3:=bg3.ik hw5 ng3;have h5:Hid (World.ownsMap u5 prog 9 RH w.heap.size 5 (DataW.put (DataW.put (DataW.put (DataW.put (DataW.put (.map []:DataW Value) (.string [100,101,110,115,101]) (.held (.agg #[.int .i64 2,.func (.func 123) #[] #[.pointer (some ⟨g1,0,none⟩)]]))) (.string [114,97,109,112]) (.held (.agg #[.int .i64 0,.func (.func 123) #[] #[.pointer (some ⟨g2,0,none⟩)]]))) (.string [109,105,120]) (.held (.agg #[.int .i64 3,.func (.func 123) #[] #[.pointer (some ⟨g3,0,none⟩)]]))) (.string [114,117,110]) (.held (.agg #[.int .i64 1,.func (.func 78) #[] #[]]))) (.string [110,101,101,100,115]) (.held (.agg #[.int .i64 1,.func (.func 79) #[] #[]])))):=hq5;clear hq5 hw5 hm4;go_wp2
 go_ret
 have hd:(DataW.put (DataW.put (DataW.put (DataW.put (DataW.put (.map []:DataW Value) (.string [100,101,110,115,101]) (.held (.agg #[.int .i64 2,.func (.func 123) #[] #[.pointer (some ⟨g1,0,none⟩)]]))) (.string [114,97,109,112]) (.held (.agg #[.int .i64 0,.func (.func 123) #[] #[.pointer (some ⟨g2,0,none⟩)]]))) (.string [109,105,120]) (.held (.agg #[.int .i64 3,.func (.func 123) #[] #[.pointer (some ⟨g3,0,none⟩)]]))) (.string [114,117,110]) (.held (.agg #[.int .i64 1,.func (.func 78) #[] #[]]))) (.string [110,101,101,100,115]) (.held (.agg #[.int .i64 1,.func (.func 79) #[] #[]])))=qZ g1 g2 g3:=by kernel_rfl
 exact⟨w.heap.size,g1,g2,g3,rfl,hd ▸ h5.out,bg1,bg2,bg3,⟨gg1,gg2,gg3⟩,O.out⟩
end
abbrev Res:=(List SL×Int)×List UInt8
def fa:List UInt8:=[119,104,97,116]
def tNo:List UInt8:=[110,111]
def ei (n:List UInt8):Option (Nat×(List Mx->List SL->Int->Option Res)) :=
 if n=[100,101,110,115,101] then some (2,fun ms=>dI 1 ms)
 else if n=[114,97,109,112] then some (0,fun ms=>dI 2 ms)
 else if n=[109,105,120] then some (3,fun ms=>dI 3 ms)
 else if n=[114,117,110] then some (1,fun ms=>ic (ms.getD 0 Mx.z))
 else if n=[110,101,101,100,115] then some (1,fun ms=>eu (ms.getD 0 Mx.z))
 else none
def RdM (k:Nat) (t:List UInt8) (ms:List Mx):Prop:=ms.length=k/\(0<k->RdA (dm t) ms)
theorem RdM.one {k:Nat} {t:List UInt8} {a b:List Mx} (h:RdM k t a) (g:RdM k t b):a=b:=by
 rcases Nat.eq_zero_or_pos k with h0|h0
 ·have h1:=h.1;have h2:=g.1;rw[h0] at h1 h2;rw[List.eq_nil_of_length_eq_zero h1,List.eq_nil_of_length_eq_zero h2]
 ·exact(h.2 h0).one (g.2 h0)
def uV (k:Nat) (c:List UInt8×List UInt8×Bool):Prop:=(k=0/\c.2.2=true)\/(0<k/\c.2.1=[])
def LnR (net:List SL) (s:Int) (l:List UInt8) (r:Res):Prop :=
 match ei (Lib.cut l [32]).1 with
 | none=>r=((net,s),fa)
 | some (k,f)=>(uV k (Lib.cut l [32])/\r=((net,s),fa))\/(¬uV k (Lib.cut l [32]) /\
   ((∃ ms,RdM k (Lib.cut l [32]).2.1 ms/\r=(f ms net s).getD ((net,s),tNo))\/((∀ ms,¬RdM k (Lib.cut l [32]).2.1 ms)/\r=((net,s),tNo))))
theorem LnR.one {net:List SL} {s:Int} {l:List UInt8} {a b:Res} (h:LnR net s l a) (g:LnR net s l b):a=b:=by
 unfold LnR at h g
 cases e:ei (Lib.cut l [32]).1 with
 | none=>rw[e] at h g;rw[h,g]
 | some p =>
  rw[e] at h g;obtain⟨k,f⟩:=p
  dsimp only at h g
  rcases h with⟨h1,rfl⟩|⟨h1,h2⟩
  ·rcases g with⟨_,rfl⟩|⟨g1,_⟩
   ·rfl
   ·exact absurd h1 g1
  ·rcases g with⟨g1,_⟩|⟨_,g2⟩
   ·exact absurd g1 h1
   ·rcases h2 with⟨m1,hm1,rfl⟩|⟨h3,rfl⟩
    ·rcases g2 with⟨m2,hm2,rfl⟩|⟨g3,_⟩
     ·rw[hm1.one hm2]
     ·exact absurd hm1 (g3 _)
    ·rcases g2 with⟨m2,hm2,_⟩|⟨_,rfl⟩
     ·exact absurd hm2 (h3 _)
     ·rfl
def jO (net:List SL) (s:Int):Prop:=bu net=true/\sdB s=true
theorem wg {m:Mx} {s:Int} (hm:mvB m=true) (hs:sdB s=true):aq (cH m s).1=m:=by
 rw[lS hm hs];have hl:=nO hm s;obtain⟨l1,h1,h2,h3⟩:=cZ hm;have hok:=(jg hm hs).1;rw[lS hm hs] at hok
 show aE aJ (cT m.r m.c s) (aE bC m (cT m.r m.c s))=m
 rw[fi hok,fi hl];have hlen:nm m.r m.c=m.v.length:=by unfold nm;rw[<-l1];rfl
 have hrl:(cT m.r m.c s).v.length=m.v.length:=by unfold cT;rw[aD,hlen]
 rw[hrl];have hv:fl (pv aJ (cT m.r m.c s) ⟨m.r,m.c,fl (pv bC m (cT m.r m.c s)) m.v.length⟩) m.v.length=m.v:=by
  apply List.ext_getElem?
  intro i
  by_cases hi:i<m.v.length
  ·have hv:=kH hm i;have hr:=kH (bU h1 h2 (s:=s)) i;obtain⟨a1,a2⟩:=of_decide_eq_true hv;obtain⟨b1,b2⟩:=of_decide_eq_true hr;have e1:(fl (pv bC m (cT m.r m.c s)) m.v.length).getD i 0=bC (m.v.getD i 0) ((cT m.r m.c s).v.getD i 0):=by rw[fL _ _ _ hi];rfl
   have e2:(fl (pv aJ (cT m.r m.c s) ⟨m.r,m.c,fl (pv bC m (cT m.r m.c s)) m.v.length⟩) m.v.length)[i]?=some (aJ ((cT m.r m.c s).v.getD i 0) ((fl (pv bC m (cT m.r m.c s)) m.v.length).getD i 0)):=by
    unfold fl;rw[List.getElem?_map,List.getElem?_range hi]
    rfl
   rw[e2,e1,List.getElem?_eq_getElem hi];have e3:m.v.getD i 0=m.v[i]:=by rw[List.getD_eq_getElem?_getD,List.getElem?_eq_getElem hi];rfl
   rw[e3] at a1 a2 ⊢
   congr 1
   have hs1:bC m.v[i] ((cT m.r m.c s).v.getD i 0)=(m.v[i]-(cT m.r m.c s).v.getD i 0)%4096:=by unfold bC;rw[if_pos ⟨by rw[<-e3];exact hv,hr⟩]
   rw[hs1];unfold aJ;rw[if_pos ⟨hr,sl _⟩]
   omega
  ·rw[List.getElem?_eq_none (by rw[aD];omega),List.getElem?_eq_none (by omega)]
 rw[hv]
 rfl
theorem pr:∀ {ms:List Mx} {s:Int},sdB s=true->(∀ m,m∈ms->mvB m=true)->((aP ms s).1).map aq=ms
 | [],_,_,_=>rfl
 | m::ms,s,hs,h=>by
  have hm:=h m (List.mem_cons_self ..)
  show aq (cH m s).1::((aP ms (cH m s).2).1).map aq=_
  rw[wg hm hs,pr (jg hm hs).2.2.2 (fun x hx=>h x (List.mem_cons_of_mem _ hx))]
theorem qs {kd:Int} {ms:List Mx} {net:List SL} {s:Int} (h:jO net s) {r:Res} (e:dI kd ms net s=some r):jO r.1.1 r.1.2:=by
 unfold dI at e
 split at e
 ·rename_i hc
  injection e with e;subst e;have hmv:=lD hc.1;refine⟨?_,fE h.2 hmv⟩;obtain⟨n1,n2⟩:=du h.1;unfold bu;simp only[Bool.and_eq_true,decide_eq_true_eq,List.all_eq_true];refine⟨by simp;omega,fun l hl=>?_⟩
  rcases List.mem_append.1 hl with hl|hl
  ·exact n2 l hl
  ·simp at hl
   subst hl
   dsimp only
   rw[pr h.2 hmv]
   exact hc.1
 ·cases e
theorem yh {m:Mx} (hm:mvB m=true) {net:List SL} {s:Int} (h:jO net s) {r:Res} (e:ic m net s=some r):jO r.1.1 r.1.2:=by
 unfold ic at e
 split at e
 ·rename_i hc
  injection e with e;subst e
  exact⟨h.1,(tm h.1 hm h.2 hc).2⟩
 ·cases e
theorem wG {m:Mx} {net:List SL} {s:Int} (h:jO net s) {r:Res} (e:eu m net s=some r):jO r.1.1 r.1.2:=by
 unfold eu at e
 split at e
 ·injection e with e;subst e
  exact h
 ·cases e
theorem z7 {n:List UInt8} {k:Nat} {f:List Mx->List SL->Int->Option Res} (hc:ei n=some (k,f)) {ms:List Mx} (hk:ms.length=k) (hmv:∀ m,m∈ms->mvB m=true) {net:List SL} {s:Int} (h:jO net s) {r:Res} (e:f ms net s=some r):jO r.1.1 r.1.2:=by
 unfold ei at hc;have h1:k=1->mvB (ms.getD 0 Mx.z)=true:=fun hk1=>by
  rw[hk1] at hk;obtain⟨a,rfl⟩:=List.length_eq_one_iff.1 hk
  exact hmv _ (by simp)
 split at hc
 ·injection hc with hc;injection hc with h2 h3;subst h3;exact qs h e
 split at hc
 ·injection hc with hc;injection hc with h2 h3;subst h3;exact qs h e
 split at hc
 ·injection hc with hc;injection hc with h2 h3;subst h3;exact qs h e
 split at hc
 ·injection hc with hc;injection hc with h2 h3;subst h3;exact yh (h1 h2.symm) h e
 split at hc
 ·injection hc with hc;injection hc with h2 h3;subst h3;exact wG h e
 ·cases hc
theorem RdM.mv {k:Nat} {t:List UInt8} {ms:List Mx} (h:RdM k t ms):∀ m,m∈ms->mvB m=true:=by
 rcases Nat.eq_zero_or_pos k with h0|h0
 ·have h1:=h.1;rw[h0] at h1;rw[List.eq_nil_of_length_eq_zero h1];intro m hm;cases hm
 ·exact(h.2 h0).mv
theorem LnR.ok {net:List SL} {s:Int} {l:List UInt8} {r:Res} (h:LnR net s l r) (hs:jO net s):jO r.1.1 r.1.2:=by
 unfold LnR at h
 cases e:ei (Lib.cut l [32]).1 with
 | none=>rw[e] at h;dsimp only at h;rw[h];exact hs
 | some p =>
  rw[e] at h;obtain⟨k,f⟩:=p
  dsimp only at h
  rcases h with⟨_,rfl⟩|⟨_,⟨ms,h2,rfl⟩|⟨_,rfl⟩⟩
  ·exact hs
  ·cases e2:f ms net s with
   | none=>exact hs
   | some r=>exact z7 e h2.1 h2.mv hs e2
  ·exact hs
section
attribute [local go_sem] af ah ae
open Go.Maps
theorem Ac {l:List UInt8} (h:(Lib.cut l [32]).2.2=false):(Lib.cut l [32]).2.1=[]:=by
 unfold Lib.cut at h ⊢
 split at h
 ·cases h
 ·rename_i hh;rw[if_neg hh]
theorem tR (l:List UInt8):(Lib.cut l [32]).2.1.length<=l.length:=by
 unfold Lib.cut
 split
 ·simp
 ·simp
def RdK (t:List UInt8) (k:Nat) (w:World) (e:Ending) (w':World):Prop :=
 (∃ ms A c F,RdM k t ms/\e= .returned (.tuple #[.slice A k c,.bool true])/\RI mxE w' A k c ms F/\Fr w' w.heap.size F/\Below w.heap.size w w') \/
 ((∀ ms,¬RdM k t ms)/\e= .returned (.tuple #[.slice none 0 0,.bool false])/\Below w.heap.size w w')
theorem t_ (t:List UInt8) (hl:t.length<=1048576) (k:Nat) (h3:k<=3) (h0:k=0->t=[]) (w:World) (ht:Tab w) (hm:iD w):Calls prog 37 #[.string (bs t),.int .i64 (k:Int)] w (RdK t k w):=by
 rcases Nat.eq_zero_or_pos k with hk|hk
 ·obtain rfl:=hk;obtain rfl:=h0 rfl;refine(mE w).mono ?_;rintro e w' ⟨rfl,hb⟩
  exact .inl ⟨[],none,0,[],⟨rfl,fun h=>absurd h (by omega)⟩,rfl,RI.nil w' none (by unfold maxLen;omega),Fr.nil _ _,hb⟩
 ·refine(nF t hl k hk h3 w ht hm).mono ?_;rintro e w' (⟨ms,A,c,F,h1,h2,h3,h4,h6,h5⟩|⟨h1,h2,h3⟩)
  ·exact .inl ⟨ms,A,c,F,⟨h2,fun _=>h1⟩,h3,h4,h6,h5⟩
  ·exact .inr ⟨fun ms h=>h1 ms (h.2 hk) h.1,h2,h3⟩
def tH (K:World->Prop) (fid:FuncId) (caps:Array Value) (k:Nat) (f:List Mx->List SL->Int->Option Res):Prop :=
 (∀ (W:World) (args:Array Value),(callFunc fid args).run prog W= .ok (.enter fid args) W) /\
 ∀ (W:World) (net:List SL) (s:Int) (ms:List Mx) (base n c c2:Nat) (A B:Option Addr) (css:List (List Value)) (F FM:List Nat),K W->jO net s->(∀ m,m∈ms->mvB m=true)->ms.length=k->base<=W.heap.size->n=net.length ->
  OX (kE smE) W base 99 A n c css net F->RI mxE W B k c2 ms FM->Tab W->Calls prog fid (#[.agg #[.slice A n c,.int .i64 s],.slice B k c2]++caps) W (qY base A F (f ms net s) W)
theorem pN {K:World->Prop} {kd:Int} {g k:Nat} (hb:∀ W,K W->Blk W g 3 #[.int .i64 kd]) (h3:k<=3):tH K 123 #[.pointer (some ⟨g,0,none⟩)] k (fun ms=>dI kd ms):=by
 refine⟨fun _ _=>by kernel_rfl,fun W net s ms base n c c2 A B css F FM hW hs hmv hk hbw hn hox hms _=>?_⟩
 cases hl:aL kd ms
 ·exact nE hl hs.2 W hbw hn hk hox hms hmv h3 (hb W hW)
 ·by_cases h4:net.length<4
  ·exact oT hl h4 hs.2 W hbw hn hk hox hms hmv h3 (hb W hW)
  ·exact mC hl (by omega) hs.2 W hbw hn hk hox hms hmv h3 (hb W hW)
theorem xC (K:World->Prop):tH K 78 #[] 1 (fun ms=>ic (ms.getD 0 Mx.z)):=by
 refine⟨fun _ _=>by kernel_rfl,fun W net s ms base n c c2 A B css F FM hW hs hmv hk hbw hn hox hms ht=>?_⟩
 obtain⟨m,rfl⟩:=List.length_eq_one_iff.1 hk;have hm:=hmv m (List.mem_cons_self ..)
 cases hf:(bE (bh net) (some (m.r,m.c))).isSome
 ·exact mF hs.1 hm hs.2 hf W hbw hn hox hms
 ·exact nG hs.1 hm hs.2 hf W ht hbw hn hox hms
theorem uF (K:World->Prop):tH K 79 #[] 1 (fun ms=>eu (ms.getD 0 Mx.z)):=by
 refine⟨fun _ _=>by kernel_rfl,fun W net s ms base n c c2 A B css F FM hW hs hmv hk hbw hn hox hms ht=>?_⟩
 obtain⟨m,rfl⟩:=List.length_eq_one_iff.1 hk;have hm:=hmv m (List.mem_cons_self ..)
 cases hf:(bE (bh net) (some (m.r,m.c))).isSome
 ·exact sY hs.1 hm hf W hbw hn hox hms
 ·exact uP hs.1 hm hf W ht hbw hn hox hms
theorem vJ {n:List UInt8} (h:ei n=none) (g1 g2 g3:Nat) (z:DataW Value):Maps.has (qZ g1 g2 g3) (.string n)=false/\(qZ g1 g2 g3).atKey (.string n) z=z:=by
 unfold ei at h
 split at h
 ·cases h
 split at h
 ·cases h
 split at h
 ·cases h
 split at h
 ·cases h
 split at h
 ·cases h
 rename_i h1 h2 h3 h4 h5
 have e1:(([100,101,110,115,101]:List UInt8) == n)=false:=by simpa using Ne.symm h1
 have e2:(([114,97,109,112]:List UInt8) == n)=false:=by simpa using Ne.symm h2
 have e3:(([109,105,120]:List UInt8) == n)=false:=by simpa using Ne.symm h3
 have e4:(([114,117,110]:List UInt8) == n)=false:=by simpa using Ne.symm h4
 have e5:(([110,101,101,100,115]:List UInt8) == n)=false:=by simpa using Ne.symm h5
 constructor
 ·simp only[Maps.has,qZ,List.any,Lit.sameKey,e1,e2,e3,e4,e5,Bool.or_self,Bool.or_false]
 ·simp only[DataW.atKey,qZ,List.find?,Lit.sameKey,e1,e2,e3,e4,e5]
theorem vK {n:List UInt8} {k:Nat} {f:List Mx->List SL->Int->Option Res} (h:ei n=some (k,f)) {K:World->Prop} {g1 g2 g3:Nat} (b1:∀ W,K W->Blk W g1 3 #[.int .i64 1]) (b2:∀ W,K W->Blk W g2 3 #[.int .i64 2]) (b3:∀ W,K W->Blk W g3 3 #[.int .i64 3]) (z:DataW Value) :
  Maps.has (qZ g1 g2 g3) (.string n)=true/\∃ fid caps,(qZ g1 g2 g3).atKey (.string n) z= .held (.agg #[.int .i64 (k:Int),.func (.func fid) #[] caps])/\tH K fid caps k f/\k<=3:=by
 unfold ei at h
 split at h
 ·rename_i e;subst e;injection h with h;injection h with h1 h2;subst h1;subst h2
  exact⟨rfl,_,_,rfl,pN b1 (by omega),by omega⟩
 split at h
 ·rename_i e;subst e;injection h with h;injection h with h1 h2;subst h1;subst h2
  exact⟨rfl,_,_,rfl,pN b2 (by omega),by omega⟩
 split at h
 ·rename_i e;subst e;injection h with h;injection h with h1 h2;subst h1;subst h2
  exact⟨rfl,_,_,rfl,pN b3 (by omega),by omega⟩
 split at h
 ·rename_i e;subst e;injection h with h;injection h with h1 h2;subst h1;subst h2
  exact⟨rfl,_,_,rfl,xC K,by omega⟩
 split at h
 ·rename_i e;subst e;injection h with h;injection h with h1 h2;subst h1;subst h2
  exact⟨rfl,_,_,rfl,uF K,by omega⟩
 ·cases h
end
section
attribute [local go_sem] af ah ae
open Go.Maps
def LnP (net:List SL) (s:Int) (l:List UInt8) (w:World) (e:Ending) (w':World):Prop:=∃ (r:Res) (A:Option Addr) (c:Nat) (css:List (List Value)) (F:List Nat),LnR net s l r/\e= .returned (.tuple #[.agg #[.slice A r.1.1.length c,.int .i64 r.1.2],.string (bs r.2)])/\OX (kE smE) w' w.heap.size 99 A r.1.1.length c css r.1.1 F/\Below w.heap.size w w'
theorem OX.neS {α:Type} {E:Elt α} {w:World} {base n c:Nat} {T:TypeId} {A:Option Addr} {css:List (List Value)} {xs:List α} {F:List Nat} (h:OX E w base T A n c css xs F) (cs:Array Value) (hT:T≠25:=by decide):∀ i,(blk A=some i\/i∈F)->w.heap[i]?≠some (.cells cs 25):=fun i hi e=>nvX hT w h i hi cs e
theorem Hq.nbs {α:Type} {E:Elt α} {w0 w:World} {L:List Ow} {b n k h0:Nat} {T t':TypeId} {A:Option Addr} {css:List (List Value)} {xs:List α} {F:List Nat} {ds:List Value} (H:Hq w0 (qX E b T A n k css xs F::L) w) (m:Has L (qB h0 t' ds)):¬(blk A=some h0\/h0∈F):=fun e=>H.S.2.1 h0 e _ m.mem rfl
theorem UpL.kz {G:Nat->Prop} {w w':World} {b:Nat} {Z:Obj} (U:UpL G w w') (h:∀ i,G i->w.heap[i]?≠some Z):KB b Z w w':=⟨U.size,fun i _ hl e=>(U.block i hl fun hg=>h i hg e).trans e⟩
theorem vM (l:List UInt8):(Lib.cut l [32]).1.length<=l.length:=by
 unfold Lib.cut
 split
 ·simp;omega
 ·simp
theorem mz {net:List SL} {s:Int} (h:jO net s) {l:List UInt8} (hl:l.length<=1048576) {A:Option Addr} {cap:Nat} {F:List Nat} (w:World) (ht:Tab w) (hm:iD w) (hx:RI (kE smE) w A net.length cap net F) :
  Calls prog 9 #[.agg #[.slice A net.length cap,.int .i64 s],.string (bs l)] w (LnP net s l w):=by
 obtain⟨nm,hc1⟩:∃ x,x=(Lib.cut l [32]).1:=⟨_,rfl⟩;obtain⟨tx,hc2⟩:∃ x,x=(Lib.cut l [32]).2.1:=⟨_,rfl⟩;obtain⟨sp,hc3⟩:∃ x,x=(Lib.cut l [32]).2.2:=⟨_,rfl⟩;have hnl:(bs nm).size<=maxLen:=by rw[aK,hc1];have:=vM l;unfold maxLen;omega
 have HC1:Hid ((Lib.cut l [32]).1=nm):=hc1.symm;have HC2:Hid ((Lib.cut l [32]).2.1=tx):=hc2.symm;have HC3:Hid ((Lib.cut l [32]).2.2=sp):=hc3.symm;have HSV:Hid (svB (net,s)=true):=by unfold Hid svB;rw[h.1,h.2];rfl
 have HSS:Hid (svS (net,s)):=mg h.1;have HNL:=Qh hnl;have HS:=Qh h;have HL:=Qh hl;have HT:=Qh ht;have HM:=Qh hm;have HX:=Qh hx;clear hc1 hc2 hc3 h hl ht hm hx hnl;refine zE ?_;intro u1 H;refine zG (iM u1 [.slice A net.length cap,.int .i64 s] (net,s) F ⟨A,cap,rfl,HX.out.below H.O⟩ HSS.out) ?_;rintro e w2 ⟨rfl,hb⟩;replace H:=H.b hb;rw[HSV.out];clear hb;refine zN ?_;clear H;intro u3 H;refine zG (yY l [32] u3 HL.out (HM.out.below H.O Ql)) ?_;rintro e w4 ⟨rfl,hb⟩;replace H:=H.b hb;rw[HC1.out,HC2.out,HC3.out];clear hb;refine zN ?_;clear H;intro u5 H;refine zG (Gc u5) ?_;rintro e w9 ⟨gm,g1,g2',g3,rfl,hmap,b1,b2,b3,hgg,hb⟩;have hob:=H.m;replace H:=H.add hb ((qB g1 3 [.int .i64 1]).and ((qB g2' 3 [.int .i64 2]).and (qB g3 3 [.int .i64 3]))) ⟨b1,b2,b3⟩ (fun i hi=>by rcases hi with h|h|h <;> (have h:i=_:=h;omega))
 clear hb b1 b2 b3 hgg hob;obtain⟨v,ps,hrun,hv⟩:=hmap.look_ok (t:=66) (string_keyed underlying9) underlying66 (z:= .agg #[.int .i64 0,.nilFunc]) (zd:= .held (.agg #[.int .i64 0,.nilFunc])) (zp:=[]) (by kernel_rfl) rfl (key:= .string (bs nm)) (WideMaps.keyOf_string_mk underlying9 HNL.out)
 have hnm:(bs nm).data.toList=nm:=by simp[bs]
 rw[hnm] at hrun hv;injection hv with hv;injection hv with hv _
 cases hc:ei nm with
 | none =>
  obtain⟨h1,h2⟩:=vJ hc g1 g2' g3 (.held (.agg #[.int .i64 0,.nilFunc]));rw[h1] at hrun;rw[h2] at hv;injection hv with hv;subst hv;have HLN:Hid (LnR net s l ((net,s),fa)):=by unfold Hid LnR;rw[HC1.out,hc]
  clear h1 h2 hc hmap hnm;refine zC ?_;intro C;intros
  go_wp2_with (with_reducible refine gn 64 rfl ?_)
  refine zM ?_;clear H C;intro u10 H;intros;refine Qh ?_;refine zSt ?_;clear H;intro w10 H;refine zN ?_;clear H;intro u11 H;refine zG (bg HS.out.1 u11 (HX.out.below H.O)) ?_;rintro e w12 ⟨AC,cC,cssC,FC,rfl,hox,hb⟩;replace H:=H.ox hb hox;clear hox hb;refine zS_ ?_;clear H;intro u13 H
  exact⟨((net,s),fa),AC,cC,cssC,FC,HLN.out,rfl,(H.x 0),H.O⟩
 | some p =>
  obtain⟨kk,f⟩:=p;obtain⟨h1,fid,caps,h2,hact,hk3⟩:=vK hc (K:=((qB g1 3 [.int .i64 1]).and ((qB g2' 3 [.int .i64 2]).and (qB g3 3 [.int .i64 3]))).P) (fun W h=>h.1) (fun W h=>h.2.1) (fun W h=>h.2.2) (.held (.agg #[.int .i64 0,.nilFunc]))
  rw[h1] at hrun;rw[h2] at hv;injection hv with hv;subst hv;have hfr:=hact.1;have HACT:=Qh hact.2;have HCM:=Qh hc;clear h1 h2 hc hmap hact hnm;rcases Nat.eq_zero_or_pos kk with k0|k0
  ·have e0:((kk:Int) == 0)=true:=by rw[k0];rfl
   have e1:decide (0<(kk:Int))=false:=by rw[k0];rfl
   have e2:¬(0<(kk:Int)):=by omega
   replace e2:(kk:Int)<=0:=by omega
   have HKZ:=Qh k0;clear k0
   cases sp with
   | true =>
    have HLN:Hid (LnR net s l ((net,s),fa)):=by unfold Hid LnR;rw[HC1.out,HCM.out];exact .inl ⟨.inl ⟨HKZ.out,HC3.out⟩,rfl⟩
    refine zC ?_;intro C;intros
    go_wp2_with (with_reducible refine gn 64 rfl ?_)
    refine zM ?_;clear H C;intro u10 H;intros;refine Qh ?_;refine zSt ?_;clear H;intro w10 H;refine zN ?_;clear H;intro u11 H;refine zG (bg HS.out.1 u11 (HX.out.below H.O)) ?_;rintro e w12 ⟨AC,cC,cssC,FC,rfl,hox,hb⟩;replace H:=H.ox hb hox;clear hox hb;refine zS_ ?_;clear H;intro u13 H
    exact⟨((net,s),fa),AC,cC,cssC,FC,HLN.out,rfl,(H.x 0),H.O⟩
   | false =>
    have htx:tx=[]:=by rw[<-HC2.out];exact Ac HC3.out
    have HTL:Hid (tx.length<=1048576):=by unfold Hid;rw[htx];simp
    have HK0:Hid (kk=0->tx=[]):=fun _=>htx
    have HNF:Hid (¬uV kk (Lib.cut l [32])):=by unfold Hid uV;rw[HC3.out];have:=HKZ.out;rintro(⟨_,h⟩|⟨h,_⟩);cases h;omega
    clear htx;refine zC ?_;intro C;intros
    go_wp2_with (with_reducible refine gn 64 rfl ?_)
    refine zM ?_;clear H C;intro u10 H;intros;refine Qh ?_;refine zSt ?_;clear H;intro w10 H;refine zN ?_;clear H;intro u11 H;refine zG (t_ tx HTL.out kk hk3 HK0.out u11 (HT.out.below H.O Ql) (HM.out.below H.O Ql)) ?_;rintro e wR (⟨ms,AM,cM,FM,hrd,rfl,hrm,hrf,hb⟩|⟨hrd,rfl,hb⟩)
    ·replace H:=H.rf hb hrm hrf;have HRD:=Qh hrd;clear hrd hrm hrf hb
     cases hres:f ms net s with
     | none =>
      have HLN:Hid (LnR net s l ((net,s),tNo)):=by unfold Hid LnR;rw[HC1.out,HCM.out];exact .inr ⟨HNF.out,.inl ⟨ms,by rw[HC2.out];exact HRD.out,by rw[hres];rfl⟩⟩
      have HRES:=Qh hres;clear hres;refine zN ?_;clear H;intro u13 H;have E:=H.el;refine zXF (tgF [w9.heap.size,w.heap.size] 10 13 (.cells #[.slice none 0 0,.int .i64 0] 25)) ?_;clear H;intro S w14 hne H;refine zD ((And.intro (H.c 1) (H.c 4))) ?_;intro G;intros;refine f_ (fun w15 (hb:Bw w14 w15)=>bg HS.out.1 w15 (HX.out.below (H.b hb).O)) ?_;clear H
      rintro w15 K hK H e w16 ⟨AC,cC,cssC,FC,rfl,hox,hb⟩;replace H:=H.ox hb hox;clear hox;refine fK ?_;clear hK K hb;intros;refine fU (fun w17 (hb:Bw w16 w17)=>HACT.out w17 net s ms _ _ _ _ _ _ _ _ _ ((H.b hb).p 3) HS.out HRD.out.mv HRD.out.1 (H.b hb).O.size rfl ((H.b hb).x 0) ((H.b hb).f 1).1 (HT.out.below (H.b hb).O Ql)) ?_;clear H
      rintro w17 K hK H e w18 hr;rw[HRES.out] at hr;have hb:=hr.2.kz (b:=u13.heap.size) (Z:= .cells #[.slice none 0 0,.int .i64 0] 25) (OX.neS (H.x 0) _);obtain⟨rfl,hu⟩:=hr;replace H:=Hr.ul H hu (fun i hi=>hi) (by repeat (first|exact all_nil|refine all_cons (Hq.nbs H.H (by repeat (with_reducible first|exact Has.h0|apply Has.t0))) ?_))
      refine fKU ?_;clear hK K hb hu;refine yGv ?_;clear H;intro w19 g19 hg19 H;refine yS ?_;clear H;intro w20 H;refine yN ?_;clear H G;intro u21 H;refine zG (bg HS.out.1 u21 (HX.out.below H.O)) ?_;rintro e w22 ⟨AC,cC,cssC,FC,rfl,hox,hb⟩;replace H:=H.ox hb hox;clear hox hb;refine zS_ ?_;clear H;intro u23 H
      exact⟨((net,s),tNo),AC,cC,cssC,FC,HLN.out,rfl,(H.x 0),H.O⟩
     | some r =>
      have HLN:Hid (LnR net s l r):=by unfold Hid LnR;rw[HC1.out,HCM.out];exact .inr ⟨HNF.out,.inl ⟨ms,by rw[HC2.out];exact HRD.out,by rw[hres];rfl⟩⟩
      have HRES:=Qh hres;clear hres;refine zN ?_;clear H;intro u13 H;have hZ9:=Blk.lt (H.k 1);have hZ8:=Blk.lt (H.k 4);have E:=H.el;refine zXF (tgF [w9.heap.size,w.heap.size] 10 13 (.cells #[.slice none 0 0,.int .i64 0] 25)) ?_;clear H;intro S w14 hne H;refine zD ((And.intro (H.c 1) (H.c 4))) ?_;intro G;intros;refine f_ (fun w15 (hb:Bw w14 w15)=>bg HS.out.1 w15 (HX.out.below (H.b hb).O)) ?_;clear H
      rintro w15 K hK H e w16 ⟨AC,cC,cssC,FC,rfl,hox,hb⟩;replace H:=H.ox hb hox;clear hox;refine fK ?_;clear hK K hb;intros;refine fU (fun w17 (hb:Bw w16 w17)=>HACT.out w17 net s ms _ _ _ _ _ _ _ _ _ ((H.b hb).p 3) HS.out HRD.out.mv HRD.out.1 (H.b hb).O.size rfl ((H.b hb).x 0) ((H.b hb).f 1).1 (HT.out.below (H.b hb).O Ql)) ?_;clear H
      rintro w17 K hK H e w18 hr;rw[HRES.out] at hr;have hb:=hr.2.kz (b:=u13.heap.size) (Z:= .cells #[.slice none 0 0,.int .i64 0] 25) (OX.neS (H.x 0) _);obtain⟨⟨A5,c5,css5,F5,rfl,X5⟩,hu⟩:=hr;replace H:=Hr.ul H hu (fun i hi=>hi) (by repeat (first|exact all_nil|refine all_cons (Hq.nbs H.H (by repeat (with_reducible first|exact Has.h0|apply Has.t0))) ?_))
      refine fKU ?_;clear hK K hb hu;refine yGv ?_;clear H;intro w19 g19 hg19 X5 H;replace H:=H.d 1;replace H:=H.d 1;replace H:=H.d 1;replace H:=H.d 2;replace H:=Hr.adV H X5;clear X5;refine yS ?_;clear H;intro w20 H;refine yN ?_;clear H G;intro u21 H;refine zS_ ?_;clear H;intro u22 H
      exact⟨r,A5,c5,css5,F5,HLN.out,rfl,(H.x 0),H.O⟩
    ·replace H:=H.b hb;have HLN:Hid (LnR net s l ((net,s),tNo)):=by unfold Hid LnR;rw[HC1.out,HCM.out];exact .inr ⟨HNF.out,.inr ⟨by rw[HC2.out];exact hrd,rfl⟩⟩
     clear hrd hb;refine zN ?_;clear H;intro u13 H;refine zG (bg HS.out.1 u13 (HX.out.below H.O)) ?_;rintro e w14 ⟨AC,cC,cssC,FC,rfl,hox,hb⟩;replace H:=H.ox hb hox;clear hox hb;refine zS_ ?_;clear H;intro u15 H
     exact⟨((net,s),tNo),AC,cC,cssC,FC,HLN.out,rfl,(H.x 0),H.O⟩
  ·have e0:((kk:Int) == 0)=false:=by simp;omega
   have e1:decide (0<(kk:Int))=true:=by simp;omega
   have e2:0<(kk:Int):=by omega
   have e3:¬(kk:Int)=0:=by omega
   by_cases htx:tx=[]
   ·have HLN:Hid (LnR net s l ((net,s),fa)):=by unfold Hid LnR;rw[HC1.out,HCM.out];exact .inl ⟨.inr ⟨k0,by rw[HC2.out];exact htx⟩,rfl⟩
    subst htx;have e4:(bs []).toList.isEmpty=true:=by rw[mm];exact(jo _ _).2 rfl
    refine zC ?_;intro C;intros
    go_wp2_with (with_reducible refine gn 64 rfl ?_)
    refine zM ?_;clear H C;intro u10 H;intros;refine Qh ?_;refine zSt ?_;clear H;intro w10 H;refine zN ?_;clear H;intro u11 H;refine zG (bg HS.out.1 u11 (HX.out.below H.O)) ?_;rintro e w12 ⟨AC,cC,cssC,FC,rfl,hox,hb⟩;replace H:=H.ox hb hox;clear hox hb;refine zS_ ?_;clear H;intro u13 H
    exact⟨((net,s),fa),AC,cC,cssC,FC,HLN.out,rfl,(H.x 0),H.O⟩
   ·have htb:(bs tx).toList.isEmpty=false:=by rw[mm];exact iE (fun e=>htx (by have h:=congrArg (fun b:ByteArray=>b.data.toList) e;simpa [bs] using h))
    have HTL:Hid (tx.length<=1048576):=by unfold Hid;rw[<-HC2.out];exact Nat.le_trans (tR l) HL.out
    have HK0:Hid (kk=0->tx=[]):=fun h=>absurd h (by omega)
    have HNF:Hid (¬uV kk (Lib.cut l [32])):=by unfold Hid uV;rw[HC2.out];rintro(⟨h,_⟩|⟨_,h⟩);omega;exact htx h
    refine zC ?_;intro C;intros
    go_wp2_with (with_reducible refine gn 64 rfl ?_)
    refine zM ?_;clear H C;intro u10 H;intros;refine Qh ?_;refine zSt ?_;clear H;intro w10 H;refine zN ?_;clear H;intro u11 H;refine zG (t_ tx HTL.out kk hk3 HK0.out u11 (HT.out.below H.O Ql) (HM.out.below H.O Ql)) ?_;rintro e wR (⟨ms,AM,cM,FM,hrd,rfl,hrm,hrf,hb⟩|⟨hrd,rfl,hb⟩)
    ·replace H:=H.rf hb hrm hrf;have HRD:=Qh hrd;clear hrd hrm hrf hb
     cases hres:f ms net s with
     | none =>
      have HLN:Hid (LnR net s l ((net,s),tNo)):=by unfold Hid LnR;rw[HC1.out,HCM.out];exact .inr ⟨HNF.out,.inl ⟨ms,by rw[HC2.out];exact HRD.out,by rw[hres];rfl⟩⟩
      have HRES:=Qh hres;clear hres;refine zN ?_;clear H;intro u13 H;have E:=H.el;refine zXF (tgF [w9.heap.size,w.heap.size] 10 13 (.cells #[.slice none 0 0,.int .i64 0] 25)) ?_;clear H;intro S w14 hne H;refine zD ((And.intro (H.c 1) (H.c 4))) ?_;intro G;intros;refine f_ (fun w15 (hb:Bw w14 w15)=>bg HS.out.1 w15 (HX.out.below (H.b hb).O)) ?_;clear H
      rintro w15 K hK H e w16 ⟨AC,cC,cssC,FC,rfl,hox,hb⟩;replace H:=H.ox hb hox;clear hox;refine fK ?_;clear hK K hb;intros;refine fU (fun w17 (hb:Bw w16 w17)=>HACT.out w17 net s ms _ _ _ _ _ _ _ _ _ ((H.b hb).p 3) HS.out HRD.out.mv HRD.out.1 (H.b hb).O.size rfl ((H.b hb).x 0) ((H.b hb).f 1).1 (HT.out.below (H.b hb).O Ql)) ?_;clear H
      rintro w17 K hK H e w18 hr;rw[HRES.out] at hr;have hb:=hr.2.kz (b:=u13.heap.size) (Z:= .cells #[.slice none 0 0,.int .i64 0] 25) (OX.neS (H.x 0) _);obtain⟨rfl,hu⟩:=hr;replace H:=Hr.ul H hu (fun i hi=>hi) (by repeat (first|exact all_nil|refine all_cons (Hq.nbs H.H (by repeat (with_reducible first|exact Has.h0|apply Has.t0))) ?_))
      refine fKU ?_;clear hK K hb hu;refine yGv ?_;clear H;intro w19 g19 hg19 H;refine yS ?_;clear H;intro w20 H;refine yN ?_;clear H G;intro u21 H;refine zG (bg HS.out.1 u21 (HX.out.below H.O)) ?_;rintro e w22 ⟨AC,cC,cssC,FC,rfl,hox,hb⟩;replace H:=H.ox hb hox;clear hox hb;refine zS_ ?_;clear H;intro u23 H
      exact⟨((net,s),tNo),AC,cC,cssC,FC,HLN.out,rfl,(H.x 0),H.O⟩
     | some r =>
      have HLN:Hid (LnR net s l r):=by unfold Hid LnR;rw[HC1.out,HCM.out];exact .inr ⟨HNF.out,.inl ⟨ms,by rw[HC2.out];exact HRD.out,by rw[hres];rfl⟩⟩
      have HRES:=Qh hres;clear hres;refine zN ?_;clear H;intro u13 H;have hZ9:=Blk.lt (H.k 1);have hZ8:=Blk.lt (H.k 4);have E:=H.el;refine zXF (tgF [w9.heap.size,w.heap.size] 10 13 (.cells #[.slice none 0 0,.int .i64 0] 25)) ?_;clear H;intro S w14 hne H;refine zD ((And.intro (H.c 1) (H.c 4))) ?_;intro G;intros;refine f_ (fun w15 (hb:Bw w14 w15)=>bg HS.out.1 w15 (HX.out.below (H.b hb).O)) ?_;clear H
      rintro w15 K hK H e w16 ⟨AC,cC,cssC,FC,rfl,hox,hb⟩;replace H:=H.ox hb hox;clear hox;refine fK ?_;clear hK K hb;intros;refine fU (fun w17 (hb:Bw w16 w17)=>HACT.out w17 net s ms _ _ _ _ _ _ _ _ _ ((H.b hb).p 3) HS.out HRD.out.mv HRD.out.1 (H.b hb).O.size rfl ((H.b hb).x 0) ((H.b hb).f 1).1 (HT.out.below (H.b hb).O Ql)) ?_;clear H
      rintro w17 K hK H e w18 hr;rw[HRES.out] at hr;have hb:=hr.2.kz (b:=u13.heap.size) (Z:= .cells #[.slice none 0 0,.int .i64 0] 25) (OX.neS (H.x 0) _);obtain⟨⟨A5,c5,css5,F5,rfl,X5⟩,hu⟩:=hr;replace H:=Hr.ul H hu (fun i hi=>hi) (by repeat (first|exact all_nil|refine all_cons (Hq.nbs H.H (by repeat (with_reducible first|exact Has.h0|apply Has.t0))) ?_))
      refine fKU ?_;clear hK K hb hu;refine yGv ?_;clear H;intro w19 g19 hg19 X5 H;replace H:=H.d 1;replace H:=H.d 1;replace H:=H.d 1;replace H:=H.d 2;replace H:=Hr.adV H X5;clear X5;refine yS ?_;clear H;intro w20 H;refine yN ?_;clear H G;intro u21 H;refine zS_ ?_;clear H;intro u22 H
      exact⟨r,A5,c5,css5,F5,HLN.out,rfl,(H.x 0),H.O⟩
    ·replace H:=H.b hb;have HLN:Hid (LnR net s l ((net,s),tNo)):=by unfold Hid LnR;rw[HC1.out,HCM.out];exact .inr ⟨HNF.out,.inr ⟨by rw[HC2.out];exact hrd,rfl⟩⟩
     clear hrd hb;refine zN ?_;clear H;intro u13 H;refine zG (bg HS.out.1 u13 (HX.out.below H.O)) ?_;rintro e w14 ⟨AC,cC,cssC,FC,rfl,hox,hb⟩;replace H:=H.ox hb hox;clear hox hb;refine zS_ ?_;clear H;intro u15 H
     exact⟨((net,s),tNo),AC,cC,cssC,FC,HLN.out,rfl,(H.x 0),H.O⟩
end
def Wk (l:List UInt8) (k:Nat) (W:List (List UInt8)):Prop:=W≠[]/\(∀ x∈W,(32:UInt8)∉x)/\Lib.join W [32]=l.take k
theorem Wk.start (l:List UInt8):Wk l 0 [[]]:=⟨by simp,by simp,by simp[Lib.join_one]⟩
theorem Wk.space {l:List UInt8} {k:Nat} {W:List (List UInt8)} (h:Wk l k W) (hk:k<l.length) (hc:l[k]=32):Wk l (k+1) (W++[[]]):=by
 obtain⟨h1,h2,h3⟩:=h;refine⟨by simp,fun x hx=>?_,?_⟩
 ·rcases List.mem_append.1 hx with hx|hx
  ·exact h2 x hx
  ·have:x=[]:=by simpa using hx
   rw[this];simp
 ·rw[fo h1,h3,List.take_succ_eq_append_getElem hk,hc,List.append_nil]
theorem Wk.more {l:List UInt8} {k m:Nat} {W:List (List UInt8)} {x:List UInt8} {c:UInt8} (h:Wk l k W) (hk:k<l.length) (hc:l[k]=c) (hne:c≠32) (hm:W.length=m+1) (hx:W.getD m []=x):Wk l (k+1) (W.set m (x++[c])):=by
 obtain⟨h1,h2,h3⟩:=h;obtain⟨I,hI⟩:∃ I,W=I++[x]/\I.length=m:=by
  refine⟨W.take m,?_,by rw[List.length_take];omega⟩
  have:=List.take_succ_eq_append_getElem (l:=W) (i:=m) (by omega)
  rw[List.take_of_length_le (by omega)] at this
  rw[List.getD_eq_getElem?_getD,List.getElem?_eq_getElem (by omega)] at hx
  rw[<-hx]
  exact this
 obtain⟨rfl,hIm⟩:=hI;have e:(I++[x]).set m (x++[c])=I++[x++[c]]:=by
  rw[List.set_append_right _ _ (by omega),hIm,Nat.sub_self]
  rfl
 rw[e];refine⟨by simp,fun y hy=>?_,?_⟩
 ·rcases List.mem_append.1 hy with hy|hy
  ·exact h2 y (List.mem_append_left _ hy)
  ·have:y=x++[c]:=by simpa using hy
   rw[this];intro hm;rcases List.mem_append.1 hm with hm|hm
   ·exact h2 x (by simp) hm
   ·have:(32:UInt8)=c:=by simpa using hm
    exact hne this.symm
 ·rw[List.take_succ_eq_append_getElem hk,hc,<-h3]
  by_cases hI0:I=[]
  ·subst hI0;simp[Lib.join_one]
  ·rw[fo hI0,fo hI0];simp[List.append_assoc]
theorem Wk.fin {l:List UInt8} {W:List (List UInt8)} (h:Wk l l.length W):W=Lib.split l [32]:=by
 obtain⟨h1,h2,h3⟩:=h;rw[List.take_length] at h3;rw[<-h3]
 exact(kV h1 h2).symm
theorem Wk.len {l:List UInt8} {k:Nat} {W:List (List UInt8)} (h:Wk l k W):W.length<=l.length+1/\∀ x∈W,x.length<=l.length:=by
 obtain⟨h1,h2,h3⟩:=h;have e:Lib.split (l.take k) [32]=W:=by rw[<-h3];exact kV h1 h2
 have hk:(l.take k).length<=l.length:=by rw[List.length_take];omega
 refine⟨?_,fun x hx=>?_⟩
 ·have hl:∀ W:List (List UInt8),W≠[]->W.length<=(Lib.join W [32]).length+1:=by
   intro W
   induction W with
   | nil=>intro h;exact absurd rfl h
   | cons x W ih =>
    intro _
    by_cases hW:W=[]
    ·subst hW;simp
    ·rw[hU x hW,List.length_append,List.length_append,List.length_cons];have:=ih hW;simp only[List.length_cons,List.length_nil]
     omega
  have:=hl W h1;rw[h3] at this
  omega
 ·rw[<-e] at hx
  exact Nat.le_trans (bX (by simp) hx) hk
def Wi (l:List UInt8) (w wr:World) (k g m cap:Nat) (W:List (List UInt8)):Prop:=Wk l k W/\W.length=m+1/\VO wr w.heap.size 9 1 (some ⟨g,0,none⟩) (m+1) cap (strs W)/\Below w.heap.size w wr
theorem xl (W:List (List UInt8)) (m:Nat) (x:List UInt8):(strs W).set m (.string (bs x))=strs (W.set m x):=by
 simp[strs,List.map_set]
theorem tp (l:List UInt8) (hl:l.length<=1048577) (w:World):Calls prog 87 #[.string (bs l)] w fun e w'=>(∃ (A:Option Addr) (c:Nat),e= .returned (.slice A (Lib.split l [32]).length c)/\VO w' w.heap.size 9 1 A (Lib.split l [32]).length c (strs (Lib.split l [32])))/\Below w.heap.size w w':=by
 obtain⟨s,hs⟩:∃ s,s=bs l:=⟨_,rfl⟩;rw[<-hs];have hss:s.size=l.length:=by rw[hs,aK]
 have HS:=Qh hs;have HSS:=Qh hss;have HL:=Qh hl;have HZ:Hid (Wi l w (w.alloc (.cells #[.string ⟨#[]⟩] 9)) 0 w.heap.size 0 1 [[]]):=by
  refine⟨Wk.start l,rfl,?_,Qb.alloc Ql _⟩
  exact⟨by simp[strs],.inr ⟨w.heap.size,1,_,rfl,Nat.le_refl _,Blk.new w 9 _,Nat.le_refl _,by unfold maxLen;omega,by simp,rfl⟩⟩
 clear hs hss hl;obtain⟨i0',hi,hz0,hz1,hz2⟩:=info_parts mQ
 go_enter func87,ntmps87
 go_wp2_with fail
 go_loopw [3,4] (fun o q wr=>∃ (k g m cap:Nat) (W:List (List UInt8)),k<=s.size/\q= .int .i64 k/\o= .slice (some ⟨g,0,none⟩) (m+1) cap/\Hid (Wi l w wr k g m cap W)) (fun _ q _=>s.size-(intOf q).toNat)
 case atStart=>exact⟨0,_,0,1,_,Nat.zero_le _,rfl,rfl,HZ⟩
 case round =>
  obtain⟨k,g,m,cap,W,hk,rfl,rfl,hwi⟩:=hrel;obtain⟨wo,rfl⟩:∃ u:World,u=wr:=⟨_,rfl⟩;have hk64:(s.size:Int)<=1048577:=by have:=HSS.out;have:=HL.out;omega
  have k0:(0:Int)<=(k:Int):=by omega
  have hsz:w.heap.size<=wo.heap.size:=hwi.out.2.2.2.size;have hm:m+1<=1048578:=by have h1:=hwi.out.1.len.1;have h2:=hwi.out.2.1;have:=HL.out;omega
  by_cases hlt:k<s.size
  ·obtain⟨hkl,hbk⟩:=jY l HS.out k hlt;have k1:(k:Int)<(s.size:Int):=by omega
   have k2:((k:Int)+1)<=(s.size:Int):=by omega
   obtain⟨c,hc⟩:∃ c,l[k]=c:=⟨_,rfl⟩;have hsc:s[k]=c:=by rw[<-hbk];exact hc
   have HC:=Qh hc;clear hc hbk
   by_cases hsp:c=32
   ·have hcb:((c.toNat:Int) == 32)=true:=by rw[hsp];rfl
    have HNX:=Qh (hwi.out.1.space hkl (by rw[HC.out];exact hsp))
    clear hsp
    go_wp2_with (at_builtin;refine wpList_append_lies _ rfl _ _ 48 rfl w.heap.size 9 i0' (.string ByteArray.empty) 1 16 underlying48 hi hz0 hz1 hz2 rfl (by decide) (.slice (some ⟨g,0,none⟩) (m+1) cap) (m+1) _ rfl (World.ownsRow.alloc hwi.out.2.2.1 _) ⟨wo.heap.size,0,none⟩ 1 1 [.string ⟨#[]⟩] rfl rfl ?c1 ?c2 ?c3 ?c4 ?c5 ?c6 (wo.heap.size+1) ?c7 ?_)
    case c1=>exact fk _ _ _
    case c2=>simp[Value.oneCell']
    case c3=>omega
    case c4=>unfold maxLen;omega
    case c5=>omega
    case c6=>simp;omega
    case c7=>simp
    intro g' cap' w2 hown hgrow hat _;have hNX:Hid (Wi l w w2 (k+1) g' (m+1) cap' (W++[[]])):=by
     obtain⟨k1,k2,_,_⟩:=VO.push hwi.out.2.2.1 hwi.out.2.2.2 Ql hwi.out.2.2.2.size hown hgrow hat;refine⟨HNX.out,by rw[List.length_append,hwi.out.2.1];rfl,?_,k2⟩
     have e:strs (W++[[]])=strs W++[.string ⟨#[]⟩]:=by simp[strs];rfl
     rw[e]
     exact k1
    clear hown hgrow hat HNX hwi;go_wp2
    go_roundw
    case rel=>exact⟨k+1,g',m+1,cap',_,by omega,by go_num,rfl,hNX⟩
    case measure=>simp[intOf];omega
   ·have hcb:((c.toNat:Int) == 32)=false:=by
     rw[beq_eq_false_iff_ne];intro h
     exact hsp (UInt8.toNat_inj.1 (by have e:(32:UInt8).toNat=32:=rfl;omega))
    obtain⟨x,hx⟩:∃ x,W.getD m []=x:=⟨_,rfl⟩;have HNX:=Qh (hwi.out.1.more hkl HC.out hsp hwi.out.2.1 hx);have hxl:x.length<=l.length:=hwi.out.1.len.2 x (by rw[<-hx];exact eS (by rw[hwi.out.2.1];omega))
    have cg:wo.cell? ⟨g,m,none⟩=some (.string (bs x)):=by rw[hwi.out.2.2.1.cell m (by omega),jh (by rw[hwi.out.2.1];omega),hx]
    have fg:wo.frozen? ⟨g,m,none⟩=false:=hwi.out.2.2.1.frozen m;have hex:s.extract k (k+1)=bs [c]:=by
     rw[HS.out];have h:((bs l).extract k (k+1)).data.toList=[c]:=by
      rw[Lib.extract_data]
      show (l.drop k).take (k+1-k)=[c]
      rw[<-HC.out,List.drop_eq_getElem_cons hkl];have e1:k+1-k=1:=by omega
      rw[e1]
      rfl
     rw[<-fe ((bs l).extract k (k+1)),h]
    have hap:bs x++bs [c]=bs (x++[c]):=bN _ _;have hov:(9223372036854775807<(bs x).size+(bs [c]).size)=False:=by
     rw[aK,aK];simp only[List.length_cons,List.length_nil,eq_iff_iff,iff_false];have:=HL.out
     omega
    have m0:(0:Int)<=(m:Int):=by omega
    have m1:(m:Int)<(m:Int)+1:=by omega
    clear hx hxl hsp
    go_wp2_with fail
    go_region
    have hNX:Hid (Wi l w (wo.setCell ⟨g,m,none⟩ (.string (bs (x++[c])))).drew (k+1) g m cap (W.set m (x++[c]))):=by
     refine⟨HNX.out,by rw[List.length_set,hwi.out.2.1],?_,(hwi.out.2.2.2.setCell (hwi.out.2.2.1.aj g rfl).1 _).drew⟩
     rw[<-xl]
     exact VO.drewN (hwi.out.2.2.1.store m (.string (bs (x++[c])))) 1
    clear HNX hwi;go_wp2
    go_roundw
    case rel=>exact⟨k+1,g,m,cap,_,by omega,by go_num,rfl,hNX⟩
    case measure=>simp[intOf];omega
  ·obtain rfl:k=s.size:=by omega
   have hfin:Hid (W=Lib.split l [32]):=by
    have h:=hwi.out.1;rw[HSS.out] at h
    exact h.fin
   have hn:Hid (m+1=(Lib.split l [32]).length):=by show _=_;rw[<-hfin.out,hwi.out.2.1]
   have HV:Hid (VO wo w.heap.size 9 1 (some ⟨g,0,none⟩) (Lib.split l [32]).length cap (strs (Lib.split l [32]))):=by
    have h:=hwi.out.2.2.1;rw[hfin.out,hn.out] at h
    exact h
   have HB:=Qh hwi.out.2.2.2;clear hwi;go_wp2
   go_ret
   exact⟨⟨_,cap,lI (A:=some ⟨g,0,none⟩) hn.out,HV.out⟩,HB.out⟩
theorem m_ (l:List UInt8) (a b:Nat):(bs l).extract a b=bs ((l.drop a).take (b-a)):=by
 have h:((bs l).extract a b).data.toList=(l.drop a).take (b-a):=by
  rw[Lib.extract_data]
  simp[bs]
 rw[<-fe ((bs l).extract a b),h]
theorem xI {l:List UInt8} {k:Nat} (hk:k<l.length) (h:(32:UInt8)∉l.take k) (hc:l[k]=32):Lib.cut l [32]=(l.take k,l.drop (k+1),true):=by
 have e:l.take k++(([32]:List UInt8)++l.drop (k+1))=l:=by
  have h2:=List.drop_eq_getElem_cons hk;rw[hc] at h2
  show l.take k++32::l.drop (k+1)=l
  rw[<-h2,List.take_append_drop]
 have hi:Lib.index l [32]=(k:Int):=by
  have h3:=po (b:=l.drop (k+1)) (sr:=[]) h;rw[e,List.length_take,Nat.min_eq_left (by omega)] at h3
  exact h3
 unfold Lib.cut;rw[hi,if_pos (by omega)]
 rfl
theorem vN {l:List UInt8} (h:(32:UInt8)∉l):Lib.cut l [32]=(l,[],false):=by
 unfold Lib.cut;rw[DM h,if_neg (by omega)]
theorem xo {l:List UInt8} {k:Nat} (hk:k<l.length) (h:(32:UInt8)∉l.take k) (hc:l[k]≠32):(32:UInt8)∉l.take (k+1):=by
 rw[List.take_succ_eq_append_getElem hk];simp only[List.mem_append,List.mem_singleton,not_or]
 exact⟨h,fun e=>hc e.symm⟩
theorem qG (l:List UInt8) (hl:l.length<=1048576) (w:World):Calls prog 40 #[.string (bs l)] w fun e w'=>e= .returned (.tuple #[.string (bs (Lib.cut l [32]).1),.string (bs (Lib.cut l [32]).2.1)])/\Below w.heap.size w w':=by
 obtain⟨s,hs⟩:∃ s,s=bs l:=⟨_,rfl⟩;rw[<-hs];have hss:s.size=l.length:=by rw[hs,aK]
 have HS:=Qh hs;have HSS:=Qh hss;have HL:=Qh hl;have HB:Hid (Below w.heap.size w w):=Below.refl _ _;have H0:Hid ((32:UInt8)∉l.take 0):=by unfold Hid;simp
 clear hs hss hl
 go_enter func40,ntmps40
 go_wp2_with fail
 go_loopw [4] (fun q wr=>∃ k:Nat,k<=s.size/\q= .int .i64 k/\Hid ((32:UInt8)∉l.take k)/\Hid (Below w.heap.size w wr)) (fun q _=>s.size-(intOf q).toNat)
 case atStart=>exact⟨0,Nat.zero_le _,rfl,H0,HB⟩
 case round =>
  clear H0 HB;obtain⟨k,hk,rfl,hno,HB⟩:=hrel;have hk64:(s.size:Int)<=1048577:=by have:=HSS.out;have:=HL.out;omega
  have k0:(0:Int)<=(k:Int):=by omega
  by_cases hlt:k<s.size
  ·obtain⟨hkl,hbk⟩:=jY l HS.out k hlt;have k1:(k:Int)<(s.size:Int):=by omega
   have k2:((k:Int)+1)<=(s.size:Int):=by omega
   obtain⟨c,hc⟩:∃ c,l[k]=c:=⟨_,rfl⟩;have hsc:s[k]=c:=by rw[<-hbk];exact hc
   have HC:=Qh hc;clear hc hbk
   by_cases hsp:c=32
   ·have hcb:((c.toNat:Int) == 32)=true:=by rw[hsp];rfl
    have HCU:=Qh (xI hkl hno.out (by rw[HC.out];exact hsp))
    have h1:s.extract 0 k=bs (l.take k):=by rw[HS.out,m_];simp
    have h2:s.extract (k+1) s.size=bs (l.drop (k+1)):=by rw[HSS.out,HS.out,m_];rw[List.take_of_length_le (by simp)]
    clear hsp
    go_wp2_with fail
    go_region
    go_wp2
    go_ret2
    exact⟨by rw[HCU.out];rfl,HB.out.drew⟩
   ·have hcb:((c.toNat:Int) == 32)=false:=by
     rw[beq_eq_false_iff_ne];intro h
     exact hsp (UInt8.toNat_inj.1 (by have e:(32:UInt8).toNat=32:=rfl;omega))
    have HNX:=Qh (xo hkl hno.out (by rw[HC.out];exact hsp))
    clear hsp;go_wp2
    go_roundw
    case rel=>exact⟨k+1,by omega,by go_num,HNX,HB⟩
    case measure=>simp[intOf];omega
  ·obtain rfl:k=s.size:=by omega
   have HCU:Hid (Lib.cut l [32]=(l,[],false)):=vN (by have h:=hno.out;rwa [HSS.out,List.take_length] at h)
   go_wp2
   go_ret2
   exact⟨by rw[HCU.out,HS.out];rfl,HB.out⟩
def txE:Elt (List UInt8) where
 s:=1
 P:=fun _ cs x F=>cs=[.string (bs x)]/\F=[]
 len:=by rintro w cs x F ⟨rfl,_⟩;rfl
 au:=fun _ _ _ _ _ h _=>h
 lt:=by rintro w cs x F ⟨_,rfl⟩ g hg;cases hg
theorem yJ:ApI 48 9 1:=by obtain⟨i0,hi,hz0,hz1,hz2⟩:=info_parts mQ;exact⟨i0,_,_,underlying48,hi,hz0,hz1,hz2,rfl,by decide,by decide⟩
def zK (l:List UInt8) (w:World) (e:Ending) (w':World):Prop:=∃ A c css F,e= .returned (.slice A (dm l).length c)/\OX txE w' w.heap.size 9 A (dm l).length c css (dm l) F/\Below w.heap.size w w'
theorem nT {l sep:List UInt8} {f i:Nat}:Lib.occAt (l.drop f) sep i=Lib.occAt l sep (f+i):=by unfold Lib.occAt;rw[List.drop_drop]
theorem uY {l:List UInt8} {f k:Nat} (hf:f<=k) (hk:k+3<=l.length) (ho:Lib.occAt l eP k=true) (hno:∀ i,f<=i->i<k->Lib.occAt l eP i=false):Lib.split (l.drop f) eP=(l.drop f).take (k-f)::Lib.split (l.drop (k+3)) eP:=by
 have h:Lib.index (l.drop f) eP=((k-f:Nat):Int):=Lib.index_first (by rw[List.length_drop];omega) (by rw[nT,show f+(k-f)=k by omega];exact ho) (fun j hj=>by rw[nT];exact hno _ (by omega) (by omega))
 rw[lQ (by decide) h,List.drop_drop,show f+(k-f+eP.length)=k+3 from by show f+(k-f+3)=k+3;omega]
theorem uX {l:List UInt8} {f k:Nat} (hk:l.length<k+3) (hno:∀ i,f<=i->i<k->Lib.occAt l eP i=false):Lib.split (l.drop f) eP=[l.drop f]:=by
 rcases Lib.index_spec (l.drop f) eP with⟨h,_⟩|⟨i,_,_,h,_⟩
 ·exact ie h
 ·rw[nT] at h;have h2:=qp h;have h3:=congrArg List.length h2;simp only[List.length_append,List.length_take,List.length_drop] at h3;have h4:eP.length=3:=rfl
  by_cases hi:f+i<k
  ·rw[hno _ (by omega) hi] at h;cases h
  ·omega
theorem AK {l:List UInt8} {k:Nat} (hk:k+3<=l.length):Lib.occAt l eP k=decide ((l.drop k).take 3=eP):=by
 have h:Lib.occAt l eP k=true↔(l.drop k).take 3=eP:=by
  unfold Lib.occAt;rw[List.isPrefixOf_iff_prefix,List.prefix_iff_eq_take]
  exact⟨fun h=>h.symm,fun h=>h.symm⟩
 by_cases e:(l.drop k).take 3=eP
 ·rw[h.2 e,decide_eq_true e]
 ·rw[decide_eq_false e]
  exact Bool.eq_false_iff.2 fun h1=>e (h.1 h1)
theorem qF (l:List UInt8) (hl:l.length<=1048576) (w:World):Calls prog 41 #[.string (bs l)] w (zK l w):=by
 obtain⟨s,hs⟩:∃ s,s=bs l:=⟨_,rfl⟩;rw[<-hs];have hss:s.size=l.length:=by rw[hs,aK]
 have HS:=Qh hs;have HSS:=Qh hss;have HL:=Qh hl;have H0:Hid (dm l=[]++Lib.split (l.drop 0) eP/\∀ i,0<=i->i<0->Lib.occAt l eP i=false):=⟨rfl,fun i _ h=>by omega⟩
 clear hs hss hl
 go_in
 have H:=Hq.start w;go_wp2;refine nqW (Hq.bsX (T:=9) H txE rfl) ?_;clear H;intro u1 H;intros
 go_loopw [3,4,5] (fun vo vf vk wr=>∃ (f k n c:Nat) (A:Option Addr) (css:List (List Value)) (xs:List (List UInt8)) (F:List Nat),f<=k/\k<=s.size/\3*n<=f/\vo= .slice A n c/\vf= .int .i64 f/\vk= .int .i64 k/\Hid (dm l=xs++Lib.split (l.drop f) eP/\∀ i,f<=i->i<k->Lib.occAt l eP i=false)/\Hid (Hq w [qX txE w.heap.size 9 A n c css xs F] wr)) (fun _ _ q _=>s.size-(intOf q).toNat)
 case atStart=>exact⟨0,0,0,0,_,_,_,_,Nat.le_refl _,Nat.zero_le _,by omega,rfl,rfl,rfl,H0,H⟩
 case round =>
  clear H0 H;obtain⟨f,k,n,c,A,css,xs,F,hfk,hk,hn3,rfl,rfl,rfl,hst,H⟩:=hrel;have H:=H.out;have hk64:(s.size:Int)<=1048576:=by have:=HSS.out;have:=HL.out;omega
  have hkN:s.size<=1048576:=by omega
  have k0:(0:Int)<=(k:Int):=by omega
  have f0:(0:Int)<=(f:Int):=by omega
  have f1:(f:Int)<=(k:Int):=by omega
  by_cases hlt:k+3<=s.size
  ·have k1:(k:Int)+3<=(s.size:Int):=by omega
   have k2:(k:Int)<=(k:Int)+3:=by omega
   have k3:(k:Int)<=(s.size:Int):=by omega
   have ho:=AK (l:=l) (k:=k) (by have:=HSS.out;omega)
   have hex:s.extract k (k+3)=bs ((l.drop k).take 3):=by rw[HS.out,m_,show k+3-k=3 by omega]
   by_cases hoc:(l.drop k).take 3=eP
   ·rw[decide_eq_true hoc] at ho;rw[hoc] at hex;have HP:=Qh (uY hfk (by have:=HSS.out;omega) ho hst.out.2)
    have hpc:s.extract f k=bs ((l.drop f).take (k-f)):=by rw[HS.out,m_]
    obtain⟨x,hx⟩:∃ x,x=(l.drop f).take (k-f):=⟨_,rfl⟩;rw[<-hx] at hpc HP;have HST:Hid (dm l=(xs++[x])++Lib.split (l.drop (k+3)) eP/\∀ i,k+3<=i->i<k+3->Lib.occAt l eP i=false):=⟨by rw[hst.out.1,HP.out,List.append_assoc];rfl,fun i _ h=>by omega⟩
    have hcb:((bs eP).toList == [32,124,32])=true:=by rw[ByteArray.toList_eq];rfl
    clear ho hoc hx hst;refine zC ?_;intro C;intros
    go_wp2_with (at_builtin;refine zM ?_)
    clear H C;intro u2 H;replace H:=H.r 1;refine zAx (an4 yJ (show txE.P u2 [.string (bs x)] x [] from⟨rfl,rfl⟩) (Fr.nil u2 w.heap.size) (show ∀ i,i∈([]:List Nat)->(qB wr.heap.size 9 [.string (bs x)]).F i from fun i hi=>by cases hi)) ?_;clear H;intro g1 c1 w2 H
    refine zC ?_;intro C;intros;go_wp2
    go_roundw
    case rel=>exact⟨k+3,k+3,n+1,c1,some ⟨g1,0,none⟩,_,_,_,Nat.le_refl _,by omega,by omega,rfl,by go_num,by go_num,HST,H⟩
    case measure=>simp[intOf];omega
   ·rw[decide_eq_false hoc] at ho;have hcb:((bs ((l.drop k).take 3)).toList == [32,124,32])=false:=by
     rw[ByteArray.toList_eq]
     exact beq_eq_false_iff_ne.2 (fun e=>hoc (by simpa [bs] using e))
    have HST:Hid (dm l=xs++Lib.split (l.drop f) eP/\∀ i,f<=i->i<k+1->Lib.occAt l eP i=false):=⟨hst.out.1,fun i h1 h2=>by
     by_cases e:i=k
     ·rw[e];exact ho
     ·exact hst.out.2 i h1 (by omega)⟩
    clear ho hoc hst;refine zC ?_;intro C;intros;go_wp2
    go_roundw
    case rel=>exact⟨f,k+1,n,c,A,_,_,_,by omega,by omega,hn3,rfl,rfl,by go_num,HST,H⟩
    case measure=>simp[intOf];omega
  ·have k1:¬(k:Int)+3<=(s.size:Int):=by omega
   have k4:(f:Int)<=(s.size:Int):=by omega
   have HP:=Qh (uX (f:=f) (k:=k) (l:=l) (by have:=HSS.out;omega) hst.out.2)
   have hpc:s.extract f s.size=bs (l.drop f):=by rw[HSS.out,HS.out,m_];rw[List.take_of_length_le (by simp)]
   obtain⟨x,hx⟩:∃ x,x=l.drop f:=⟨_,rfl⟩;rw[<-hx] at hpc HP;have HST:Hid (dm l=xs++[x]):=by show _=_;rw[hst.out.1,<-hx,HP.out]
   clear hx hst;refine zC ?_;intro C;intros
   go_wp2_with (at_builtin;refine zM ?_)
   clear H C;intro u2 H;replace H:=H.r 1;refine zAx (an4 yJ (show txE.P u2 [.string (bs x)] x [] from⟨rfl,rfl⟩) (Fr.nil u2 w.heap.size) (show ∀ i,i∈([]:List Nat)->(qB wr.heap.size 9 [.string (bs x)]).F i from fun i hi=>by cases hi)) ?_;clear H;intro g1 c1 w2 H
   have hlen:(dm l).length=n+1:=by rw[HST.out];exact(H.x 0).2.1
   refine zR ?_;clear H;intro u3 H
   exact⟨some ⟨g1,0,none⟩,c1,_,_,by rw[hlen];rfl,by rw[hlen,HST.out];exact H.x 0,H.O⟩
noncomputable def lnF (net:List SL) (s:Int) (l:List UInt8):Res:=open Classical in if h:∃ r,LnR net s l r then Classical.choose h else ((net,s),[])
theorem Dr {net:List SL} {s:Int} {l:List UInt8} {r:Res} (h:LnR net s l r):lnF net s l=r:=by
 unfold lnF;rw[dif_pos ⟨r,h⟩]
 exact(Classical.choose_spec (⟨r,h⟩:∃ r,LnR net s l r)).one h
abbrev Rns:=(List SL×Int)×List (List UInt8)
noncomputable def rnT (q:Rns) (l:List UInt8):Rns:=((lnF q.1.1 q.1.2 l).1,q.2++[(lnF q.1.1 q.1.2 l).2])
noncomputable def rnF (net:List SL) (s:Int) (ls:List (List UInt8)):Rns:=ls.foldl rnT ((net,s),[])
theorem Dn (net:List SL) (s:Int) (ls:List (List UInt8)) (l:List UInt8):rnF net s (ls++[l])=rnT (rnF net s ls) l:=by unfold rnF;rw[List.foldl_append];rfl
theorem Dh {net:List SL} {s:Int} {ls:List (List UInt8)} {k:Nat} {l:List UInt8} {q:Rns} {r:Res} (h:rnF net s (ls.take k)=q) (hl:ls[k]?=some l) (hr:LnR q.1.1 q.1.2 l r):rnF net s (ls.take (k+1))=(r.1,q.2++[r.2]):=by
 rw[aW hl,Dn,h];unfold rnT;rw[Dr hr]
theorem CW (net:List SL) (s:Int) (ls:List (List UInt8)):(rnF net s ls).2.length=ls.length:=by
 have h:∀ (ls:List (List UInt8)) (q:Rns),(ls.foldl rnT q).2.length=q.2.length+ls.length:=by
  intro ls
  induction ls with
  | nil=>intro q;rfl
  | cons l ls ih=>intro q;rw[List.foldl_cons,ih];unfold rnT;simp;omega
 unfold rnF;rw[h]
 simp
theorem Gn (net:List SL) (s:Int) (a b:List (List UInt8)):rnF net s (a++b)=((rnF (rnF net s a).1.1 (rnF net s a).1.2 b).1,(rnF net s a).2++(rnF (rnF net s a).1.1 (rnF net s a).1.2 b).2):=by
 have h:∀ (b:List (List UInt8)) (q:Rns) (p:List (List UInt8)),b.foldl rnT (q.1,p++q.2)=((b.foldl rnT q).1,p++(b.foldl rnT q).2):=by
  intro b
  induction b with
  | nil=>intro q p;rfl
  | cons l b ih =>
   intro q p;rw[List.foldl_cons,List.foldl_cons];have e:rnT (q.1,p++q.2) l=((rnT q l).1,p++(rnT q l).2):=by unfold rnT;simp
   rw[e,ih]
 have h2:=h b ((rnF net s a).1,[]) (rnF net s a).2;rw[List.append_nil] at h2;unfold rnF at h2 ⊢;rw[List.foldl_append]
 exact h2
def RnP (net:List SL) (s:Int) (ls:List (List UInt8)) (w:World) (e:Ending) (w':World):Prop:=∃ (q:Rns) (A:Option Addr) (c:Nat) (css:List (List Value)) (F:List Nat) (B:Option Addr) (d:Nat) (dss:List (List Value)) (G:List Nat),rnF net s ls=q/\jO q.1.1 q.1.2 /\
 e= .returned (.tuple #[.agg #[.slice A q.1.1.length c,.int .i64 q.1.2],.slice B q.2.length d])/\OX (kE smE) w' w.heap.size 99 A q.1.1.length c css q.1.1 F/\OX txE w' w.heap.size 9 B q.2.length d dss q.2 G/\(∀ g,(blk A=some g\/g∈F)->¬(blk B=some g\/g∈G))/\Below w.heap.size w w'
end Go.Proofs.YtjciicheoghcdaaGreatDoor
