/-
  A part of the engine that walks the functions' codes, and of the functions' contracts. Conditions: those that each theorem names.
-/
import Derived.Test.YtjfongdncghjmaaGreatK6
import Derived.IntWalk
import Derived.Laws.IdiomCopy
set_option linter.unusedSimpArgs false
set_option linter.unusedVariables false
set_option linter.unusedSectionVars false
namespace Go.Eng
open Go.RowKit
section ops
variable {P:Program} {inv:Nat->Option Nat} {w0:World} {M:Nat->Prop} {N:Nat} {φ:List (Nat×AV)} {σ:List (Nat×AO)}
def avT (φ:List (Nat×AV)) (σ:List (Nat×AO)) (e:AVal) (K:AV->Prop) (_:Tok K):Prop:=zdN φ σ e K
def pkT (c a b:AV) (K:AV->Prop) (_:Tok K):Prop:=match c with|.b t=>zfK t (K a) (K b)|_=>False
def abT (σ:List (Nat×AO)) (op:BinOp) (ty:ETy) (x y:AV) (K:AV->Prop) (_:Tok K):Prop:=abin σ op ty x y K
def ntT (x:AV) (K:AV->Prop) (_:Tok K):Prop:=match x with|.b t=>K (.b (!t))|_=>False
def cvT (k:IntKind) (x:AV) (K:AV->Prop) (_:Tok K):Prop:=match x with|.i _ n=>K (.i k (k.wrap n))|_=>False
def faT (σ:List (Nat×AO)) (x:AV) (off:Nat) (K:AV->Prop) (_:Tok K):Prop:=match x with
  |.ptr l ver o=>ob (zcd σ l ver) (K (.ptr l ver (o+off)))
  |.ip sz es i k=>K (.ip sz es i (k+off))
  |_=>False
def iaT (σ:List (Nat×AO)) (x i:AV) (sz:Nat) (arr:Option Nat) (K:AV->Prop) (_:Tok K):Prop:=match i with
  |.i _ j=>match x,arr with
   |.sl sz' es,none=>ob (sz'=sz) <| ob (0<=j/\j<es.length) (K (.ip sz es j.toNat 0))
   |.sm l ver off n sz',none=>ob (sz'=sz) <| ob (zcd σ l ver) <| ob (0<=j/\j<n) (K (.ptr l ver (off+j.toNat*sz)))
   |.ptr l ver off,some n=>ob (zcd σ l ver) <| ob (0<=j/\j<n) (K (.ptr l ver (off+j.toNat*sz)))
   |.ip sz' es i' k,some n=>ob (0<=j/\j<n) (K (.ip sz' es i' (k+j.toNat*sz)))
   |_,_=>False
  |_=>False
def flT (x:AV) (off:Nat) (n:Option Nat) (K:AV->Prop) (_:Tok K):Prop:=match x with
  |.agg cs=>match n with
   |none=>zcR cs[off]? K
   |some m=>K (.agg (seg cs off m))
  |_=>False
def ixT (x i:AV) (len sz:Nat) (ag:Bool) (K:AV->Prop) (_:Tok K):Prop:=match x,i with
  |.agg cs,.i _ j=>ob (0<=j/\j<len) (match ag with
   |true=>K (.agg (seg cs (j.toNat*sz) sz))
   |false=>zcR cs[j.toNat*sz]? K)
  |_,_=>False
def lnT (σ:List (Nat×AO)) (x:AV) (K:AV->Prop) (_:Tok K):Prop:=match x with
  |.sl _ es=>K (.i .i64 es.length)
  |.s0 _=>K (.i .i64 0)
  |.sm l ver _ n _=>ob (zcd σ l ver) (K (.i .i64 n))
  |_=>False
def exT (x:AV) (i:Nat) (K:AV->Prop) (_:Tok K):Prop:=match x with
  |.tup vs=>zcR vs[i]? K
  |_=>False
def scT (σ:List (Nat×AO)) (x:AV) (lo hi mx:Option AV) (sz:Nat) (K:AV->Prop) (_:Tok K):Prop:=aslc σ x lo hi mx sz K
def saT (σ:List (Nat×AO)) (x:AV) (lo hi mx:Option AV) (m sz:Nat) (K:AV->Prop) (_:Tok K):Prop:=match x with
  |.ptr l ver off=>ob (zcd σ l ver) <| ob (0<ver/\off+m*sz<=ver) <| scT σ (.sm l ver off m sz) lo hi mx sz K .mk
  |_=>False
def nkT (σ:List (Nat×AO)) (x:AV) (K:AV->Prop) (_:Tok K):Prop:=match x with
  |.ptr l ver off=>ob (zcd σ l ver) (K (.ptr l ver off))
  |.ip sz es i k=>K (.ip sz es i k)
  |.fn j cs=>K (.fn j cs)
  |_=>False
def mnT (mn:Bool) (x y:AV) (K:AV->Prop) (_:Tok K):Prop:=match x,y with
  |.i k a,.i k' b=>ob (k=k') <| K (.i k (if mn=true then (if b<a then b else a) else (if a<b then b else a)))
  |_,_=>False
def eqT (op:BinOp) (t:Bool) (K:AV->Prop) (_:Tok K):Prop:=match op with|.eql=>K (.b t)|.neq=>K (.b (!t))|_=>False
def arT (op:BinOp) (k:IntKind) (a b:Int) (K:AV->Prop) (_:Tok K):Prop:=zpE op k a b K
variable {K:AV->Prop} {tk:Tok K}
theorem av_mov (x:Opd):avT φ σ (.mov x) K tk=K (ev φ x):=rfl
theorem av_pick (c a b:Opd):avT φ σ (.pick c a b) K tk=pkT (ev φ c) (ev φ a) (ev φ b) K .mk:=rfl
theorem av_bin (op:BinOp) (ty:ETy) (x y:Opd):avT φ σ (.bin op ty x y) K tk=abT σ op ty (ev φ x) (ev φ y) K .mk:=rfl
theorem av_not (x:Opd):avT φ σ (.not x) K tk=ntT (ev φ x) K .mk:=rfl
theorem av_conv (k:IntKind) (x:Opd):avT φ σ (.conv k x) K tk=cvT k (ev φ x) K .mk:=rfl
theorem av_load (n:Option Nat) (a:Opd):avT φ σ (.load n a) K tk=zcR (zds σ n (ev φ a)) K:=rfl
theorem av_fadr (a:Opd) (off:Nat):avT φ σ (.fadr a off) K tk=faT σ (ev φ a) off K .mk:=rfl
theorem av_iadr (x i:Opd) (sz:Nat) (arr:Option Nat):avT φ σ (.iadr x i sz arr) K tk=iaT σ (ev φ x) (ev φ i) sz arr K .mk:=rfl
theorem av_idx (x i:Opd) (len sz:Nat) (ag:Bool):avT φ σ (.idx x i len sz ag) K tk=ixT (ev φ x) (ev φ i) len sz ag K .mk:=rfl
theorem av_len (x:Opd):avT φ σ (.len x) K tk=lnT σ (ev φ x) K .mk:=rfl
theorem av_ext (x:Opd) (i:Nat):avT φ σ (.ext x i) K tk=exT (ev φ x) i K .mk:=rfl
theorem av_mkfn (j:Nat) (caps:List Opd):avT φ σ (.mkfn j caps) K tk=K (.fn j (caps.map (ev φ))):=rfl
theorem av_build (zero:List (Nat×AV)) (parts:List (Nat×Nat×Opd)):avT φ σ (.build zero parts) K tk=zcR (zdn φ (zc3 zero) parts) fun cs=>K (.agg cs):=rfl
theorem av_slc (x:Opd) (lo hi mx:Option Opd) (sz:Nat):avT φ σ (.slc x lo hi mx sz) K tk=scT σ (ev φ x) (lo.map (ev φ)) (hi.map (ev φ)) (mx.map (ev φ)) sz K .mk:=rfl
theorem av_slca (x:Opd) (lo hi mx:Option Opd) (m sz:Nat):avT φ σ (.slca x lo hi mx m sz) K tk=saT σ (ev φ x) (lo.map (ev φ)) (hi.map (ev φ)) (mx.map (ev φ)) m sz K .mk:=rfl
theorem av_nilck (x:Opd):avT φ σ (.nilck x) K tk=nkT σ (ev φ x) K .mk:=rfl
theorem av_mnx (mn:Bool) (x y:Opd):avT φ σ (.mnx mn x y) K tk=mnT mn (ev φ x) (ev φ y) K .mk:=rfl
theorem pk_b (t:Bool) (a b:AV):pkT (.b t) a b K tk=zfK t (K a) (K b):=rfl
theorem nt_b (t:Bool):ntT (.b t) K tk=K (.b (!t)):=rfl
theorem cv_i (k k':IntKind) (n:Int):cvT k (.i k' n) K tk=K (.i k (k.wrap n)):=rfl
theorem fa_ptr (l ver o off:Nat):faT σ (.ptr l ver o) off K tk=ob (zcd σ l ver) (K (.ptr l ver (o+off))):=rfl
theorem fa_ip (sz:Nat) (es:List (List AV)) (i k off:Nat):faT σ (.ip sz es i k) off K tk=K (.ip sz es i (k+off)):=rfl
theorem ia_sl (sz':Nat) (es:List (List AV)) (k:IntKind) (j:Int) (sz:Nat):iaT σ (.sl sz' es) (.i k j) sz none K tk=(ob (sz'=sz) <| ob (0<=j/\j<es.length) (K (.ip sz es j.toNat 0))):=rfl
theorem ia_sm (l ver off n sz':Nat) (k:IntKind) (j:Int) (sz:Nat):iaT σ (.sm l ver off n sz') (.i k j) sz none K tk=(ob (sz'=sz) <| ob (zcd σ l ver) <| ob (0<=j/\j<n) (K (.ptr l ver (off+j.toNat*sz)))):=rfl
theorem ia_ptr (l ver off:Nat) (k:IntKind) (j:Int) (sz n:Nat):iaT σ (.ptr l ver off) (.i k j) sz (some n) K tk=(ob (zcd σ l ver) <| ob (0<=j/\j<n) (K (.ptr l ver (off+j.toNat*sz)))):=rfl
theorem ia_ip (sz':Nat) (es:List (List AV)) (i' k':Nat) (k:IntKind) (j:Int) (sz n:Nat):iaT σ (.ip sz' es i' k') (.i k j) sz (some n) K tk=ob (0<=j/\j<n) (K (.ip sz' es i' (k'+j.toNat*sz))):=rfl
theorem ix_t (cs:List AV) (k:IntKind) (j:Int) (len sz:Nat):ixT (.agg cs) (.i k j) len sz true K tk=ob (0<=j/\j<len) (K (.agg (seg cs (j.toNat*sz) sz))):=rfl
theorem ix_f (cs:List AV) (k:IntKind) (j:Int) (len sz:Nat):ixT (.agg cs) (.i k j) len sz false K tk=ob (0<=j/\j<len) (zcR cs[j.toNat*sz]? K):=rfl
theorem ln_sl (sz:Nat) (es:List (List AV)):lnT σ (.sl sz es) K tk=K (.i .i64 es.length):=rfl
theorem ln_s0 (sz:Nat):lnT σ (.s0 sz) K tk=K (.i .i64 0):=rfl
theorem ln_sm (l ver off n sz:Nat):lnT σ (.sm l ver off n sz) K tk=ob (zcd σ l ver) (K (.i .i64 n)):=rfl
theorem ex_t (vs:List AV) (i:Nat):exT (.tup vs) i K tk=zcR vs[i]? K:=rfl
theorem sa_ptr (l ver off:Nat) (lo hi mx:Option AV) (m sz:Nat):saT σ (.ptr l ver off) lo hi mx m sz K tk=(ob (zcd σ l ver) <| ob (0<ver/\off+m*sz<=ver) <| scT σ (.sm l ver off m sz) lo hi mx sz K .mk):=rfl
theorem nk_ptr (l ver off:Nat):nkT σ (.ptr l ver off) K tk=ob (zcd σ l ver) (K (.ptr l ver off)):=rfl
theorem nk_ip (sz:Nat) (es:List (List AV)) (i k:Nat):nkT σ (.ip sz es i k) K tk=K (.ip sz es i k):=rfl
theorem mn_ii (mn:Bool) (k k':IntKind) (a b:Int):mnT mn (.i k a) (.i k' b) K tk=(ob (k=k') <| K (.i k (if mn=true then (if b<a then b else a) else (if a<b then b else a)))):=rfl
theorem eq_eql (t:Bool):eqT .eql t K tk=K (.b t):=rfl
theorem eq_neq (t:Bool):eqT .neq t K tk=K (.b (!t)):=rfl
theorem ar_add (k:IntKind) (a b:Int):arT .add k a b K tk=K (.i k (k.wrap (a+b))):=rfl
theorem ar_sub (k:IntKind) (a b:Int):arT .sub k a b K tk=K (.i k (k.wrap (a-b))):=rfl
theorem ar_rem (k:IntKind) (a b:Int):arT .rem k a b K tk=ob (b≠0) (K (.i k (a.tmod b))):=rfl
theorem ar_eql (k:IntKind) (a b:Int):arT .eql k a b K tk=K (.b (decide (a=b))):=rfl
theorem ar_neq (k:IntKind) (a b:Int):arT .neq k a b K tk=K (.b (!decide (a=b))):=rfl
theorem ar_lss (k:IntKind) (a b:Int):arT .lss k a b K tk=K (.b (decide (a<b))):=rfl
theorem ar_leq (k:IntKind) (a b:Int):arT .leq k a b K tk=K (.b (decide (a<=b))):=rfl
theorem ar_gtr (k:IntKind) (a b:Int):arT .gtr k a b K tk=K (.b (decide (b<a))):=rfl
theorem ar_geq (k:IntKind) (a b:Int):arT .geq k a b K tk=K (.b (decide (b<=a))):=rfl
variable {op:BinOp} {ty:ETy}
theorem ab_ii (k k':IntKind) (a b:Int):abT σ op ty (.i k a) (.i k' b) K tk=match op with
  |.shr=>ob (0<=b) (K (.i k (a.fdiv (2 ^ min b.toNat k.bits))))
  |.shl=>False
  |op=>ob (k=k') (arT op k a b K .mk):=by unfold abT abin;cases op<;>rfl
theorem ab_aa (xs ys:List AV) (ks:List Bool):abT σ op (.flat ks) (.agg xs) (.agg ys) K tk=zcR (eqC ks xs ys) fun t=>eqT op t K .mk:=by unfold abT abin;cases op<;>rfl
theorem ab_pn (l ver o:Nat):abT σ op ty (.ptr l ver o) (.v (.pointer none)) K tk=ob (ty=.ptr) (ob (zcd σ l ver) (eqT op false K .mk)):=by unfold abT abin;cases op<;>rfl
theorem ab_nn:abT σ op .ptr (.v (.pointer none)) (.v (.pointer none)) K tk=eqT op true K .mk:=by unfold abT abin;cases op<;>rfl
variable (sz':Nat) (es:List (List AV)) (sz:Nat) (k k':IntKind) (h lw:Int) (l ver off n:Nat)
theorem sc_01:scT σ (.sl sz' es) none (some (.i k h)) none sz K tk=(ob (sz'=sz) <| ob (0<=h/\h<=es.length) (K (.sl sz (es.take h.toNat)))):=rfl
theorem sc_10:scT σ (.sl sz' es) (some (.i k lw)) none none sz K tk=(ob (sz'=sz) <| ob (0<=lw/\lw<=es.length) (K (.sl sz (es.drop lw.toNat)))):=rfl
theorem sm_00:scT σ (.sm l ver off n sz') none none none sz K tk=(ob (sz'=sz) <| ob (zcd σ l ver) (K (.sm l ver off n sz))):=rfl
theorem sm_01:scT σ (.sm l ver off n sz') none (some (.i k h)) none sz K tk=(ob (sz'=sz) <| ob (zcd σ l ver) <| ob (0<=h/\h<=n) (K (.sm l ver off h.toNat sz))):=rfl
theorem sm_10:scT σ (.sm l ver off n sz') (some (.i k lw)) none none sz K tk=(ob (sz'=sz) <| ob (zcd σ l ver) <| ob (0<=lw/\lw<=n) (K (.sm l ver (off+lw.toNat*sz) (n-lw.toNat) sz))):=rfl
end ops
section znh
variable {P:Program} {inv:Nat->Option Nat} {w0:World} {M:Nat->Prop} {N:Nat} {φ:List (Nat×AV)} {σ:List (Nat×AO)} {K:AF->AS->Prop} {tk:Tok K}
def opT (P:Program) (inv:Nat->Option Nat) (w0:World) (M:Nat->Prop) (N:Nat) (o:AOp) (φ:AF) (σ:AS) (K:AF->AS->Prop) (_:Tok K):Prop:=aop P inv w0 M N o φ σ K
def opD (P:Program) (inv:Nat->Option Nat) (w0:World) (M:Nat->Prop) (N:Nat) (o:AOp) (φ:AF) (σ:AS) (K:AF->AS->Prop) (_:Tok K):Prop:=za4 P inv w0 M N o φ σ K
def gdT (x:AV) (A B C:Prop) (_:Tok A) (_:Tok B) (_:Tok C):Prop:=match x with|.b t=>zfK t A B|.u=>C|_=>False
theorem gd_b (t:Bool) (A B C:Prop) (a:Tok A) (b:Tok B) (c:Tok C):gdT (.b t) A B C a b c=zfK t A B:=rfl
theorem gd_u (A B C:Prop) (a:Tok A) (b:Tok B) (c:Tok C):gdT .u A B C a b c=C:=rfl
theorem wp_nil:zbU P inv w0 M N [] K φ σ=K φ σ:=rfl
theorem wp_o (o:AOp) (r:List GOp):zbU P inv w0 M N ((none,o)::r) K φ σ=opT P inv w0 M N o φ σ (zbU P inv w0 M N r K) .mk:=rfl
theorem wp_t (s:Nat) (o:AOp) (r:List GOp):zbU P inv w0 M N ((some (s,true),o)::r) K φ σ =
 gdT (zbl φ s) (opT P inv w0 M N o (zjC φ s (.b true)) σ (zbU P inv w0 M N r K) .mk) (zbU P inv w0 M N r K (zcu (zjC φ s (.b false)) o.dst .u) σ) (zbU P inv w0 M N r K (zcu φ o.dst .u) σ) .mk .mk .mk:=rfl
theorem wp_f (s:Nat) (o:AOp) (r:List GOp):zbU P inv w0 M N ((some (s,false),o)::r) K φ σ =
 gdT (zbl φ s) (zbU P inv w0 M N r K (zcu (zjC φ s (.b true)) o.dst .u) σ) (opT P inv w0 M N o (zjC φ s (.b false)) σ (zbU P inv w0 M N r K) .mk) (zbU P inv w0 M N r K (zcu φ o.dst .u) σ) .mk .mk .mk:=rfl
theorem wd_nil:zbB P inv w0 M N [] K φ σ=K φ σ:=rfl
theorem wd_o (o:AOp) (r:List GOp):zbB P inv w0 M N ((none,o)::r) K φ σ=opD P inv w0 M N o φ σ (zbB P inv w0 M N r K) .mk:=rfl
theorem wd_t (s:Nat) (o:AOp) (r:List GOp):zbB P inv w0 M N ((some (s,true),o)::r) K φ σ =
 gdT (zbl φ s) (opD P inv w0 M N o (zjC φ s (.b true)) σ (zbB P inv w0 M N r K) .mk) (zbB P inv w0 M N r K (zcu (zjC φ s (.b false)) o.dst .u) σ) (zbB P inv w0 M N r K (zcu φ o.dst .u) σ) .mk .mk .mk:=rfl
theorem wd_f (s:Nat) (o:AOp) (r:List GOp):zbB P inv w0 M N ((some (s,false),o)::r) K φ σ =
 gdT (zbl φ s) (zbB P inv w0 M N r K (zcu (zjC φ s (.b true)) o.dst .u) σ) (opD P inv w0 M N o (zjC φ s (.b false)) σ (zbB P inv w0 M N r K) .mk) (zbB P inv w0 M N r K (zcu φ o.dst .u) σ) .mk .mk .mk:=rfl
def nlT (σ:AS) (x:AV) (neg:Bool) (K:Bool->Prop) (_:Tok K):Prop:=match x with
  |.sl _ es=>zq2 es.length neg K
  |.s0 _=>zq2 0 neg K
  |.sm l ver _ n _=>ob (zcd σ l ver) <| zq2 n neg K
  |_=>False
def clT (o:Option AO) (K:List AV->Bool->Prop) (_:Tok K):Prop:=match o with
  |some (.cells cs r)=>K cs r
  |_=>False
theorem cl_c (cs:List AV) (r:Bool) (K:List AV->Bool->Prop) (tk:Tok K):clT (some (.cells cs r)) K tk=K cs r:=rfl
def stT (σ:AS) (a:AV) (K:Nat->Nat->Nat->List AV->Bool->Prop) (_:Tok K):Prop:=match a with
  |.ptr l ver off=>clT (zah σ l) (K l ver off) .mk
  |_=>False
theorem st_p (l ver off:Nat) (K:Nat->Nat->Nat->List AV->Bool->Prop) (tk:Tok K):stT σ (.ptr l ver off) K tk=clT (zah σ l) (K l ver off) .mk:=rfl
def srT (σ:AS) (sz:Nat) (x:AV) (K:Nat->List AV->Prop) (_:Tok K):Prop:=zmo σ sz x K
theorem sr_l (sz sz':Nat) (es:List (List AV)) (K:Nat->List AV->Prop) (tk:Tok K):srT σ sz (.sl sz' es) K tk=ob (sz'=sz) (K es.length es.flatten):=rfl
def apT (φ:AF) (σ:AS) (l:Nat) (d sz:Nat) (dest:AV) (m:Nat) (new:List AV) (K:AF->AS->Prop) (_:Tok K):Prop:=zml φ σ l d sz dest m new K
theorem ap_0 (l d sz sz' m:Nat) (new:List AV):apT φ σ l d sz (.s0 sz') m new K tk=(ob (m<=2147483648) <| K (zbq φ d (.sm l (m*sz) 0 m sz)) (sput σ l (.cells new (decide (0<m))))):=rfl
theorem ap_m (l' d sz l ver off n sz' m:Nat) (new:List AV):apT φ σ l' d sz (.sm l ver off n sz') m new K tk=(ob (sz'=sz) <| ob (off=0) <| ob (n*sz=ver) <| ob (n+m<=2147483648) <|
  clT (zah σ l) (fun cs r=>ob (cs.length=ver) <| K (zbq φ d (.sm l ((n+m)*sz) 0 (n+m) sz)) (sput σ l (.cells (cs++new) (r||decide (0<m))))) .mk):=rfl
def fnT (f:AV) (K:Nat->List AV->Prop) (_:Tok K):Prop:=match f with|.fn j caps=>K j caps|_=>False
theorem fn_f (j:Nat) (caps:List AV) (K:Nat->List AV->Prop) (tk:Tok K):fnT (.fn j caps) K tk=K j caps:=rfl
def bB (t:Bool) (X Y:Prop) (_:Tok X) (_:Tok Y):Prop:=match t with|true=>X|false=>Y
theorem bB_t (X Y:Prop) (x:Tok X) (y:Tok Y):bB true X Y x y=X:=rfl
theorem bB_f (X Y:Prop) (x:Tok X) (y:Tok Y):bB false X Y x y=Y:=rfl
def rsT (o:Option AO) (X:Prop) (_:Tok X):Prop:=match o with|some .rsv=>X|_=>False
theorem rs_r (X:Prop) (tk:Tok X):rsT (some .rsv) X tk=X:=rfl
theorem op_set (d:Nat) (e:AVal):opT P inv w0 M N (.set d e) φ σ K tk=avT φ σ e (fun x=>K (zbq φ d x) σ) .mk:=rfl
theorem op_alloc (d:Nat) (zero:List (Nat×AV)):opT P inv w0 M N (.alloc d zero) φ σ K tk=K (zbq φ d (.ptr (zaw N φ σ) (zc3 zero).length 0)) (sput σ (zaw N φ σ) (.cells (zc3 zero) true)):=rfl
theorem op_box (d n:Nat) (x:Opd):opT P inv w0 M N (.box d n x) φ σ K tk=(ob ((ev φ x).sound=true) <| ob ((ev φ x).cells.length=n) <| K (zbq φ d (.ptr (zaw N φ σ) n 0)) (sput σ (zaw N φ σ) (.cells (ev φ x).cells true))):=rfl
theorem op_isnil (d:Nat) (neg:Bool) (x:Opd):opT P inv w0 M N (.isnil d neg x) φ σ K tk=nlT σ (ev φ x) neg (fun t=>K (zbq φ d (.b t)) σ) .mk:=by unfold opT aop nlT;rfl
theorem op_mks0 (d sz:Nat):opT P inv w0 M N (.mks0 d sz) φ σ K tk=K (zbq φ d (.s0 sz)) σ:=rfl
theorem op_mksl (d sz len:Nat) (zero:List (Nat×AV)) (parts:List (Nat×Nat×Opd)):opT P inv w0 M N (.mksl d sz len zero parts) φ σ K tk=zcR (zdn φ (List.replicate len (zc3 zero)).flatten parts) fun cs =>
  bB (zaf cs) (K (zbq φ d (.sl sz (zbd sz len cs))) σ) (K (zbq φ d (.sm (zaw N φ σ) (len*sz) 0 len sz)) (sput σ (zaw N φ σ) (.cells cs true))) .mk .mk:=by unfold opT aop bB;rfl
theorem op_store (n:Nat) (a x:Opd):opT P inv w0 M N (.store n a x) φ σ K tk=stT σ (ev φ a) (fun l ver off cs r=>ob (cs.length=ver) <| ob ((ev φ x).sound=true) <| ob ((ev φ x).cells.length=n) <| ob (0<n/\off+n<=ver) <| K φ (sput σ l (.cells (ovl cs off (ev φ x).cells) r))) .mk:=by unfold opT aop stT clT;rfl
theorem op_app (d:Nat) (s x:Opd) (sz:Nat):opT P inv w0 M N (.app d s x sz) φ σ K tk=srT σ sz (ev φ x) (fun m new=>apT φ σ (zaw N φ σ) d sz (ev φ s) m new K .mk) .mk:=rfl
theorem op_call (d:Option Nat) (j:Nat) (args:List Opd):opT P inv w0 M N (.call d j args) φ σ K tk=CallK P inv w0 M N φ σ j (args.map (ev φ)) fun r σ'=>K (zcu φ d r) σ':=rfl
theorem op_calv (d:Option Nat) (f:Opd) (args:List Opd):opT P inv w0 M N (.calv d f args) φ σ K tk=fnT (ev φ f) (fun j caps=>CallK P inv w0 M N φ σ j (args.map (ev φ)++caps) fun r σ'=>K (zcu φ d r) σ') .mk:=by unfold opT aop fnT;rfl
theorem op_callp (d j:Nat) (args:List Opd):opT P inv w0 M N (.callp d j args) φ σ K tk=PureK P inv w0 M σ j (args.map (ev φ)) fun r=>K (zbq φ d r) σ:=rfl
theorem op_gal (d back:Nat) (zero:List (Nat×AV)):opT P inv w0 M N (.gal d back zero) φ σ K tk=rsT (zah σ (N-back)) (ob (0<(zc3 zero).length) <| K (zbq φ d (.ptr (N-back) (zc3 zero).length 0)) (sput σ (N-back) (.cells (zc3 zero) true))) .mk:=by unfold opT aop rsT;rfl
theorem od_call (d:Option Nat) (j:Nat) (args:List Opd):opD P inv w0 M N (.call d j args) φ σ K tk=CallK P inv w0 M N φ σ j (args.map (ev φ)) fun r σ'=>ob (SLe σ σ') (K (zcu φ d r) σ'):=rfl
theorem od_set (d:Nat) (e:AVal):opD P inv w0 M N (.set d e) φ σ K tk=avT φ σ e (fun x=>K (zbq φ d x) σ) .mk:=rfl
theorem od_alloc (d:Nat) (z:List (Nat×AV)):opD P inv w0 M N (.alloc d z) φ σ K tk=opT P inv w0 M N (.alloc d z) φ σ K .mk:=rfl
theorem od_box (d n:Nat) (x:Opd):opD P inv w0 M N (.box d n x) φ σ K tk=opT P inv w0 M N (.box d n x) φ σ K .mk:=rfl
theorem od_mksl (d sz len:Nat) (z:List (Nat×AV)) (parts:List (Nat×Nat×Opd)):opD P inv w0 M N (.mksl d sz len z parts) φ σ K tk=opT P inv w0 M N (.mksl d sz len z parts) φ σ K .mk:=rfl
theorem od_store (n:Nat) (a x:Opd):opD P inv w0 M N (.store n a x) φ σ K tk=opT P inv w0 M N (.store n a x) φ σ K .mk:=rfl
theorem od_callp (d j:Nat) (args:List Opd):opD P inv w0 M N (.callp d j args) φ σ K tk=opT P inv w0 M N (.callp d j args) φ σ K .mk:=rfl
theorem od_gal (d back:Nat) (z:List (Nat×AV)):opD P inv w0 M N (.gal d back z) φ σ K tk=opT P inv w0 M N (.gal d back z) φ σ K .mk:=rfl
theorem op_calle (d:Option Nat) (j:Nat) (args:List Opd):opT P inv w0 M N (.calle d j args) φ σ K tk=CallK P inv w0 M N φ σ j (args.map (ev φ)) fun r σ'=>K (zcu φ d r) σ':=rfl
theorem op_calve (d:Option Nat) (f:Opd) (args:List Opd):opT P inv w0 M N (.calve d f args) φ σ K tk=fnT (ev φ f) (fun j caps=>CallK P inv w0 M N φ σ j (args.map (ev φ)++caps) fun r σ'=>K (zcu φ d r) σ') .mk:=by unfold opT aop fnT;rfl
theorem op_appe (d:Nat) (s x:Opd) (sz:Nat):opT P inv w0 M N (.appe d s x sz) φ σ K tk=srT σ sz (ev φ x) (fun m new=>apT φ σ (zaw N φ σ) d sz (ev φ s) m new K .mk) .mk:=rfl
def stAT (φ:AF) (σ:AS) (pts:List Opd) (a:AV) (K:Nat->Nat->Nat->List AV->Bool->Prop) (_:Tok K):Prop:=match a with
  |.ptr l ver off=>ob (znp φ l pts=true) (clT (zah σ l) (K l ver off) .mk)
  |_=>False
theorem stA_p (pts:List Opd) (l ver off:Nat) (K:Nat->Nat->Nat->List AV->Bool->Prop) (tk:Tok K):stAT φ σ pts (.ptr l ver off) K tk=ob (znp φ l pts=true) (clT (zah σ l) (K l ver off) .mk):=rfl
theorem zqS (n:Nat) (a x:Opd) (pts:List Opd):opT P inv w0 M N (.storeA n a x pts) φ σ K tk=stAT φ σ pts (ev φ a) (fun l ver off cs r=>ob (cs.length=ver) <| ob ((ev φ x).sound=true) <| ob ((ev φ x).cells.length=n) <| ob (0<n/\off+n<=ver) <| K φ (sput σ l (.cells (ovl cs off (ev φ x).cells) r))) .mk:=by unfold opT aop stAT clT;rfl
theorem op_mkmap (d:Nat):opT P inv w0 M N (.mkmap d) φ σ K tk=K (zbq φ d (.mp (zaw N φ σ))) (sput σ (zaw N φ σ) (.imap [])):=rfl
def imT (o:Option AO) (K:List (Int×Int)->Prop) (_:Tok K):Prop:=match o with|some (.imap kvs)=>K kvs|_=>False
theorem im_m (kvs:List (Int×Int)) (K:List (Int×Int)->Prop) (tk:Tok K):imT (some (.imap kvs)) K tk=K kvs:=rfl
def msT (σ:AS) (m k v:AV) (K:Nat->Int->Int->List (Int×Int)->Prop) (_:Tok K):Prop:=match m,k,v with
  |.mp l,.i .i64 a,.i .i64 b=>imT (zah σ l) (K l a b) .mk
  |_,_,_=>False
theorem ms_m (l:Nat) (a b:Int) (K:Nat->Int->Int->List (Int×Int)->Prop) (tk:Tok K):msT σ (.mp l) (.i .i64 a) (.i .i64 b) K tk=imT (zah σ l) (K l a b) .mk:=rfl
theorem zqT (m k v:Opd):opT P inv w0 M N (.mapset m k v) φ σ K tk=msT σ (ev φ m) (ev φ k) (ev φ v) (fun l a b kvs=>K φ (sput σ l (.imap (zmW kvs a b)))) .mk:=by unfold opT aop msT imT;rfl
def azT (s n:AV) (K:Int->Prop) (_:Tok K):Prop:=match s,n with|.s0 _,.i .i64 a=>K a|_,_=>False
theorem az_0 (sz:Nat) (a:Int) (K:Int->Prop) (tk:Tok K):azT (.s0 sz) (.i .i64 a) K tk=K a:=rfl
theorem op_appz (d:Nat) (s n:Opd) (zero:List (Nat×AV)) (sz:Nat):opT P inv w0 M N (.appz d s n zero sz) φ σ K tk=azT (ev φ s) (ev φ n) (fun a=>ob (0<=a/\a<=2147483648) <| K (zbq φ d (.sm (zaw N φ σ) (a.toNat*sz) 0 a.toNat sz)) (sput σ (zaw N φ σ) (.cells (List.replicate a.toNat (zc3 zero)).flatten (decide (0<a.toNat))))) .mk:=by unfold opT aop azT;rfl
theorem od_calle (d:Option Nat) (j:Nat) (args:List Opd):opD P inv w0 M N (.calle d j args) φ σ K tk=opT P inv w0 M N (.calle d j args) φ σ K .mk:=rfl
theorem od_calve (d:Option Nat) (f:Opd) (args:List Opd):opD P inv w0 M N (.calve d f args) φ σ K tk=opT P inv w0 M N (.calve d f args) φ σ K .mk:=rfl
theorem od_appe (d:Nat) (s x:Opd) (sz:Nat):opD P inv w0 M N (.appe d s x sz) φ σ K tk=opT P inv w0 M N (.appe d s x sz) φ σ K .mk:=rfl
theorem zqX (n:Nat) (a x:Opd) (pts:List Opd):opD P inv w0 M N (.storeA n a x pts) φ σ K tk=opT P inv w0 M N (.storeA n a x pts) φ σ K .mk:=rfl
theorem aw_nil (φ:List (Nat×AV)) (l:Nat):znp φ l []=true:=rfl
theorem aw_cons (φ:List (Nat×AV)) (l:Nat) (q:Opd) (r:List Opd):znp φ l (q::r)=(ziZ l (ev φ q)&&znp φ l r):=rfl
theorem aw_ptr (l l' v o:Nat):ziZ l (.ptr l' v o)=!decide (l'=l):=by
 have e:Nat.beq l' l=decide (l'=l):=by
  rw[Bool.eq_iff_iff,Nat.beq_eq,decide_eq_true_eq]
 simp only[ziZ,e]
theorem op_appA (d:Nat) (s x:Opd) (sz:Nat) (pts:List Opd):opT P inv w0 M N (.appA d s x sz pts) φ σ K tk=srT σ sz (ev φ x) (fun m new=>ob (zpB φ (ev φ s) pts=true) (apT φ σ (zaw N φ σ) d sz (ev φ s) m new K .mk)) .mk:=rfl
theorem od_appA (d:Nat) (s x:Opd) (sz:Nat) (pts:List Opd):opD P inv w0 M N (.appA d s x sz pts) φ σ K tk=opT P inv w0 M N (.appA d s x sz pts) φ σ K .mk:=rfl
theorem ad_m (φ:List (Nat×AV)) (l ver off n sz:Nat) (pts:List Opd):zpB φ (.sm l ver off n sz) pts=znp φ l pts:=rfl
attribute [go_sem] aw_nil aw_cons aw_ptr op_appA od_appA ad_m
attribute [go_sem] op_calle op_calve op_appe stA_p zqS op_mkmap im_m ms_m zqT az_0 op_appz od_calle od_calve od_appe zqX
variable {K:Bool->Prop} {tk:Tok K}
theorem nl_l (sz:Nat) (es:List (List AV)) (neg:Bool):nlT σ (.sl sz es) neg K tk=zq2 es.length neg K:=rfl
theorem nilK_pos {n:Nat} {neg:Bool} (h:0<n):zq2 n neg K=K neg:=by unfold zq2;exact propext ⟨fun x=>x.2,fun x=>⟨fun e=>absurd e (by omega),x⟩⟩
theorem zmV {n:Nat} {neg:Bool} (h1:n=0->K (!neg)) (h2:K neg):zq2 n neg K:=⟨h1,h2⟩
end znh
def nth {α:Type} [Inhabited α] (l:List α) (i:Nat):α:=l[i]!
theorem zay {α:Type} [Inhabited α] {l:List α} {i:Nat} (h:i<l.length):nth l i=l[i]:=getElem!_pos l i h
theorem map_get {α:Type} [Inhabited α] {f:α->List AV} {l:List α} {i:Nat} (h:i<l.length):(l.map f)[i]?=some (f (nth l i)):=by simp[h,zay]
theorem zkE {α:Type} [Inhabited α] {f:α->AV} {l:List α} {i:Nat} (h:i<l.length):(l.map f)[i]?=some (f (nth l i)):=by simp[h,zay]
theorem zae {α:Type} [Inhabited α] {l:List α} {i:Nat} (h:i<l.length):l.drop i=nth l i::l.drop (i+1):=by rw[List.drop_eq_getElem_cons h,zay h]
theorem zjZ {α:Type} [Inhabited α] {l:List α} {i:Nat} (h:i<l.length):l.take i++[nth l i]=l.take (i+1):=by rw[zay h];simp
theorem ze1 {α:Type} [Inhabited α] {l:List α} {i k:Nat} (h:i<k):nth (l.take k) i=nth l i:=by simp[nth,List.getElem?_take,h]
theorem zac {α:Type} [Inhabited α] {l:List α} {i:Nat} (h:i<l.length):nth l i∈l:=by rw[zay h];exact List.getElem_mem h
theorem al_n (cs:List AV) (off:Nat):zb2 cs off none=cs[off]?:=rfl
theorem al_s (cs:List AV) (off m:Nat):zb2 cs off (some m)=if 0<m/\off+m<=cs.length then some (.agg (seg cs off m)) else none:=rfl
attribute [go_sem] al_n
attribute [go_sem low] al_s
theorem wI64 {n:Int} (h:-9223372036854775808<=n/\n<=9223372036854775807):IntKind.wrap .i64 n=n:=IntWalk.i64_in n h
theorem wU64 {n:Int} (h:0<=n/\n<=18446744073709551615):IntKind.wrap .u64 n=n:=IntWalk.u64_in n h
theorem shr1 (a:Int):a.fdiv (2 ^ min (Int.toNat 1) (IntKind.bits .u64))=a / 2:=by
 show a.fdiv 2=a / 2
 rw[Int.fdiv_eq_ediv_of_nonneg _ (by decide)]
theorem shr1' (a:Int):a.fdiv (2 ^ min 1 64)=a / 2:=shr1 a
mutual
/-- No names in it,and it is read as it is. -/
def AV.plain:AV->Bool
 |.agg cs=>zaO cs
 |.i _ _=>true|.b _=>true|.v _=>true|.sl _ _=>true|.ip _ _ _ _=>true
 |_=>false
def zaO:List AV->Bool
 |[]=>true
 |x::xs=>x.plain&&zaO xs
end
mutual
theorem zo8:∀ x:AV,x.plain=true->x.bare=true
 |.agg cs,h=>by simp only[AV.plain]at h;simp only[AV.bare];exact zcv cs h
 |.i _ _,_=>rfl|.b _,_=>rfl|.v _,_=>rfl|.sl _ _,_=>rfl|.ip _ _ _ _,_=>rfl
 |.tup _,h=>by simp[AV.plain]at h
 |.u,h=>by simp[AV.plain]at h
 |.s0 _,h=>by simp[AV.plain]at h
 |.ptr _ _ _,h=>by simp[AV.plain]at h
 |.sm _ _ _ _ _,h=>by simp[AV.plain]at h
 |.fn _ _,h=>by simp[AV.plain]at h
 |.mp _,h=>by simp[AV.plain]at h
 |.top,h=>by simp[AV.plain]at h
theorem zcv:∀ xs:List AV,zaO xs=true->zaf xs=true
 |[],_=>rfl
 |x::xs,h=>by
  simp only[zaO,Bool.and_eq_true]at h;simp only[zaf,zo8 x h.1,zcv xs h.2,Bool.and_self]
end
mutual
theorem zo7 (f:Nat->Option (List AV)):∀ x:AV,x.plain=true->zaR f x=x
 |.agg cs,h=>by simp only[AV.plain]at h;simp only[zaR,zej f cs h]
 |.i _ _,_=>rfl|.b _,_=>rfl|.v _,_=>rfl|.sl _ _,_=>rfl|.ip _ _ _ _,_=>rfl
 |.tup _,h=>by simp[AV.plain]at h
 |.u,h=>by simp[AV.plain]at h
 |.s0 _,h=>by simp[AV.plain]at h
 |.ptr _ _ _,h=>by simp[AV.plain]at h
 |.sm _ _ _ _ _,h=>by simp[AV.plain]at h
 |.fn _ _,h=>by simp[AV.plain]at h
 |.mp _,h=>by simp[AV.plain]at h
 |.top,h=>by simp[AV.plain]at h
theorem zej (f:Nat->Option (List AV)):∀ xs:List AV,zaO xs=true->zaT f xs=xs
 |[],_=>rfl
 |x::xs,h=>by
  simp only[zaO,Bool.and_eq_true]at h;simp only[zaT,zo7 f x h.1,zej f xs h.2]
end
theorem zc6:∀ (xs ys:List AV),zaO (xs++ys)=(zaO xs&&zaO ys)
 |[],ys=>by simp[zaO]
 |x::xs,ys=>by simp[zaO,zc6 xs ys,Bool.and_assoc]
class Cells {α:Type} (c:α->List AV) (sz:outParam Nat):Prop where
 len:∀ a,(c a).length=sz
 plain:∀ a,zaO (c a)=true
section cells
variable {α:Type} {c:α->List AV} {sz:Nat} [h:Cells c sz]
include h
theorem zcT (l:List α):zaO (l.map c).flatten=true:=by
 induction l with
 |nil=>rfl
 |cons x l ih=>simp[zc6,h.plain x,ih]
theorem zlY (l:List α):zaf (l.map c).flatten=true:=zcv _ (zcT l)
theorem zd5 (l:List α):zab (l.map c).flatten=0:=zbr _ (zlY l)
theorem zd4 (f:Nat->Option (List AV)) (l:List α):zaT f (l.map c).flatten=(l.map c).flatten:=zej f _ (zcT l)
theorem zbo (l:List α):(l.map c).flatten.length=l.length*sz:=by
 induction l with
 |nil=>simp
 |cons x l ih=>simp[h.len x,ih,Nat.add_mul,Nat.add_comm]
theorem zbi (l:List α):zbd sz l.length (l.map c).flatten=l.map c:=by
 have:=zfz sz (l.map c) (by simpa using fun a _=>h.len a)
 simpa using this
theorem ziI (l:List α):∀ k,k<=l.length->(l.map c).flatten.drop (k*sz)=((l.drop k).map c).flatten
 |0,_=>by simp
 |k+1,hk=>by
  cases l with
  |nil=>simp at hk
  |cons x l =>
   simp only[List.map_cons,List.flatten_cons,List.drop_succ_cons];rw[List.drop_append,List.drop_eq_nil_of_le (by rw[h.len x,Nat.add_mul];omega),List.nil_append,h.len x,show (k+1)*sz-sz=k*sz by rw[Nat.add_mul];omega]
   exact ziI l k (by simpa using hk)
theorem flat_seg (l:List α) (k:Nat) (hk:k<l.length):seg (l.map c).flatten (k*sz) sz=c l[k]:=by
 unfold seg;rw[ziI l k (by omega),List.drop_eq_getElem_cons hk,List.map_cons,List.flatten_cons,List.take_append_of_le_length (by rw[h.len];exact Nat.le_refl _),List.take_of_length_le (by rw[h.len];exact Nat.le_refl _)]
end cells
section rep
variable {α:Type} (a:α)
theorem rep1:List.replicate 1 a=[a]:=rfl
theorem rep2:List.replicate 2 a=[a,a]:=rfl
theorem rep3:List.replicate 3 a=[a,a,a]:=rfl
theorem rep4:List.replicate 4 a=[a,a,a,a]:=rfl
theorem rep6:List.replicate 6 a=[a,a,a,a,a,a]:=rfl
end rep
theorem zjM (l:List Bool):zaO (l.map AV.b)=true:=by induction l with|nil=>rfl|cons x l ih=>simp[zaO,AV.plain,ih]
theorem zmf (l:List Bool):zaf (l.map AV.b)=true:=zcv _ (zjM l)
theorem zpA (l:List Bool):zab (l.map AV.b)=0:=zbr _ (zmf l)
theorem zff (k:IntKind) (l:List Int):zaO (l.map (AV.i k))=true:=by induction l with|nil=>rfl|cons x l ih=>simp[zaO,AV.plain,ih]
theorem zgo (k:IntKind) (l:List Int):zaf (l.map (AV.i k))=true:=zcv _ (zff k l)
theorem zfg (k:IntKind) (l:List Int):zab (l.map (AV.i k))=0:=zbr _ (zgo k l)
section zbF
variable (k:Nat) (σ:List (Nat×AO))
theorem sn_i (q:IntKind) (n:Int):zfZ k σ (.i q n)=.i q n:=by simp only[zfZ,zaR]
theorem sn_b (t:Bool):zfZ k σ (.b t)=.b t:=by simp only[zfZ,zaR]
theorem sn_s0 (sz:Nat):zfZ k σ (.s0 sz)=.sl sz []:=by simp only[zfZ,zaR]
theorem sn_sl (sz:Nat) (es:List (List AV)):zfZ k σ (.sl sz es)=.sl sz es:=by simp only[zfZ,zaR]
theorem zf0 (cs:List AV):zfZ k σ (.agg cs)=.agg (zbF k σ cs):=by simp only[zfZ,zaR,zbF]
theorem zg7 (cs:List AV):zfZ k σ (.tup cs)=.tup (zbF k σ cs):=by simp only[zfZ,zaR,zbF]
theorem sn_fn (j:Nat) (cs:List AV):zfZ k σ (.fn j cs)=.fn j (zbF k σ cs):=by simp only[zfZ,zaR,zbF]
theorem zft:zbF k σ []=[]:=by simp only[zbF,zaT]
theorem zdH (x:AV) (xs:List AV):zbF k σ (x::xs)=zfZ k σ x::zbF k σ xs:=by simp only[zfZ,zaT,zbF]
theorem zlh (xs ys:List AV):zbF k σ (xs++ys)=zbF k σ xs++zbF k σ ys:=by
 induction xs with
 |nil=>simp only[zft,List.nil_append]
 |cons x xs ih=>simp only[zdH,List.cons_append,ih]
def snR (o:Option AO) (l:Nat) (K:List AV->AV) (_:l=l):AV:=match o with|some (.cells cs _)=>K cs|_=>.top
theorem snR_c (cs:List AV) (r:Bool) (l:Nat) (K:List AV->AV) (h:l=l):snR (some (.cells cs r)) l K h=K cs:=rfl
theorem sn_ptr (l ver off:Nat):zfZ (k+1) σ (.ptr l ver off)=snR (zah σ l) l (fun cs=>if cs.length=ver/\0<ver then .ip ver [zbF k σ cs] 0 off else .top) rfl:=by
 simp only[zfZ,zaR,za5,snR,zbF];cases e:zah σ l with
 |none=>rfl
 |some o=>cases o with
  |cells cs r=>simp only[zcA]
  |imap kvs=>rfl
  |rsv=>rfl
theorem sn_sm (l ver off n sz:Nat):zfZ (k+1) σ (.sm l ver off n sz)=snR (zah σ l) l (fun cs=>if cs.length=ver/\off+n*sz<=ver then .sl sz (zbd sz n ((zbF k σ cs).drop off)) else .top) rfl:=by
 simp only[zfZ,zaR,za5,snR,zbF];cases e:zah σ l with
 |none=>rfl
 |some o=>cases o with
  |cells cs r=>simp only[zcA]
  |imap kvs=>rfl
  |rsv=>rfl
theorem zhx {xs:List AV} (h:zaO xs=true):zbF k σ xs=xs:=zej _ xs h
end zbF
theorem sn_flat {α:Type} {c:α->List AV} {sz:Nat} [h:Cells c sz] (k:Nat) (σ:AS) (l:List α):zbF k σ (l.map c).flatten=(l.map c).flatten:=zhx k σ (zcT l)
theorem sn_bmap (k:Nat) (σ:AS) (l:List Bool):zbF k σ (l.map AV.b)=l.map AV.b:=zhx k σ (zjM l)
theorem zj4 (k:Nat) (σ:AS) (q:IntKind) (l:List Int):zbF k σ (l.map (AV.i q))=l.map (AV.i q):=zhx k σ (zff q l)
attribute [go_sem] sn_i sn_b sn_s0 sn_sl zf0 zg7 sn_fn zft zdH sn_ptr sn_sm snR_c sn_flat sn_bmap zj4
def zbQ (p:Nat->Bool):Nat->Nat->Bool
 |_,0=>true
 |k,m+1=>p k&&zbQ p (k+1) m
theorem zfT (p:Nat->Bool):∀ (m k:Nat),zbQ p k m=true↔∀ i,k<=i->i<k+m->p i=true
 |0,k=>by simp[zbQ];omega
 |m+1,k=>by
  simp only[zbQ,Bool.and_eq_true,zfT p m (k+1)];constructor
  ·rintro ⟨h1,h2⟩ i hi hlt
   rcases Nat.lt_or_ge k i with h|h
   ·exact h2 i h (by omega)
   ·obtain rfl:i=k:=by omega
    exact h1
  ·intro h
   exact ⟨h k (by omega) (by omega),fun i h1 h2=>h i (by omega) (by omega)⟩
theorem zeY {p:Nat->Bool} {k n:Nat} (h:k<n):zbQ p k (n-k)=(p k&&zbQ p (k+1) (n-(k+1))):=by
 rw[show n-k=(n-(k+1))+1 by omega,zbQ]
theorem zfU {p:Nat->Bool} {k n:Nat} (h:n<=k):zbQ p k (n-k)=true:=by
 rw[show n-k=0 by omega,zbQ]
theorem zrq (l:List Int):(l.map fun x=>[AV.i .i64 x]).flatten=l.map (AV.i .i64):=by induction l with|nil=>rfl|cons x l ih=>simp only[List.map_cons,List.flatten_cons,List.cons_append,List.nil_append,ih]
attribute [go_sem] zlY zd5 zd4 zbo zbi shr1 shr1' zmf zpA zgo zfg
attribute [go_sem] av_mov av_pick av_bin av_not av_conv av_load av_fadr av_iadr av_idx av_len av_ext av_mkfn av_build av_slc av_slca av_nilck av_mnx pk_b nt_b cv_i fa_ptr fa_ip ia_sl ia_sm ia_ptr ia_ip ix_t ix_f ln_sl ln_s0 ln_sm ex_t sa_ptr nk_ptr nk_ip mn_ii eq_eql eq_neq ar_add ar_sub ar_rem ar_eql ar_neq ar_lss ar_leq ar_gtr ar_geq ab_ii ab_aa ab_pn ab_nn sc_01 sc_10 sm_00 sm_01 sm_10
attribute [go_sem] gd_b gd_u wp_nil wp_o wp_t wp_f wd_nil wd_o wd_t wd_f cl_c st_p sr_l ap_0 ap_m fn_f bB_t bB_f rs_r op_set op_alloc op_box op_isnil op_mks0 op_mksl op_store op_app op_call op_calv op_callp op_gal od_call od_set od_alloc od_box od_mksl od_store od_callp od_gal nl_l
attribute [go_sem high] ob_true
attribute [go_sem] ev zbl zbq zjC zoH Then znv zsv zeR zi1 ares eqC AOp.dst zcu zcd zah sput zcG zaw mx zaM zax AV.bound zab AO.bound AV.sound AV.one AV.cells zaf AV.bare zds seg ovl zdn zc3 zd1 zjw ziq SLe_refl AV.scalar zcD zbd ziG zdG
attribute [go_sem] List.length_cons List.length_nil List.getElem?_cons_succ List.getElem?_cons_zero List.getElem?_nil List.map_cons List.map_nil List.set_cons_zero List.set_cons_succ List.drop_zero List.drop_succ_cons List.take_zero List.take_succ_cons List.nil_append List.cons_append rep1 rep2 rep3 rep4 rep6 List.flatten_cons List.flatten_nil List.append_nil Option.map_some Option.map_none true_and and_true Bool.not_true Bool.not_false decide_true decide_false eq_self if_true if_false Nat.zero_add Nat.add_zero Nat.le_refl Nat.lt_add_one Nat.zero_lt_succ Nat.mul_one Nat.zero_mul Nat.mul_zero Nat.one_mul Int.toNat_natCast Int.toNat_zero Int.toNat_one List.length_map Option.some.injEq exists_eq_left' AV.b.injEq AV.i.injEq Bool.decide_eq_true Bool.and_true Bool.true_and Bool.false_and Bool.and_false Bool.or_true Bool.true_or Bool.false_or Bool.or_false List.length_replicate List.length_append List.length_set
def zgr:List Nat->List (Nat×AV)->List (Nat×AV)
 |[],_=>[]
 |k::r,φ=>(k,zbl φ k)::zgr r φ
theorem zlT (φ:AF):∀ ks,ziG (zgr ks φ) φ
 |[]=>trivial
 |k::r=>⟨rfl,zlT φ r⟩
attribute [go_sem] zgr
def pk (ks:List Nat) (K:List (Nat×AV)->List (Nat×AO)->Prop):List (Nat×AV)->List (Nat×AO)->Prop:=fun φ σ=>K (zgr ks φ) σ
theorem pk_app (ks:List Nat) (K:List (Nat×AV)->List (Nat×AO)->Prop) (φ:List (Nat×AV)) (σ:List (Nat×AO)):pk ks K φ σ=K (zgr ks φ) σ:=rfl
def lend {ι:Type} (F:ι->List (Nat×AV)) (S:ι->List (Nat×AO)) (Inv:ι->Prop) (μ:ι->Nat) (s:ι):List (Nat×AV)->List (Nat×AO)->Prop:=fun φ' σ'=>∃ s',μ s'<μ s/\Inv s'/\ziG (F s') φ'/\zdG (S s') σ'
theorem lend_app {ι:Type} (F:ι->List (Nat×AV)) (S:ι->List (Nat×AO)) (Inv:ι->Prop) (μ:ι->Nat) (s:ι) (φ':List (Nat×AV)) (σ':List (Nat×AO)):lend F S Inv μ s φ' σ'=∃ s',μ s'<μ s/\Inv s'/\ziG (F s') φ'/\zdG (S s') σ':=rfl
attribute [go_sem] pk_app lend_app
def Cont (K A:AF->AS->Prop):Prop:=∀ φ σ,A φ σ->K φ σ
theorem Cont.go {K A:AF->AS->Prop} (h:Cont K A) {φ:AF} {σ:AS} (x:A φ σ):K φ σ:=h _ _ x
section
variable {P:Program} {inv:Nat->Option Nat} {w0:World} {M:Nat->Prop} {n N:Nat} {φ:AF} {σ:AS}
theorem St.fsub' {φ':AF} {β:Nat->Nat} {a:Act} {w:World} (hs:St inv w0 M n φ σ β a w) (h:ziG φ' φ):St inv w0 M n φ' σ β a w :=
 ⟨⟨fun i=>by
  rcases zkN h i with e|e
  ·rw[e];simp only[rel]
  ·rw[e];exact hs.slots i,hs.mem⟩,hs.size,hs.defers⟩
theorem AWp.less {φ':AF} {c:ACode} {Q:Exit->AF->AS->Prop} (h:AWp P inv w0 M N n c Q φ' σ) (h1:ziG φ' φ):AWp P inv w0 M N n c Q φ σ :=
 fun c₀ hc β a w hs=>h c₀ hc β a w (hs.fsub' h1)
theorem zaa (ks:List Nat) {x y:ACode} {Q:Exit->AF->AS->Prop} (h:∀ K:AF->AS->Prop,Cont K (AWp P inv w0 M N n y Q)->AWp P inv w0 M N n x (Then (pk ks K) Q) φ σ):AWp P inv w0 M N n (.seq x y) Q φ σ:=by
 refine AWp.seq fun K hK=>?_
 refine AWp.mono ?_ (h (fun φ σ=>∀ φ0,ziG φ φ0->K φ0 σ) fun φ σ hx φ0 hs=>hK _ _ (hx.less hs))
 intro e φ σ q;cases e with
 |normal=>exact q _ (zlT φ ks)
 |exit id=>exact q
 |goto l=>exact q
 |ret=>exact q
 |panic ch=>exact q
 |outgrown=>exact q
theorem zbu {ι:Type} {x:ACode} {Q:Exit->AF->AS->Prop} (F:ι->AF) (S:ι->AS) (Inv:ι->Prop) (μ:ι->Nat) (s0:ι) (hi:Inv s0) (h1:ziG (F s0) φ) (h2:zdG (S s0) σ)
  (hr:∀ s,Inv s->AWp P inv w0 M N n x (Then (lend F S Inv μ s) Q) (F s) (S s)):AWp P inv w0 M N n (.loop x) Q φ σ:=by
 refine AWp.loop (fun m φ σ=>∃ s,m=μ s/\Inv s/\φ=F s/\σ=S s) (μ s0) ⟨_,_,⟨s0,rfl,hi,rfl,rfl⟩,h1,h2⟩ ?_
 rintro m φ1 σ1 ⟨s,rfl,hs,rfl,rfl⟩;refine AWp.mono ?_ (hr s hs);intro e φ2 σ2 q;cases e with
 |normal =>
  obtain ⟨s',h1,h2,h3,h4⟩:=q;exact ⟨_,_,_,h1,⟨s',rfl,h2,rfl,rfl⟩,h3,h4⟩
 |exit id=>exact q
 |goto l=>exact q
 |ret=>exact q
 |panic ch=>exact q
 |outgrown=>exact q
theorem zak (hM:∀ b,M b->b<w0.heap.size) {j:Nat} {args:List AV} {r:AV} (h:PC P inv j args (·=r)) {K:AV->AS->Prop} (hk:K r σ):CallK P inv w0 M N φ σ j args K:=h.callK hM fun _ e=>e▸hk
theorem zcM (hM:∀ b,M b->b<w0.heap.size) (k:Nat) {j:Nat} {args args':List AV} {r:AV} (h:PC P inv j args' (·=r)) (he:zbF k σ args=args') (hs:r.scalar=true) {K:AV->AS->Prop} (hk:K r σ):CallK P inv w0 M N φ σ j args K :=
 PC.snapK hM k (R:=(·=r)) (by rw[he];exact h) fun _ e=>⟨e▸hs,e▸hk⟩
theorem zst {j:Nat} {F:AFn} (hF:Has P inv j F) {args:List AV} {R:AV->Prop} (hl:args.length<=F.ntmps)
  (h:∀ (w0:World) (M:Nat->Prop) (Q:Exit->AF->AS->Prop),(∀ b,M b->b<w0.heap.size)->(∀ φ σ r,zeR φ σ F.res=some r->R (zfZ 4 σ r)->Q .ret φ σ)->(∀ φ σ,Q .ret φ σ->Q .normal φ σ)->AWp P inv w0 M 0 F.ntmps F.body Q (zoH 0 args) []):PC P inv j args R :=
 PC.intro hF hl fun w0 M hM=>h w0 M _ hM (fun _ _ r h1 h2=>⟨r,h1,h2⟩) fun _ _ h=>h
end
attribute [go_sem] Nat.lt_irrefl Nat.not_lt_zero wI64 wU64 ob_pos nilK_pos map_get zkE
def Rw (A B:Prop):Prop:=A=B
theorem zcL (A:Prop):Rw A A:=rfl
theorem st {A B:Prop} (x:B) (h:Rw A B:=by first|(simp -dsimp -implicitDefEqProofs (disch:=omega) only[hX,go_sem,reduceIte,↓reduceIte,Nat.reduceEqDiff,Nat.reduceLT,Nat.reduceLeDiff,Nat.reduceAdd,Nat.reduceSub,Nat.reduceMul,Int.reduceToNat,Int.reduceLT,Int.reduceLE,Int.reduceEq,Int.reduceNeg,Int.reduceNe,reduceCtorEq];exact zcL _)|(simp -dsimp -implicitDefEqProofs (disch:=omega) only[go_sem,reduceIte,↓reduceIte,Nat.reduceEqDiff,Nat.reduceLT,Nat.reduceLeDiff,Nat.reduceAdd,Nat.reduceSub,Nat.reduceMul,Int.reduceToNat,Int.reduceLT,Int.reduceLE,Int.reduceEq,Int.reduceNeg,Int.reduceNe,reduceCtorEq];exact zcL _)):A:=Eq.mpr h x
theorem wT:True:=True.intro
theorem wt {G:Prop} (h:G:=by with_reducible exact True.intro):G:=h
theorem wq {A B:Prop} (b:B) (h:B->A:=by (intro b;dsimp only[qt,qm,ql,qf,qi,qb,qc,qp,qv,qk,qL,qz,qx,qy,qn,qs,qo,qg,qw,qK,qu,qN,qe,qh,qj,qT,qF,qI,qU,qR,qD,qW,qH,qC,qX,qY,List.flatten_cons,List.flatten_nil,List.map_cons,List.map_nil,List.cons_append,List.nil_append,Nat.reduceAdd];exact b)):A:=h b
abbrev kA:List Nat:=[0,1,4,5,7,8,9,16]
abbrev kB:List Nat:=[0,1,2,3,4,5,8,9,10,11,12,13,17,18,19,20,23,32,49]
abbrev kC:List Nat:=[0,2,3,4,5,6,7,10,14,33,36,61,65,75,85]
abbrev kD:List Nat:=[0,1,2,3]
abbrev kE:List Nat:=[0,1,2,3,4,5,6,7,8,9,10,11,12,13,14,15,16,20,21,31,36,44,49,62,65,68,79,95,112,127,142,145]
abbrev kF:List Nat:=[0,1,4,5,9,18]
abbrev kG:List Nat:=[0,1,2,3,4,5,6,7,8,9,10,11,41,46,56,84,87,105,113,116,155,158]
abbrev kH:List Nat:=[0,1,2,3,4,5,6,7,8,10,11,13,15,16,17,19,36,62,79,93,94,95,96,99,100,101,102,113,119,120,121,122,161]
abbrev kI:List Nat:=[0,1,2,3,4,5,6,7,8,9,11,12,13,14,16,29,30,31,32,39,56,57,58,59,68,84,96,110,113,114,115,116]
abbrev kJ:List Nat:=[0,1,2,4,5,10,20]
abbrev kK:List Nat:=[0,1,2,3,4,5,6,7,8,9,10,11,12,21,26,36,40,48,61,65,99]
abbrev kL:List Nat:=[0,1,4]
abbrev kM:List Nat:=[0,1,2,3,4,5,6,7,8,9,10,11,12,13,14,15,21,24,26,31,47,49,50,62,65,79,82,88,93,102]
abbrev kN:List Nat:=[0,1,2,3,4,5,6,7,8,10,17,18,19,20,25]
abbrev kO:List Nat:=[0,1,4,5,6,7,8,9,10,11,36]
abbrev kP:List Nat:=[0,1,2,4,5,6,7,9,10,11,12,13,14,48,64,73,83,85,100,119]
abbrev kQ:List Nat:=[0,1,2,3,4,5,6,7,8,9,10,11,12,13,14,15,16,17,18,22,50,55,60,71,82]
abbrev kR:List Nat:=[0,2,3,4,5,7,8,9,10,11,12,15,16,17,18,19,25,29,52,60,61,62,63,67,68,69,70,76,123]
abbrev kS:List Nat:=[0,1,2,6,7,8,9,14,15,16,17,18,30]
abbrev kT:List Nat:=[0,1,2,3,4,5,6,7,8,9,10,48,80,86,95,109,112,123,128,140,167]
abbrev kU:List Nat:=[0,1,2,3,4,6,7,8,9,10,11,12,21,33,38,53,58,71,95]
abbrev kV:List Nat:=[0,1,2,3,4,6,7,8,9,10,17,25,35,36,41,51,52,57,79]
abbrev kW:List Nat:=[0,2,3,5,6,8,9,10,11,12,20,25,26,27,28]
abbrev kX:List Nat:=[0,1,2,3,4,5,6,7,9,10,11,34,43,45,46,47,48,58,59,60,61]
abbrev kY:List Nat:=[0,1,3,4,5,7,8,9,16]
abbrev kZ:List Nat:=[0,1,2,3,4,5,6,7,8,33,38,62,67,103,108,143,145]
abbrev kb:List Nat:=[0,1,2,3,4,5,6,7,8,9,10,11,14,30,43,45,51]
abbrev kg:List Nat:=[0,1,2,3,4,5,6,7,8,9,10,11,12,13,14,15,16,17,18,19,21,28,31,49,60,62,65,73,79,93,102,105]
abbrev kj:List Nat:=[0,1,2]
abbrev kk:List Nat:=[0,1,2,6,7,8,9,10,11,17,31]
abbrev km:List Nat:=[0,1,2,3,6,7,9,13,23,25,26,27,28,40]
abbrev kn:List Nat:=[0,1,2,3,4,5,6,7,8,9,10,11,12,13,42,51,67,80]
abbrev ko:List Nat:=[0,1,2,3,4,6,7,8,9,12,20,40]
abbrev kr:List Nat:=[0,2,3,11,20]
abbrev ku:List Nat:=[0,1,2,3,4,5,6,7,8,9,10,15,41,43,48,57]
abbrev kv:List Nat:=[0,1,3,4,5,6,7,12]
abbrev kw:List Nat:=[0,1,2,3,4,5,6,7,8,9,10,11,13,18,20,25,26,27,28,59,61,63,64,65,66,72,80]
abbrev ky:List Nat:=[0,1,2,3,4,10,11,12,13]
abbrev kz:List Nat:=[0,1,2,3,4,5,6,7,12,21,28,79]
abbrev yA:List Nat:=[0,1,2,3,4,5,6,7,12,53,56,82]
abbrev yB:List Nat:=[0,1,2,3,4,30,44,49,84,86]
abbrev yC:List Nat:=[0,1,2,3,6,11,20,21]
abbrev yD:List Nat:=[0,1,2,3,4,6,7,8,9,14,24,28,36]
abbrev yF:List Nat:=[0,1,2,3,4,5,7,11,13,14,15,16,22,46]
abbrev yG:List Nat:=[0,1,2,3,5,31,49,51,52,53,54,61]
abbrev yH:List Nat:=[0,1,2,3,4,6,7,8,10,15,16,17,18,23,24,25,26,55]
abbrev yI:List Nat:=[0,1,2,3,4,5,6,7,15,17,18,19,20,29,38,40]
abbrev yJ:List Nat:=[0,1,2,4,6,7,8,11,12,13,14,20,35]
abbrev yK:List Nat:=[0,1,2,3,6,7,12,32]
abbrev yM:List Nat:=[0,1,2,3,4,5,6,10,11,12,28,35,41,68,81]
abbrev yN:List Nat:=[0,1,2,3,4,6,7,8,9,12,23]
abbrev yO:List Nat:=[0,1,2,3,4,6,7,12,28]
abbrev yP:List Nat:=[0,1,2,3,12,42]
abbrev yQ:List Nat:=[0,1,2,3,12,22]
abbrev yR:List Nat:=[0,1,2,3,4,5,12,17,30,31]
abbrev yS:List Nat:=[0,1,4,5,10,14,71]
abbrev yT:List Nat:=[0,1,2,3,6,7,8,9,13,34,47]
abbrev yU:List Nat:=[0,1,2,3,4,6,10,12,13,14,15,20]
abbrev yV:List Nat:=[0,1,2,3,4,6,7,8,9,13,15,16,17,18,29]
abbrev yW:List Nat:=[0,1,2,3,4,5,6,7,8,16,19,20,21,22,37]
abbrev yX:List Nat:=[0,1,2,4,6,9,10,11,12,18]
abbrev yY:List Nat:=[0,1,2,3,4,5,6,8,9,10,13,14,15,16,17,37,39,40,41,42,59,74,77,101,146,157]
abbrev yZ:List Nat:=[0,1,4,5,6,7,8,9,10,36,60,62,70]
abbrev ya:List Nat:=[0,1,2,3,4,5,6,7,8,9,10,11,12,14,15,18,28,44,48,51]
abbrev yd:List Nat:=[0,1,2,3,4,5,6,7,8,9,10,11,12,14,18,28,33,44,47,48,61,75,101,103,112,126,133,134]
abbrev ye:List Nat:=[0,1,2,3,4,7,11]
abbrev yf:List Nat:=[0,1,4,5,10,14,25]
abbrev yk:List Nat:=[0,1,2,3,6,7,8,21,31]
abbrev ym:List Nat:=[0,1,2,3,4,5,6,7,12,18]
abbrev yn:List Nat:=[0,1,2,3,4,5,6,11]
abbrev yo:List Nat:=[0,1,2,3,4,5,6,7,8,9,10,11,12,13,14,15,21,31,49,62,65,79]
abbrev yr:List Nat:=[0,1,2,3,6,7,8,11,13,18,26]
abbrev yu:List Nat:=[0,1,2,3,6,7,8,9,10,11,15,25]
abbrev yv:List Nat:=[0,1,2,4,6,8,9,10,11,17]
abbrev yw:List Nat:=[0,1,2,4,5,6,7,8,17]
abbrev yx:List Nat:=[0,2,3,5,6,7,8,9,15]
abbrev yy:List Nat:=[0,1,2,3,4,5,7,10,24,25,26,27,33]
abbrev yz:List Nat:=[0,1,2,3,4,5,7,10,12,13,14,15,33]
abbrev y8:List Nat:=[0,1,2,3,4,5,6,7,8,12,22]
abbrev y9:List Nat:=[0,1,2,3,4,5,6,7,8,9,17,23]
abbrev xB:List Nat:=[0,1,2,3,4,5,6,7,8,9,10,18,25]
abbrev xC:List Nat:=[0,1,2,3,4,5,6,7,8,9,10,11,12,14,18,28,44,48]
abbrev xD:List Nat:=[0,1,2,3,4,5,6,7,8,9,10,11,12,13,14,16,18,28,44,48]
abbrev xE:List Nat:=[0,1,2,3,4,5,6,7,8,9,10,11,12,14,15,18,19,28,29,44,48,51]
abbrev xF:List Nat:=[0,1,2,3,4,5,6,7,8,9,10,11,12,13,14,18,21,28,44,48,65,79,92,96,108,109]
abbrev xP:List Nat:=[0,1,2,3,4,5,6,7,8,9,10,11,12,18,28,44,48]
theorem zA {A B:Prop} (a:A) (b:B):A/\B:=⟨a,b⟩
theorem wD {G G':Prop} (g:G') (h:G'->G:=by (intro g;refine no_implicit_lambda% (st ?_);exact g)):G:=h g
theorem wF {G:Prop} (h:G:=by (refine no_implicit_lambda% (st ?_);exact wt)):G:=h
structure Rz (X:Prop):Prop where o:X
theorem wA {G G':Prop} (g:G') (h:G'->G:=by first|exact AWp.block|(intro g;(first|refine Rz.mk ?_|refine AWp.reg hE hM ?_|refine AWp.regd hE hM ?_|refine AWp.ret ?_|refine AWp.skip ?_|refine AWp.exit ?_|refine AWp.label ?_|refine AWp.goto ?_|(refine ob_mk ?_ ?_;(focus (clear g;first|omega|(refine Go.Eng.SLe_of ?_;exact wF)))));(first|(refine no_implicit_lambda% (st ?_);exact g)|exact g))|exact fun g=>Cont.go (by assumption) g):G:=h g
theorem wQ {G G':Prop} (g:G') (h:G'->G:=by (intro g;(first|refine hQ _ _ _ rfl ?_|refine hR _ _ (hQ _ _ _ rfl ?_));(first|(refine no_implicit_lambda% (st ?_);exact g)|exact g))):G:=h g
theorem wR {G G':Prop} (g:G') (h:G'->G:=by first|exact fun g=>hQ _ _ _ rfl g|exact fun g=>hR _ _ (hQ _ _ _ rfl g)):G:=h g
theorem wC {C G G':Prop} (c:C) (g:G') (h:C->G'->G:=by (intro c g;refine zak hM c ?_;(first|(refine no_implicit_lambda% (st ?_);exact g)|exact g))):G:=h c g
theorem wS {C G G':Prop} (c:C) (g:G') (h:C->G'->G:=by (intro c g;refine zcM hM 4 c ?_ rfl ?_;(focus exact wF);(first|(refine no_implicit_lambda% (st ?_);exact g)|exact g))):G:=h c g
theorem wP {C G G':Prop} (c:C) (g:G') (h:C->G'->G:=by (intro c g;refine Go.Eng.zss hM 4 c ?_ ?_ rfl ?_;(focus exact wF);(focus exact wF);(first|(refine no_implicit_lambda% (st ?_);exact g)|exact g))):G:=h c g
theorem wV {C G G':Prop} (c:C) (g:G') (h:C->G'->G:=by (intro c g;refine Go.Eng.PO.snapK hM 4 c ?_ rfl ?_ ?_;(focus exact wF);(focus (clear g;assumption));(first|(refine no_implicit_lambda% (st ?_);exact g)|exact g))):G:=h c g
theorem wO {C G G':Prop} (c:C) (g:G') (h:C->G'->G:=by (intro c g;refine Go.Eng.PO.callK hM c ?_;(first|(refine no_implicit_lambda% (st ?_);exact g)|exact g))):G:=h c g
theorem wU {C G G':Prop} (c:C) (g:G') (h:C->G'->G:=by (intro c g;refine Go.Eng.PC.pure1 hM c ?_;(first|(refine no_implicit_lambda% (st ?_);exact g)|exact g))):G:=h c g
theorem nX {ι:Type} {P:ι->Prop} (s:ι) (h:P s:=by (refine ⟨?_,⟨?_,hF⟩, ?_⟩<;>(try dsimp only)<;>(first|omega|rfl|(simp;done)|(simp;omega)|exact wF|(simp[List.map_set, *];done)|(simp[List.map_set, *];rfl)|(refine wD ?_;simp[List.map_set, *];done)|((try refine wD ?_);(repeat' refine And.intro ?_ ?_)<;>first|omega|rfl|(simp;done)|(simp;omega)|(simp;rfl)|(simp[List.map_set, *];done)|(simp[List.map_set, *];rfl))))):∃ s,P s:=⟨s,h⟩
theorem nY {ι:Type} {A B C:ι->Prop} (s:ι) (hB:B s) (hA:A s:=by ((try dsimp only);omega)) (hC:C s:=by ((try dsimp only);(first|omega|(simp;done)|(simp;omega)|exact wF|(simp[List.map_set, *];done)|(simp[List.map_set, *];rfl)|(refine wD ?_;simp[List.map_set, *];done)|((try refine wD ?_);(repeat' refine And.intro ?_ ?_)<;>first|omega|rfl|(simp;done)|(simp;omega)|(simp;rfl)|(simp[List.map_set, *];done)|(simp[List.map_set, *];rfl))))):∃ s,A s/\B s/\C s:=⟨s,hA,hB,hC⟩
theorem wN {A G:Prop} (h:A) (k:A->G:=by (intro h;first|exact h.elim|(exfalso;omega))):G:=k h
theorem pk2 {t:Bool} {X Y A B:Prop} (x:A->X) (y:B->Y) (h:Rw (t=true) A:=by first|(simp only[decide_eq_true_eq,decide_eq_false_iff_not,Bool.not_eq_true',Bool.not_eq_false',Bool.and_eq_true,Bool.or_eq_true,Bool.and_eq_false_imp,Bool.or_eq_false_iff,Bool.true_eq_false,Bool.false_eq_true,reduceCtorEq,if_true,if_false];exact zcL _)|exact zcL _) (h':Rw (t=false) B:=by first|(simp only[decide_eq_true_eq,decide_eq_false_iff_not,Bool.not_eq_true',Bool.not_eq_false',Bool.and_eq_true,Bool.or_eq_true,Bool.and_eq_false_imp,Bool.or_eq_false_iff,Bool.true_eq_false,Bool.false_eq_true,reduceCtorEq,if_true,if_false];exact zcL _)|exact zcL _):zfK t X Y:=⟨fun e=>x (Eq.mp h e),fun e=>y (Eq.mp h' e)⟩
theorem cnd2 {P:Program} {inv:Nat->Option Nat} {w0:World} {M:Nat->Prop} {n N:Nat} {φ:AF} {σ:AS} {c:Opd} {u v:ACode} {Q:Exit->AF->AS->Prop} {t:Bool} {A B:Prop} (ht:ev φ c=.b t) (x:A->AWp P inv w0 M N n u Q φ σ) (y:B->AWp P inv w0 M N n v Q φ σ) (h:Rw (t=true) A:=by first|(simp only[decide_eq_true_eq,decide_eq_false_iff_not,Bool.not_eq_true',Bool.not_eq_false',Bool.and_eq_true,Bool.or_eq_true,Bool.and_eq_false_imp,Bool.or_eq_false_iff,Bool.true_eq_false,Bool.false_eq_true,reduceCtorEq,if_true,if_false];exact zcL _)|exact zcL _) (h':Rw (t=false) B:=by first|(simp only[decide_eq_true_eq,decide_eq_false_iff_not,Bool.not_eq_true',Bool.not_eq_false',Bool.and_eq_true,Bool.or_eq_true,Bool.and_eq_false_imp,Bool.or_eq_false_iff,Bool.true_eq_false,Bool.false_eq_true,reduceCtorEq,if_true,if_false];exact zcL _)|exact zcL _):AWp P inv w0 M N n (.cond c u v) Q φ σ:=AWp.cond ht (fun e=>x (Eq.mp h e)) (fun e=>y (Eq.mp h' e))
theorem bz {A B:Prop} (h:Rw A B:=by first|(simp only[decide_eq_true_eq,decide_eq_false_iff_not,Bool.not_eq_true',Bool.not_eq_false',Bool.and_eq_true,Bool.or_eq_true,Bool.and_eq_false_imp,Bool.or_eq_false_iff,Bool.true_eq_false,Bool.false_eq_true,reduceCtorEq,if_true,if_false];exact zcL _)|exact zcL _):Rw A B:=h
theorem pk1 {t:Bool} {X Y A B:Prop} (x:t=true->A->X) (y:t=false->B->Y) (h:Rw (t=true) A) (h':Rw (t=false) B):zfK t X Y:=⟨fun e=>x e (Eq.mp h e),fun e=>y e (Eq.mp h' e)⟩
theorem cnd1 {P:Program} {inv:Nat->Option Nat} {w0:World} {M:Nat->Prop} {n N:Nat} {φ:AF} {σ:AS} {c:Opd} {u v:ACode} {Q:Exit->AF->AS->Prop} {t:Bool} {A B:Prop} (ht:ev φ c=.b t) (x:t=true->A->AWp P inv w0 M N n u Q φ σ) (y:t=false->B->AWp P inv w0 M N n v Q φ σ) (h:Rw (t=true) A) (h':Rw (t=false) B):AWp P inv w0 M N n (.cond c u v) Q φ σ:=AWp.cond ht (fun e=>x e (Eq.mp h e)) (fun e=>y e (Eq.mp h' e))
theorem Rz.c {A X:Prop} (x:A->Rz X) (a:A):X:=(x a).o
theorem Rz.d {T A X:Prop} (x:T->A->Rz X) (t:T) (a:A):X:=(x t a).o
theorem wB {G A B X Y:Prop} (x:A->X) (y:B->Y) (h:(A->X)->(B->Y)->G:=by (intro x y;first|(refine cnd1 rfl (fun _=>x) (fun _=>y) ?_ ?_<;>exact bz)|(refine pk1 (fun _=>Rz.c x) (fun _=>Rz.c y) ?_ ?_<;>exact bz)|exact zmV (Rz.c x) (Rz.c y wT))):G:=h x y
theorem wE {G T S A B X Y:Prop} (x:T->A->X) (y:S->B->Y) (h:(T->A->X)->(S->B->Y)->G:=by (intro x y;first|(refine cnd1 rfl x y ?_ ?_<;>exact bz)|(refine pk1 (Rz.d x) (Rz.d y) ?_ ?_<;>exact bz)|exact zmV (Rz.d x wT) (Rz.d y wT wT))):G:=h x y
theorem PC.fn {P:Program} {inv:Nat->Option Nat} (hH:HasAll P inv) {j:Nat} (F:AFn) {args:List AV} {R:AV->Prop}
  (h:∀ (w0:World) (M:Nat->Prop) (Q:Exit->AF->AS->Prop),(∀ b,M b->b<w0.heap.size)->zcs P inv->(∀ φ σ r,zeR φ σ F.res=some r->R (zfZ 4 σ r)->Q .ret φ σ)->(∀ φ σ,Q .ret φ σ->Q .normal φ σ)->AWp P inv w0 M 0 F.ntmps F.body Q (zoH 0 args) []) (hF:code j=some F:=by rfl) (hl:args.length<=F.ntmps:=by exact Nat.le_of_ble_eq_true rfl):PC P inv j args R :=
 zst (hH.has _ _ hF) hl fun w0 M Q hM hQ hR=>h w0 M Q hM hH.callable hQ hR
theorem wf {P:Program} {inv:Nat->Option Nat} (hH:HasAll P inv) {j:Nat} (F:AFn) {args:List AV} {R:AV->Prop} {n:Nat} {res:List ARes} {b:ACode} (h:∀ (w0:World) (M:Nat->Prop) (Q:Exit->AF->AS->Prop),(∀ b,M b->b<w0.heap.size)->zcs P inv->(∀ φ σ r,zeR φ σ res=some r->R (zfZ 4 σ r)->Q .ret φ σ)->(∀ φ σ,Q .ret φ σ->Q .normal φ σ)->AWp P inv w0 M 0 n b Q (zoH 0 args) []) (he:F=⟨n,res,b⟩:=by exact rfl) (hF:code j=some F:=by rfl) (hl:args.length<=F.ntmps:=by exact Nat.le_of_ble_eq_true rfl):PC P inv j args R:=by subst he;exact PC.fn hH _ h hF hl
theorem zcC {P:Program} {inv:Nat->Option Nat} {w0:World} {M:Nat->Prop} {m N:Nat} {φ:AF} {σ:AS} {x:ACode} {Q:Exit->AF->AS->Prop} (F:Nat->List (Nat×AV)) (S:Nat->List (Nat×AO)) (n:Nat) (Inv:Nat->Prop)
  (hr:∀ s,s<=n/\Inv s->AWp P inv w0 M N m x (Then (lend F S (fun k=>k<=n/\Inv k) (fun k=>n-k) s) Q) (F s) (S s))
  (hi:Inv 0:=by first|rfl|simp) (h1:ziG (F 0) φ:=by ((try dsimp only);refine wD ?_;first|exact wt|omega)) (h2:zdG (S 0) σ:=by ((try dsimp only);refine wD ?_;first|exact wt|omega)):AWp P inv w0 M N m (.loop x) Q φ σ :=
 zbu F S (fun k=>k<=n/\Inv k) (fun k=>n-k) 0 ⟨Nat.zero_le _,hi⟩ h1 h2 hr
abbrev AV.n (x:Int):AV:=.i .i64 x
structure Join where
 to:Int
 ed:Int
 deriving DecidableEq,Inhabited
def Join.c (j:Join):List AV:=[.n j.to,.n j.ed]
structure Section where
 id:Int
 pt:Int
 ends:List Join
 deriving DecidableEq,Inhabited
def Section.c (s:Section):List AV:=[.n s.id,.n s.pt,.sl 2 (s.ends.map Join.c)]
theorem zrf (a b:Join):a=b↔a.to=b.to/\a.ed=b.ed:=by cases a;cases b;simp
instance:Cells Join.c 2:=⟨fun _=>rfl,fun _=>rfl⟩
instance:Cells Section.c 3:=⟨fun _=>rfl,fun _=>rfl⟩
def zaJ (x:Int):List AV:=[.n x]
instance:Cells zaJ 1:=⟨fun _=>rfl,fun _=>rfl⟩
attribute [go_sem] zaJ Join.c Section.c
end Go.Eng
namespace Go.Lev
open Go.Eng
def I64 (x:Int):Prop:=-9223372036854775808<=x/\x<=9223372036854775807
theorem zbI {d:D} (h:Sh.ok (.i .i64) d):∃ n,d=.n n/\I64 n:=by
 cases d with
 |n n =>
  refine ⟨n,rfl, ?_⟩;have h:(Lit.int .i64 n).wf=true:=h;simp[Lit.wf,IntKind.min,IntKind.max,IntKind.signed,IntKind.bits]at h;unfold I64;omega
 |t _=>exact h.elim
 |l _=>exact h.elim
theorem of_u8 {d:D} (h:Sh.ok (.i .u8) d):∃ n,d=.n n/\0<=n/\n<=255:=by
 cases d with
 |n n =>
  refine ⟨n,rfl, ?_⟩;have h:(Lit.int .u8 n).wf=true:=h;simp[Lit.wf,IntKind.min,IntKind.max,IntKind.signed,IntKind.bits]at h;omega
 |t _=>exact h.elim
 |l _=>exact h.elim
theorem of_s {sz:Nat} {e:Sh} {d:D} (h:Sh.ok (.s sz e) d):∃ l,d=.l l/\l.length<=maxLen/\∀ x∈l,Sh.ok e x:=by
 cases d with
 |l l=>exact ⟨l,rfl,by simpa only[Sh.ok] using h⟩
 |t _=>exact h.elim
 |n _=>exact h.elim
theorem ziu {fs:List Sh} {d:D} (h:Sh.ok (.st fs) d):∃ l,d=.l l/\zd9 fs l:=by
 cases d with
 |l l=>exact ⟨l,rfl,by simpa only[Sh.ok] using h⟩
 |t _=>exact h.elim
 |n _=>exact h.elim
theorem zaU {f:Sh} {fs:List Sh} {l:List D} (h:zd9 (f::fs) l):∃ d ds,l=d::ds/\Sh.ok f d/\zd9 fs ds:=by
 cases l with
 |nil=>exact h.elim
 |cons d ds=>exact ⟨d,ds,rfl,by simpa only[zd9] using h⟩
theorem zeO {l:List D} (h:zd9 [] l):l=[]:=by cases l with|nil=>rfl|cons _ _=>exact h.elim
theorem zfL {α:Type} {c:α->List AV} {p:α->Prop} {e:Sh} (h:∀ d,Sh.ok e d->∃ a,Sh.av e d=c a/\p a):∀ l:List D,(∀ x∈l,Sh.ok e x)->∃ as:List α,l.map (Sh.av e)=as.map c/\as.length=l.length/\∀ a∈as,p a
 |[],_=>⟨[],rfl,rfl,fun _ h=>by cases h⟩
 |d::l,hl=>by
  obtain ⟨a,h1,h2⟩:=h d (hl d (by simp))
  obtain ⟨as,h3,h4,h5⟩:=zfL h l fun x hx=>hl x (by simp[hx])
  exact ⟨a::as,by simp[h1,h3],by simp[h4],by simpa using ⟨h2,h5⟩⟩
def zqg:Sh:=.st [.i .i64,.i .i64]
def zf2:Sh:=.st [.i .i64,.i .i64,.s 2 zqg]
def Join.ok (j:Join):Prop:=I64 j.to/\I64 j.ed
def Section.ok (s:Section):Prop:=I64 s.id/\I64 s.pt/\s.ends.length<=maxLen/\∀ j∈s.ends,Join.ok j
theorem of_join (d:D) (h:Sh.ok zqg d):∃ j:Join,Sh.av zqg d=j.c/\Join.ok j:=by
 obtain ⟨l,rfl,h⟩:=ziu h;obtain ⟨d1,l,rfl,h1,h⟩:=zaU h;obtain ⟨d2,l,rfl,h2,h⟩:=zaU h;obtain rfl:=zeO h;obtain ⟨a,rfl,ha⟩:=zbI h1;obtain ⟨b,rfl,hb⟩:=zbI h2;exact ⟨⟨a,b⟩,rfl,ha,hb⟩
theorem zpb (d:D) (h:Sh.ok zf2 d):∃ s:Section,Sh.av zf2 d=s.c/\Section.ok s:=by
 obtain ⟨l,rfl,h⟩:=ziu h;obtain ⟨d1,l,rfl,h1,h⟩:=zaU h;obtain ⟨d2,l,rfl,h2,h⟩:=zaU h;obtain ⟨d3,l,rfl,h3,h⟩:=zaU h;obtain rfl:=zeO h;obtain ⟨a,rfl,ha⟩:=zbI h1;obtain ⟨b,rfl,hb⟩:=zbI h2;obtain ⟨l,rfl,hl,h3⟩:=of_s h3;obtain ⟨js,e1,e2,e3⟩:=zfL of_join l h3;refine ⟨⟨a,b,js⟩, ?_,ha,hb,by simpa [e2] using hl,e3⟩
 simp only[Sh.av,zdt,zf2,e1,Section.c,List.cons_append,List.nil_append]
theorem arg_i64 {d:D} (h:Sh.ok (.i .i64) d):∃ n,Sh.arg (.i .i64) d=.n n/\I64 n:=by
 obtain ⟨n,rfl,h'⟩:=zbI h;exact ⟨n,rfl,h'⟩
end Go.Lev
namespace Go.Eng
structure Pnt where
 id:Int
 sec:Int
 deriving DecidableEq,Inhabited
def Pnt.c (x:Pnt):List AV:=[.n x.id,.n x.sec]
structure Sgn where
 id:Int
 sec:Int
 ed:Int
 deriving DecidableEq,Inhabited
def Sgn.c (x:Sgn):List AV:=[.n x.id,.n x.sec,.n x.ed]
structure Flk where
 pnt:Int
 lie:Int
 deriving DecidableEq,Inhabited
def Flk.c (x:Flk):List AV:=[.n x.pnt,.n x.lie]
structure Rte where
 id:Int
 entry:Int
 exit:Int
 path:List Int
 over:List Int
 flanks:List Flk
 timer:Int
 deriving DecidableEq,Inhabited
def Rte.c (x:Rte):List AV:=[.n x.id,.n x.entry,.n x.exit,.sl 1 (x.path.map zaJ),.sl 1 (x.over.map zaJ),.sl 2 (x.flanks.map Flk.c),.n x.timer]
structure Pln where
 version:Int
 parent:Int
 sections:List Section
 points:List Pnt
 signals:List Sgn
 routes:List Rte
 deriving Inhabited
def Pln.c (x:Pln):List AV:=[.n x.version,.n x.parent,.sl 3 (x.sections.map Section.c),.sl 2 (x.points.map Pnt.c),.sl 3 (x.signals.map Sgn.c),.sl 7 (x.routes.map Rte.c)]
instance:Cells Pnt.c 2:=⟨fun _=>rfl,fun _=>rfl⟩
instance:Cells Sgn.c 3:=⟨fun _=>rfl,fun _=>rfl⟩
instance:Cells Flk.c 2:=⟨fun _=>rfl,fun _=>rfl⟩
instance:Cells Rte.c 7:=⟨fun _=>rfl,fun _=>rfl⟩
instance:Cells Pln.c 6:=⟨fun _=>rfl,fun _=>rfl⟩
attribute [go_sem] Pnt.c Sgn.c Flk.c Rte.c Pln.c
end Go.Eng
namespace Go.Lev
open Go.Eng
def shPnt:Sh:=.st [.i .i64,.i .i64]
def shSgn:Sh:=.st [.i .i64,.i .i64,.i .i64]
def shFlk:Sh:=.st [.i .i64,.i .i64]
def shRte:Sh:=.st [.i .i64,.i .i64,.i .i64,.s 1 (.i .i64),.s 1 (.i .i64),.s 2 shFlk,.i .i64]
def shPln:Sh:=.st [.i .i64,.i .i64,.s 3 zf2,.s 2 shPnt,.s 3 shSgn,.s 7 shRte]
def Pnt.ok (x:Pnt):Prop:=I64 x.id/\I64 x.sec
def Sgn.ok (x:Sgn):Prop:=I64 x.id/\I64 x.sec/\I64 x.ed
def Flk.ok (x:Flk):Prop:=I64 x.pnt/\I64 x.lie
def ints (l:List Int):Prop:=l.length<=maxLen/\∀ x∈l,I64 x
def Rte.ok (x:Rte):Prop:=I64 x.id/\I64 x.entry/\I64 x.exit/\ints x.path/\ints x.over/\(x.flanks.length<=maxLen/\∀ f∈x.flanks,Flk.ok f)/\I64 x.timer
def Pln.ok (x:Pln):Prop:=I64 x.version/\I64 x.parent/\(x.sections.length<=maxLen/\∀ s∈x.sections,Section.ok s)/\(x.points.length<=maxLen/\∀ s∈x.points,Pnt.ok s)/\(x.signals.length<=maxLen/\∀ s∈x.signals,Sgn.ok s)/\(x.routes.length<=maxLen/\∀ s∈x.routes,Rte.ok s)
theorem of_pnt (d:D) (h:Sh.ok shPnt d):∃ j:Pnt,Sh.av shPnt d=j.c/\Pnt.ok j:=by
 obtain ⟨l,rfl,h⟩:=ziu h;obtain ⟨d1,l,rfl,h1,h⟩:=zaU h;obtain ⟨d2,l,rfl,h2,h⟩:=zaU h;obtain rfl:=zeO h;obtain ⟨a,rfl,ha⟩:=zbI h1;obtain ⟨b,rfl,hb⟩:=zbI h2;exact ⟨⟨a,b⟩,rfl,ha,hb⟩
theorem of_flk (d:D) (h:Sh.ok shFlk d):∃ j:Flk,Sh.av shFlk d=j.c/\Flk.ok j:=by
 obtain ⟨l,rfl,h⟩:=ziu h;obtain ⟨d1,l,rfl,h1,h⟩:=zaU h;obtain ⟨d2,l,rfl,h2,h⟩:=zaU h;obtain rfl:=zeO h;obtain ⟨a,rfl,ha⟩:=zbI h1;obtain ⟨b,rfl,hb⟩:=zbI h2;exact ⟨⟨a,b⟩,rfl,ha,hb⟩
theorem of_sgn (d:D) (h:Sh.ok shSgn d):∃ j:Sgn,Sh.av shSgn d=j.c/\Sgn.ok j:=by
 obtain ⟨l,rfl,h⟩:=ziu h;obtain ⟨d1,l,rfl,h1,h⟩:=zaU h;obtain ⟨d2,l,rfl,h2,h⟩:=zaU h;obtain ⟨d3,l,rfl,h3,h⟩:=zaU h;obtain rfl:=zeO h;obtain ⟨a,rfl,ha⟩:=zbI h1;obtain ⟨b,rfl,hb⟩:=zbI h2;obtain ⟨e,rfl,he⟩:=zbI h3;exact ⟨⟨a,b,e⟩,rfl,ha,hb,he⟩
theorem of_int (d:D) (h:Sh.ok (.i .i64) d):∃ n:Int,Sh.av (.i .i64) d=zaJ n/\I64 n:=by
 obtain ⟨a,rfl,ha⟩:=zbI h;exact ⟨a,rfl,ha⟩
theorem zqW {d:D} (h:Sh.ok (.s 1 (.i .i64)) d):∃ l:List Int,Sh.av (.s 1 (.i .i64)) d=[.sl 1 (l.map zaJ)]/\ints l:=by
 obtain ⟨l,rfl,h1,h2⟩:=of_s h;obtain ⟨as,h3,h4,h5⟩:=zfL of_int l h2;exact ⟨as,by simp only[Sh.av,h3],by omega,h5⟩
theorem zgj {α:Type} {c:α->List AV} {p:α->Prop} {sz:Nat} {e:Sh} (h:∀ d,Sh.ok e d->∃ a,Sh.av e d=c a/\p a) {d:D} (hd:Sh.ok (.s sz e) d):∃ l:List α,Sh.av (.s sz e) d=[.sl sz (l.map c)]/\l.length<=maxLen/\∀ x∈l,p x:=by
 obtain ⟨l,rfl,h1,h2⟩:=of_s hd;obtain ⟨as,h3,h4,h5⟩:=zfL h l h2;exact ⟨as,by simp only[Sh.av,h3],by omega,h5⟩
theorem of_rte (d:D) (h:Sh.ok shRte d):∃ j:Rte,Sh.av shRte d=j.c/\Rte.ok j:=by
 obtain ⟨l,rfl,h⟩:=ziu h;obtain ⟨d1,l,rfl,h1,h⟩:=zaU h;obtain ⟨d2,l,rfl,h2,h⟩:=zaU h;obtain ⟨d3,l,rfl,h3,h⟩:=zaU h;obtain ⟨d4,l,rfl,h4,h⟩:=zaU h;obtain ⟨d5,l,rfl,h5,h⟩:=zaU h;obtain ⟨d6,l,rfl,h6,h⟩:=zaU h;obtain ⟨d7,l,rfl,h7,h⟩:=zaU h;obtain rfl:=zeO h;obtain ⟨a,rfl,ha⟩:=zbI h1;obtain ⟨b,rfl,hb⟩:=zbI h2;obtain ⟨e,rfl,he⟩:=zbI h3;obtain ⟨p,ep,hp⟩:=zqW h4;obtain ⟨o,eo,ho⟩:=zqW h5;obtain ⟨f,ef,hf⟩:=zgj of_flk h6;obtain ⟨t,rfl,ht⟩:=zbI h7;exact ⟨⟨a,b,e,p,o,f,t⟩,by simp only[shRte,Sh.av,zdt,ep,eo,ef,Rte.c];rfl,ha,hb,he,hp,ho,hf,ht⟩
theorem arg_plan {d:D} (h:Sh.ok shPln d):∃ p:Pln,Sh.arg shPln d=.agg p.c/\Pln.ok p:=by
 obtain ⟨l,rfl,h⟩:=ziu h;obtain ⟨d1,l,rfl,h1,h⟩:=zaU h;obtain ⟨d2,l,rfl,h2,h⟩:=zaU h;obtain ⟨d3,l,rfl,h3,h⟩:=zaU h;obtain ⟨d4,l,rfl,h4,h⟩:=zaU h;obtain ⟨d5,l,rfl,h5,h⟩:=zaU h;obtain ⟨d6,l,rfl,h6,h⟩:=zaU h;obtain rfl:=zeO h;obtain ⟨a,rfl,ha⟩:=zbI h1;obtain ⟨b,rfl,hb⟩:=zbI h2;obtain ⟨s,es,hs⟩:=zgj zpb h3;obtain ⟨p,ep,hp⟩:=zgj of_pnt h4;obtain ⟨g,eg,hg⟩:=zgj of_sgn h5;obtain ⟨r,er,hr⟩:=zgj of_rte h6;exact ⟨⟨a,b,s,p,g,r⟩,by simp only[shPln,Sh.arg,Sh.av,zdt,es,ep,eg,er,Pln.c];rfl,ha,hb,hs,hp,hg,hr⟩
set_option maxRecDepth 10000
set_option maxHeartbeats 4000000
variable {P:Program} {inv:Nat->Option Nat}
structure HasIds (P:Program) (inv:Nat->Option Nat):Prop where
 pnt:∀ x:Pnt,PC P inv 141 [.agg x.c] (·=.n x.id)
 sgn:∀ x:Sgn,PC P inv 142 [.agg x.c] (·=.n x.id)
 rte:∀ x:Rte,PC P inv 135 [.agg x.c] (·=.n x.id)
def zef:Option Int->List Int->Bool
 |_,[]=>true
 |p,x::r=>!decide (x<1)&&!decide (99<x)&&!(match p with|some y=>decide (x<=y)|none=>false)&&zef (some x) r
def zlx (l:List Int) (k:Nat):Option Int:=match k with|0=>none|k+1=>some (nth l k)
def rise (l:List Int) (most:Int):Bool:=zef none l&&decide ((l.length:Int)<=most)
def zcl (a:List Int) (id:Int):Bool:=decide (0<=id)&&decide (id<=99)&&decide (0<nth a id.toNat)
theorem znD (hH:HasAll P inv) (a:List Int) (ha:a.length=100) (id:Int):PC P inv 134 [.agg (a.map AV.n),.n id] (·=.b (zcl a id)):=by
 refine wf hH cd134 fun w0 M Q hM hE hQ hR=>?_;refine wq ?_
 (have hX:=zA @List.length_map.{0,0} @ha;(repeat' first|refine zaa [0,1,2,4] fun K hK=>?_|exact wt|refine wA ?_|(refine wB ?_ ?_<;>intro h<;>first|exact wN h|subst (h:(_:Bool)=_)|skip)|(refine wQ ?_;clear hQ hR hE hM)|fail);all_goals clear hX)
 all_goals (first|rfl|(grind[zcl])|(simp[zcl, *];done)|(simp_all [zcl];done)|(simp_all [zcl]<;>first|omega|((repeat' split)<;>first|rfl|(exfalso;omega))))
theorem zqY {α:Type} [Inhabited α] (f:α->Int) {l:List α} {k:Nat} (h:k<l.length):nth (l.map f) k=f (nth l k):=by simp[nth,h]
theorem zqJ {α:Type} [Inhabited α] (f:α->Int) {l:List α} {k:Nat} (h:k<l.length):zlx (l.map f) k=if 0<(k:Int) then some (f (nth l ((k:Int)-1).toNat)) else none:=by
 rcases k with _|k
 ·rfl
 ·rw[if_pos (by omega)]
  show some (nth (l.map f) k)=_
  rw[zqY f (by omega),show (((k+1:Nat):Int)-1).toNat=k by omega]
theorem zlw {α:Type} [Inhabited α] (f:α->Int) {l:List α} {k:Nat} (h:k<l.length):zlx (l.map f) (k+1)=some (f (nth l k)):=congrArg some (zqY f h)
theorem zgR {α:Type} [Inhabited α] {f:α->Int} {l:List α} {k:Nat} {most:Int} {b:Bool} (hlt:k<l.length) (hg:zef (zlx (l.map f) k) ((nth l k::l.drop (k+1)).map f)=b) :
  (f (nth l k)<1->b=false)/\(99<f (nth l k)->b=false)/\(0<(k:Int)->f (nth l k)<=f (nth l ((k:Int)-1).toNat)->b=false) /\
  (¬f (nth l k)<1->¬99<f (nth l k)->(0<(k:Int)->¬f (nth l k)<=f (nth l ((k:Int)-1).toNat))->zef (zlx (l.map f) (k+1)) ((l.drop (k+1)).map f)=b):=by
 rw[zqJ f hlt,List.map_cons]at hg;simp only[zef]at hg;rw[zlw f hlt];generalize f (nth l ((k:Int)-1).toNat)=y at hg |-
 refine ⟨fun h=>by rw[<-hg];simp[h],fun h=>by rw[<-hg];simp[h],fun h1 h2=>by rw[<-hg,if_pos h1];simp[h2],fun h1 h2 h3=>?_⟩
 rw[<-hg];by_cases h0:0<(k:Int)
 ·rw[if_pos h0];simp[h1,h2,h3 h0]
 ·rw[if_neg h0];simp[h1,h2]
theorem zo2 (hH:HasAll P inv) (hI:HasIds P inv) (l:List Pnt) (most:Int) (hl:l.length<=1000000000):PC P inv 131 [.sl 2 (l.map Pnt.c),.n most] (·=.b (rise (l.map Pnt.id) most)):=by
 refine wf hH cd131 fun w0 M Q hM hE hQ hR=>?_;refine wq ?_
 (repeat' first|refine zaa kO fun K hK=>?_|exact wt|refine wA ?_|(refine wB ?_ ?_<;>intro h<;>first|exact wN h|subst (h:(_:Bool)=_)|skip)|(refine wQ ?_;clear hQ hR hE hM)|fail)
 refine zcC (fun k=>[(0,.sl 2 (l.map Pnt.c)),(1,.n most),(8,.sl 2 (l.map Pnt.c)),(9,.n l.length),(10,.n k)]) (fun k=>[]) (l.length) (fun k=>zef (zlx (l.map Pnt.id) k) ((l.drop k).map Pnt.id)=zef none (l.map Pnt.id)) ?_;rintro k ⟨hk,hg⟩;rcases Nat.lt_or_ge k l.length with hlt|hge
 ·rw[zae hlt]at hg
  obtain ⟨r1,r2,r3,r4⟩:=zgR (most:=most) hlt hg
  (repeat' first|refine zaa kO fun K hK=>?_|exact wt|refine wA ?_|(refine wB ?_ ?_<;>intro h<;>first|exact wN h|subst (h:(_:Bool)=_)|skip)|(refine wQ ?_;clear hQ hR hE hM)|(refine zak hM (hI.pnt _) ?_;try (refine wD ?_;try exact wt))|fail)
  ·rw[rise,r1 (by assumption)];rfl
  ·rw[rise,r2 (by assumption)];rfl
  ·rw[rise,r3 (by assumption) h];rfl
  ·exact ⟨k+1,by omega,⟨by omega,r4 (by assumption) (by assumption) fun _=>h⟩,(by (try dsimp only);(first|omega|(simp;done)|(simp;omega)))⟩
  ·exact ⟨k+1,by omega,⟨by omega,r4 (by assumption) (by assumption) fun h'=>absurd h' (by assumption)⟩,(by (try dsimp only);(first|omega|(simp;done)|(simp;omega)))⟩
 ·rw[List.drop_eq_nil_of_le hge]at hg
  (repeat' first|refine zaa kO fun K hK=>?_|exact wt|refine wA ?_|(refine wB ?_ ?_<;>intro h<;>first|exact wN h|subst (h:(_:Bool)=_)|skip)|(refine wQ ?_;clear hQ hR hE hM)|fail)
  rw[rise,<-hg];simp[zef]
theorem zo0 (hH:HasAll P inv) (hI:HasIds P inv) (l:List Sgn) (most:Int) (hl:l.length<=1000000000):PC P inv 133 [.sl 3 (l.map Sgn.c),.n most] (·=.b (rise (l.map Sgn.id) most)):=by
 refine wf hH cd133 fun w0 M Q hM hE hQ hR=>?_;refine wq ?_
 (repeat' first|refine zaa kO fun K hK=>?_|exact wt|refine wA ?_|(refine wB ?_ ?_<;>intro h<;>first|exact wN h|subst (h:(_:Bool)=_)|skip)|(refine wQ ?_;clear hQ hR hE hM)|fail)
 refine zcC (fun k=>[(0,.sl 3 (l.map Sgn.c)),(1,.n most),(8,.sl 3 (l.map Sgn.c)),(9,.n l.length),(10,.n k)]) (fun k=>[]) (l.length) (fun k=>zef (zlx (l.map Sgn.id) k) ((l.drop k).map Sgn.id)=zef none (l.map Sgn.id)) ?_;rintro k ⟨hk,hg⟩;rcases Nat.lt_or_ge k l.length with hlt|hge
 ·rw[zae hlt]at hg
  obtain ⟨r1,r2,r3,r4⟩:=zgR (most:=most) hlt hg
  (repeat' first|refine zaa kO fun K hK=>?_|exact wt|refine wA ?_|(refine wB ?_ ?_<;>intro h<;>first|exact wN h|subst (h:(_:Bool)=_)|skip)|(refine wQ ?_;clear hQ hR hE hM)|(refine zak hM (hI.sgn _) ?_;try (refine wD ?_;try exact wt))|fail)
  ·rw[rise,r1 (by assumption)];rfl
  ·rw[rise,r2 (by assumption)];rfl
  ·rw[rise,r3 (by assumption) h];rfl
  ·exact ⟨k+1,by omega,⟨by omega,r4 (by assumption) (by assumption) fun _=>h⟩,(by (try dsimp only);(first|omega|(simp;done)|(simp;omega)))⟩
  ·exact ⟨k+1,by omega,⟨by omega,r4 (by assumption) (by assumption) fun h'=>absurd h' (by assumption)⟩,(by (try dsimp only);(first|omega|(simp;done)|(simp;omega)))⟩
 ·rw[List.drop_eq_nil_of_le hge]at hg
  (repeat' first|refine zaa kO fun K hK=>?_|exact wt|refine wA ?_|(refine wB ?_ ?_<;>intro h<;>first|exact wN h|subst (h:(_:Bool)=_)|skip)|(refine wQ ?_;clear hQ hR hE hM)|fail)
  rw[rise,<-hg];simp[zef]
theorem zo1 (hH:HasAll P inv) (hI:HasIds P inv) (l:List Rte) (most:Int) (hl:l.length<=1000000000):PC P inv 125 [.sl 7 (l.map Rte.c),.n most] (·=.b (rise (l.map Rte.id) most)):=by
 refine wf hH cd125 fun w0 M Q hM hE hQ hR=>?_;refine wq ?_
 (repeat' first|refine zaa kO fun K hK=>?_|exact wt|refine wA ?_|(refine wB ?_ ?_<;>intro h<;>first|exact wN h|subst (h:(_:Bool)=_)|skip)|(refine wQ ?_;clear hQ hR hE hM)|fail)
 refine zcC (fun k=>[(0,.sl 7 (l.map Rte.c)),(1,.n most),(8,.sl 7 (l.map Rte.c)),(9,.n l.length),(10,.n k)]) (fun k=>[]) (l.length) (fun k=>zef (zlx (l.map Rte.id) k) ((l.drop k).map Rte.id)=zef none (l.map Rte.id)) ?_;rintro k ⟨hk,hg⟩;rcases Nat.lt_or_ge k l.length with hlt|hge
 ·rw[zae hlt]at hg
  obtain ⟨r1,r2,r3,r4⟩:=zgR (most:=most) hlt hg
  (repeat' first|refine zaa kO fun K hK=>?_|exact wt|refine wA ?_|(refine wB ?_ ?_<;>intro h<;>first|exact wN h|subst (h:(_:Bool)=_)|skip)|(refine wQ ?_;clear hQ hR hE hM)|(refine zak hM (hI.rte _) ?_;try (refine wD ?_;try exact wt))|fail)
  ·rw[rise,r1 (by assumption)];rfl
  ·rw[rise,r2 (by assumption)];rfl
  ·rw[rise,r3 (by assumption) h];rfl
  ·exact ⟨k+1,by omega,⟨by omega,r4 (by assumption) (by assumption) fun _=>h⟩,(by (try dsimp only);(first|omega|(simp;done)|(simp;omega)))⟩
  ·exact ⟨k+1,by omega,⟨by omega,r4 (by assumption) (by assumption) fun h'=>absurd h' (by assumption)⟩,(by (try dsimp only);(first|omega|(simp;done)|(simp;omega)))⟩
 ·rw[List.drop_eq_nil_of_le hge]at hg
  (repeat' first|refine zaa kO fun K hK=>?_|exact wt|refine wA ?_|(refine wB ?_ ?_<;>intro h<;>first|exact wN h|subst (h:(_:Bool)=_)|skip)|(refine wQ ?_;clear hQ hR hE hM)|fail)
  rw[rise,<-hg];simp[zef]
end Go.Lev
namespace Go.Eng
structure AskR where
 pnt:Int
 lie:Int
 pos:Int
 deriving DecidableEq,Inhabited
def AskR.c (x:AskR):List AV:=[.n x.pnt,.n x.lie,.n x.pos]
structure Way where
 path:List Int
 over:List Int
 asks:List AskR
 near:Int
 deriving DecidableEq,Inhabited
def Way.c (x:Way):List AV:=[.sl 1 (x.path.map zaJ),.sl 1 (x.over.map zaJ),.sl 3 (x.asks.map AskR.c),.n x.near]
structure Shw where
 sgn:Int
 asp:Int
 deriving DecidableEq,Inhabited
def Shw.c (x:Shw):List AV:=[.n x.sgn,.i .u8 x.asp]
instance:Cells AskR.c 3:=⟨fun _=>rfl,fun _=>rfl⟩
instance:Cells Way.c 4:=⟨fun _=>rfl,fun _=>rfl⟩
instance:Cells Shw.c 2:=⟨fun _=>rfl,fun _=>rfl⟩
attribute [go_sem] AskR.c Way.c Shw.c
open Go.RowKit
mutual
/-- Names moved. -/
def shV (b:Nat):AV->AV
 |.agg cs=>.agg (shL b cs)
 |.tup cs=>.tup (shL b cs)
 |.fn j cs=>.fn j (shL b cs)
 |.ptr l ver off=>.ptr (l+b) ver off
 |.sm l ver off n sz=>.sm (l+b) ver off n sz
 |.mp l=>.mp (l+b)
 |.i k n=>.i k n
 |.b t=>.b t
 |.v x=>.v x
 |.u=>.u
 |.s0 sz=>.s0 sz
 |.sl sz es=>.sl sz es
 |.ip sz es i k=>.ip sz es i k
 |.top=>.top
def shL (b:Nat):List AV->List AV
 |[]=>[]
 |x::xs=>shV b x::shL b xs
end
def shO (b:Nat):AO->AO
 |.cells cs r=>.cells (shL b cs) r
 |.imap kvs=>.imap kvs
 |.rsv=>.rsv
def shS (b:Nat):List (Nat×AO)->List (Nat×AO)
 |[]=>[]
 |(l,o)::r=>(l+b,shO b o)::shS b r
def zg9:List (Nat×AO)->List (Nat×AO)->List (Nat×AO)
 |[],τ=>τ
 |(l,o)::r,τ=>(l,o)::zg9 r τ
theorem zdc (b:Nat):∀ xs:List AV,(shL b xs).length=xs.length
 |[]=>rfl
 |x::xs=>by simp[shL,zdc b xs]
theorem ze3 (b:Nat) (o:AO):(shO b o).real=o.real:=by cases o<;>rfl
theorem zhY (b:Nat):∀ (σ:AS) (l:Nat),l<b->zah (shS b σ) l=none
 |[],l,_=>rfl
 |(k,o)::r,l,h=>by simp only[shS,zah,if_neg (show ¬l=k+b by omega),zhY b r l h]
theorem zj9 (b:Nat):∀ (σ:AS) (l:Nat),zah (shS b σ) (l+b)=(zah σ l).map (shO b)
 |[],l=>rfl
 |(k,o)::r,l=>by
  simp only[shS,zah,zj9 b r l];by_cases h:l=k
  ·subst h;simp
  ·rw[if_neg (by omega),if_neg h]
theorem zhZ (τ:AS):∀ (σ:AS) (l:Nat),zah (zg9 σ τ) l=match zah σ l with|some o=>some o|none=>zah τ l
 |[],l=>rfl
 |(k,o)::r,l=>by
  simp only[zg9,zah];split
  ·rfl
  ·exact zhZ τ r l
theorem za3 {c c':Ctx} (hle:c.Le c') {x:AV} {y:Value} (hu:x.under 0=true) (r:rel c x y):rel c' x y :=
 zeh (N:=0) hle x y (.inl ⟨fun l hl=>absurd hl (Nat.not_lt_zero _),hu⟩) r
mutual
theorem zqB {c c':Ctx} (hle:c.Le c') (b:Nat) (hS:∀ l,c'.S (l+b)=c.S l):∀ (x:AV) (y:Value),rel c x y->rel c' (shV b x) y
 |.agg cs,y,r=>by
  simp only[rel,shV]at r |-
  obtain ⟨xs,e,r⟩:=r;exact ⟨xs,e,zkj hle b hS cs _ r⟩
 |.tup cs,y,r=>by
  simp only[rel,shV]at r |-
  obtain ⟨xs,e,r⟩:=r;exact ⟨xs,e,zmM hle b hS cs _ r⟩
 |.fn j cs,y,r=>by
  simp only[rel,shV]at r |-
  obtain ⟨g,xs,e,hi,r⟩:=r;exact ⟨g,xs,e,by rw[hle.inv];exact hi,zmM hle b hS cs _ r⟩
 |.ptr l ver off,y,r=>by
  simp only[rel,shV]at r |-
  rw[hS];exact r
 |.sm l ver off n sz,y,r=>by
  simp only[rel,shV]at r |-
  rw[hS];exact r
 |.mp l,y,r=>by
  simp only[rel,shV]at r |-
  rw[hS];exact r
 |.i k n,y,r=>by simp only[shV];exact za3 hle rfl r
 |.b t,y,r=>by simp only[shV];exact za3 hle rfl r
 |.v x,y,r=>by simp only[shV];exact za3 hle rfl r
 |.u,y,r=>by simp only[shV];exact za3 hle rfl r
 |.s0 sz,y,r=>by simp only[shV];exact za3 hle rfl r
 |.sl sz es,y,r=>by simp only[shV];exact za3 hle rfl r
 |.ip sz es i k,y,r=>by simp only[shV];exact za3 hle rfl r
 |.top,y,r=>by simp only[shV,rel]
theorem zmM {c c':Ctx} (hle:c.Le c') (b:Nat) (hS:∀ l,c'.S (l+b)=c.S l):∀ (xs:List AV) (ys:List Value),zcp c xs ys->zcp c' (shL b xs) ys
 |[],ys,r=>by simpa only[shL,zcp] using r
 |x::xs,ys,r=>by
  simp only[shL,zcp]at r |-
  obtain ⟨y,ys',e,r1,r2⟩:=r;exact ⟨y,ys',e,zqB hle b hS x y r1,zmM hle b hS xs ys' r2⟩
theorem zkj {c c':Ctx} (hle:c.Le c') (b:Nat) (hS:∀ l,c'.S (l+b)=c.S l):∀ (xs:List AV) (ys:List Value),relCs c xs ys->relCs c' (shL b xs) ys
 |[],ys,r=>by simpa only[shL,relCs] using r
 |x::xs,ys,r=>by
  simp only[shL,relCs]at r |-
  obtain ⟨y,ys',e,ho,r1,r2⟩:=r;exact ⟨y,ys',e,ho,zqB hle b hS x y r1,zkj hle b hS xs ys' r2⟩
end
section
variable {P:Program} {inv:Nat->Option Nat} {w0:World} {M:Nat->Prop} {n N:Nat} {φ:AF} {σ:AS} {β:Nat->Nat} {w:World}
theorem Mem.join {w':World} {σ':AS} {β':Nat->Nat} (hm:Mem inv w0 M σ β w) (hm':Mem inv w (avoid M σ β) σ' β' w') (b:Nat) (hb:zax σ<=b) :
  Mem inv w0 M (zg9 σ (shS b σ')) (fun l=>if l<b then β l else β' (l-b)) w'/\Ext b (ctx inv M σ β w) (ctx inv M (zg9 σ (shS b σ')) (fun l=>if l<b then β l else β' (l-b)) w') /\
   (∀ x y,rel (ctx inv (avoid M σ β) σ' β' w') x y->rel (ctx inv M (zg9 σ (shS b σ')) (fun l=>if l<b then β l else β' (l-b)) w') (shV b x) y):=by
 have hbel:=hm'.below;have lo:∀ l,l<b->zah (zg9 σ (shS b σ')) l=zah σ l:=fun l hl=>by
  rw[zhZ,zhY b σ' l hl];cases zah σ l<;>rfl
 have hi:∀ l,zah (zg9 σ (shS b σ')) (l+b)=(zah σ' l).map (shO b):=fun l=>by
  rw[zhZ,zjp (by omega),zj9]
 have cases_:∀ l,l<b\/∃ k,l=k+b:=fun l=>by
  rcases Nat.lt_or_ge l b with h|h
  ·exact .inl h
  ·exact .inr ⟨l-b,by omega⟩
 have pl_lo:∀ l,l<b->zai (fun l=>if l<b then β l else β' (l-b)) w' (zg9 σ (shS b σ')) l=zai β w σ l:=fun l hl=>by
  unfold zai;rw[lo l hl];cases e:zah σ l with
  |none=>rfl
  |some o =>
   cases o with
   |rsv=>rfl
   |imap kvs=>simp only[if_pos hl]
   |cells cs r =>
    cases r with
    |true=>simp only[if_pos hl];rw[zdD (hbel.block _ (hm.own l _ e rfl).2)]
    |false=>rfl
 have pl_hi:∀ l,zai (fun l=>if l<b then β l else β' (l-b)) w' (zg9 σ (shS b σ')) (l+b)=zai β' w' σ' l:=fun l=>by
  unfold zai;rw[hi l];have hnot:¬l+b<b:=by omega
  cases e:zah σ' l with
  |none=>rfl
  |some o =>
   cases o with
   |rsv=>rfl
   |imap kvs=>simp only[Option.map_some,shO,if_neg hnot,Nat.add_sub_cancel]
   |cells cs r =>
    cases r with
    |true=>simp only[Option.map_some,shO,if_neg hnot,Nat.add_sub_cancel,zdc]
    |false=>simp only[Option.map_some,shO,zdc]
 have av:∀ x,avoid M (zg9 σ (shS b σ')) (fun l=>if l<b then β l else β' (l-b)) x->avoid (avoid M σ β) σ' β' x:=by
  rintro x (h|⟨l,o,e,hr,hx⟩)
  ·exact .inl (.inl h)
  ·rcases cases_ l with hl|⟨k,rfl⟩
   ·rw[lo l hl]at e
    simp only[if_pos hl]at hx;exact .inl (.inr ⟨l,o,e,hr,hx⟩)
   ·rw[hi k]at e
    obtain ⟨o',e',rfl⟩:=Option.map_eq_some_iff.1 e;simp only[if_neg (show ¬k+b<b by omega),Nat.add_sub_cancel]at hx
    exact .inr ⟨k,o',e',by rw[ze3]at hr;exact hr,hx⟩
 have hext:Ext b (ctx inv M σ β w) (ctx inv M (zg9 σ (shS b σ')) (fun l=>if l<b then β l else β' (l-b)) w'):=by
  refine ⟨⟨rfl,hbel.size,fun x hlt _=>hbel.block x hlt,fun x hlt hx=>?_⟩,fun l hl p' hp'=>?_⟩
  ·rcases av x hx with h|⟨k,o,e,hr,hx⟩
   ·exact h
   ·have h1:=(hm'.own k o e hr).1
    have hlt:x<w.heap.size:=hlt;omega
  ·have hp':zai (fun l=>if l<b then β l else β' (l-b)) w' (zg9 σ (shS b σ')) l=some p':=hp'
   rw[pl_lo l hl]at hp';exact ⟨p',hp',Nat.le_refl _,fun _=>rfl⟩
 have hle:(ctx inv (avoid M σ β) σ' β' w').Le (ctx inv M (zg9 σ (shS b σ')) (fun l=>if l<b then β l else β' (l-b)) w') :=
  ⟨rfl,Nat.le_refl _,fun _ _ _=>rfl,fun x _ hx=>av x hx⟩
 have hsh:∀ x y,rel (ctx inv (avoid M σ β) σ' β' w') x y->rel (ctx inv M (zg9 σ (shS b σ')) (fun l=>if l<b then β l else β' (l-b)) w') (shV b x) y:=zqB hle b pl_hi
 refine ⟨⟨hm.below.trans (hbel.mono hm.below.size),fun l l' o o' e e' hr hr' hbb=>?_,fun l o e hr=>?_,fun l cs e=>?_,fun l cs e=>?_,fun l kvs e=>?_⟩,hext,hsh⟩
 ·rcases cases_ l with hl|⟨k,rfl⟩<;>rcases cases_ l' with hl'|⟨k',rfl⟩
  ·rw[lo l hl]at e;rw[lo l' hl']at e'
   simp only[if_pos hl,if_pos hl']at hbb;exact hm.inj l l' o o' e e' hr hr' hbb
  ·rw[lo l hl]at e;rw[hi k']at e'
   obtain ⟨o2,e2,rfl⟩:=Option.map_eq_some_iff.1 e';simp only[if_pos hl,if_neg (show ¬k'+b<b by omega),Nat.add_sub_cancel]at hbb
   have h1:=(hm.own l o e hr).2;have h2:=(hm'.own k' o2 e2 (by rw[ze3]at hr';exact hr')).1
   omega
  ·rw[hi k]at e;rw[lo l' hl']at e'
   obtain ⟨o2,e2,rfl⟩:=Option.map_eq_some_iff.1 e;simp only[if_pos hl',if_neg (show ¬k+b<b by omega),Nat.add_sub_cancel]at hbb
   have h1:=(hm.own l' o' e' hr').2;have h2:=(hm'.own k o2 e2 (by rw[ze3]at hr;exact hr)).1
   omega
  ·rw[hi k]at e;rw[hi k']at e'
   obtain ⟨o2,e2,rfl⟩:=Option.map_eq_some_iff.1 e;obtain ⟨o3,e3,rfl⟩:=Option.map_eq_some_iff.1 e';simp only[if_neg (show ¬k+b<b by omega),if_neg (show ¬k'+b<b by omega),Nat.add_sub_cancel]at hbb
   rw[hm'.inj k k' o2 o3 e2 e3 (by rw[ze3]at hr;exact hr) (by rw[ze3]at hr';exact hr') hbb]
 ·rcases cases_ l with hl|⟨k,rfl⟩
  ·rw[lo l hl]at e
   simp only[if_pos hl];have:=hm.own l o e hr;exact ⟨this.1,Nat.lt_of_lt_of_le this.2 hbel.size⟩
  ·rw[hi k]at e
   obtain ⟨o2,e2,rfl⟩:=Option.map_eq_some_iff.1 e;simp only[if_neg (show ¬k+b<b by omega),Nat.add_sub_cancel]
   have:=hm'.own k o2 e2 (by rw[ze3]at hr;exact hr)
   exact ⟨Nat.le_trans hm.below.size this.1,this.2⟩
 ·rcases cases_ l with hl|⟨k,rfl⟩
  ·rw[lo l hl]at e
   simp only[if_pos hl];obtain ⟨xs,ty,e1,e2,e3⟩:=hm.cells l cs e;refine ⟨xs,ty,(hbel.block _ (hm.own l _ e rfl).2).trans e1,e2,hext.relCs (zaA cs ?_) e3⟩;have:=(zau σ l _ e).2;exact Nat.le_trans this hb
  ·rw[hi k]at e
   obtain ⟨o2,e2,e3⟩:=Option.map_eq_some_iff.1 e;cases o2 with
   |cells cs2 r2 =>
    simp only[shO,AO.cells.injEq]at e3;obtain ⟨rfl,rfl⟩:=e3;simp only[if_neg (show ¬k+b<b by omega),Nat.add_sub_cancel]
    obtain ⟨xs,ty,k1,k2,k3⟩:=hm'.cells k cs2 e2;exact ⟨xs,ty,k1,by rw[zdc];exact k2,by rw[zdc];exact zkj hle b pl_hi cs2 _ k3⟩
   |imap kvs=>simp[shO]at e3
   |rsv=>simp[shO]at e3
 ·rcases cases_ l with hl|⟨k,rfl⟩
  ·rw[lo l hl]at e
   exact hm.ghost l cs e
  ·rw[hi k]at e
   obtain ⟨o2,e2,e3⟩:=Option.map_eq_some_iff.1 e;cases o2 with
   |cells cs2 r2 =>
    simp only[shO,AO.cells.injEq]at e3;obtain ⟨rfl,rfl⟩:=e3;rw[hm'.ghost k cs2 e2];rfl
   |imap kvs=>simp[shO]at e3
   |rsv=>simp[shO]at e3
 ·rcases cases_ l with hl|⟨k,rfl⟩
  ·rw[lo l hl]at e
   simp only[if_pos hl];obtain ⟨es,clk,e1,e2⟩:=hm.maps l kvs e;have hlt:β l<w.heap.size:=(hm.own l _ e rfl).2;exact ⟨es,clk,(hbel.block _ hlt).trans e1,e2⟩
  ·rw[hi k]at e
   obtain ⟨o2,e2,e3⟩:=Option.map_eq_some_iff.1 e;cases o2 with
   |imap kvs2 =>
    simp only[shO,AO.imap.injEq]at e3;subst e3;simp only[if_neg (show ¬k+b<b by omega),Nat.add_sub_cancel]
    exact hm'.maps k kvs2 e2
   |cells cs2 r2=>simp[shO]at e3
   |rsv=>simp[shO]at e3
def PO (P:Program) (inv:Nat->Option Nat) (j:Nat) (args:List AV) (r:AV) (σ0:AS):Prop :=
 ∀ (w0:World) (M:Nat->Prop),(∀ b,M b->b<w0.heap.size)->AC P inv w0 M 0 j args [] fun r' σ'=>r'=r/\σ'=σ0
theorem Mem.none (w:World):Mem inv w M [] (fun _=>0) w:=⟨.refl _ _,by intro l l' o o' e;simp[zah]at e,by intro l o e;simp[zah]at e,by intro l cs e;simp[zah]at e,by intro l cs e;simp[zah]at e,by intro l kvs e;simp[zah]at e⟩
theorem PO.callK (hM:∀ b,M b->b<w0.heap.size) {j:Nat} {args:List AV} {r:AV} {σ0:AS} (h:PO P inv j args r σ0) {K:AV->AS->Prop} (hk:K (shV (zaw N φ σ) r) (zg9 σ (shS (zaw N φ σ) σ0))):CallK P inv w0 M N φ σ j args K:=by
 obtain ⟨f1,f2,f3⟩:=zbw N φ σ;refine ⟨zaw N φ σ,f1,f2,fun g hg β w vs hm ha=>?_⟩
 have hle:(ctx inv M σ β w).Le (ctx inv (avoid M σ β) [] (fun _=>0) w):=⟨rfl,Nat.le_refl _,fun _ _ _=>rfl,fun b _ hb=>by
  rcases hb with hb|⟨l,o,e,_⟩
  ·exact hb
  ·simp[zah]at e⟩
 have hS:(ctx inv (avoid M σ β) [] (fun _=>0) w).S=fun _=>Option.none:=by funext l;simp[ctx,zai,zah]
 refine (h w (avoid M σ β) (zk4 hm hM) g hg (fun _=>0) w vs (Mem.none w) (zco (N:=0) hle _ _ (.inr hS) ha)).mono ?_
 rintro e w' ⟨v,r',σ',β',rfl,⟨rfl,rfl⟩,hm',_,hr⟩;obtain ⟨j1,j2,j3⟩:=hm.join hm' (zaw N φ σ) f3;exact ⟨v,_,_,_,rfl,hk,j1,j2,j3 _ _ hr⟩
end
section
variable {P:Program} {inv:Nat->Option Nat} {w0:World} {M:Nat->Prop} {n N:Nat} {φ:AF} {σ:AS} {β:Nat->Nat} {a:Act} {w:World}
theorem Mem.empty (hm:Mem inv w0 M σ β w) {l:Nat} (hl:zax σ<=l):Mem inv w0 M (sput σ l (.cells [] false)) β w/\∀ K,K<=l->Ext K (ctx inv M σ β w) (ctx inv M (sput σ l (.cells [] false)) β w):=by
 have hg:∀ k,k≠l->zah (sput σ l (.cells [] false)) k=zah σ k:=fun k hk=>by rw[zag,if_neg hk]
 have hgl:zah (sput σ l (.cells [] false)) l=some (.cells [] false):=by rw[zag,if_pos rfl]
 have hreal:∀ k o,zah (sput σ l (.cells [] false)) k=some o->o.real=true->zah σ k=some o:=by
  intro k o e hr;by_cases hk:k=l
  ·subst hk;rw[hgl]at e;cases e;cases hr
  ·rw[hg k hk]at e;exact e
 have hav:∀ b,avoid M (sput σ l (.cells [] false)) β b->avoid M σ β b:=by
  rintro b (h|⟨k,o,e,hr,hb⟩)
  ·exact .inl h
  ·exact .inr ⟨k,o,hreal k o e hr,hr,hb⟩
 have hx:∀ K,K<=l->Ext K (ctx inv M σ β w) (ctx inv M (sput σ l (.cells [] false)) β w):=fun K hK =>
  ⟨⟨rfl,Nat.le_refl _,fun _ _ _=>rfl,fun b _ h=>hav b h⟩,fun k hk p' hp'=>⟨p',by
   have hp':zai β w (sput σ l (.cells [] false)) k=some p':=hp';show zai β w σ k=some p'
   unfold zai at hp' |-
   rw[hg k (by omega)]at hp'
   exact hp',Nat.le_refl _,fun _=>rfl⟩⟩
 refine ⟨⟨hm.below,fun k k' o o' e e' hr hr' hb=>hm.inj k k' o o' (hreal k o e hr) (hreal k' o' e' hr') hr hr' hb,fun k o e hr=>hm.own k o (hreal k o e hr) hr,fun k cs e=>?_,fun k cs e=>?_,fun k kvs e=>?_⟩,hx⟩
 ·obtain ⟨xs,ty,e1,e2,e3⟩:=hm.cells k cs (hreal k _ e rfl)
  have hb:=(zau σ k _ (hreal k _ e rfl)).2;exact ⟨xs,ty,e1,e2,(hx l (Nat.le_refl _)).relCs (zaA cs (Nat.le_trans hb hl)) e3⟩
 ·by_cases hk:k=l
  ·subst hk;rw[hgl]at e;cases e;rfl
  ·rw[hg k hk]at e;exact hm.ghost k cs e
 ·exact hm.maps k kvs (hreal k _ e rfl)
theorem zia {l sz:Nat} {x:Value} (h:rel (ctx inv M σ β w) (.s0 sz) x):rel (ctx inv M (sput σ l (.cells [] false)) β w) (.sm l 0 0 0 sz) x:=by
 simp only[rel]at h |-
 obtain ⟨ad,rfl⟩:=h;refine ⟨rfl,fun p hp=>?_⟩
 have hp:zai β w (sput σ l (.cells [] false)) l=some p:=hp;unfold zai at hp;rw[zag,if_pos rfl]at hp;simp only[Option.some.injEq]at hp;subst hp;exact ⟨Nat.le_refl _,fun _=>⟨by simp,ad,0,rfl,Nat.le_refl _,by simp⟩⟩
theorem AWp.empty {c:ACode} {Q:Exit->AF->AS->Prop} (t l sz:Nat) (ht:zbl φ t=.s0 sz) (h1:N<=l) (h2:zaM φ<=l) (h3:zax σ<=l)
  (h:AWp P inv w0 M N n c Q (zbq φ t (.sm l 0 0 0 sz)) (sput σ l (.cells [] false))):AWp P inv w0 M N n c Q φ σ:=by
 intro c₀ hc β a w hs;obtain ⟨hm,hx⟩:=hs.mem.empty h3;refine Code.wp_mono ?_ (h c₀ hc β a w ⟨⟨fun i=>?_,hm⟩,hs.size,hs.defers⟩)
 ·rintro e a' w' ⟨φ2,σ2,β2,q2,hst2,hext2⟩
  exact ⟨φ2,σ2,β2,q2,hst2,(hx N h1).trans hext2⟩
 ·rw[zba]
  split
  ·rename_i e
   subst e;have:=hs.slots i;rw[ht]at this;exact zia this
  ·exact (hx l (Nat.le_refl _)).rel (zaK _ (Nat.le_trans (zbO φ i) h2)) (hs.slots i)
mutual
def rnV (f:Nat->Nat):AV->AV
 |.agg cs=>.agg (rnL f cs)
 |.tup cs=>.tup (rnL f cs)
 |.fn j cs=>.fn j (rnL f cs)
 |.ptr l ver off=>.ptr (f l) ver off
 |.sm l ver off n sz=>.sm (f l) ver off n sz
 |.mp l=>.mp (f l)
 |.i k n=>.i k n
 |.b t=>.b t
 |.v x=>.v x
 |.u=>.u
 |.s0 sz=>.s0 sz
 |.sl sz es=>.sl sz es
 |.ip sz es i k=>.ip sz es i k
 |.top=>.top
def rnL (f:Nat->Nat):List AV->List AV
 |[]=>[]
 |x::xs=>rnV f x::rnL f xs
end
def rnO (f:Nat->Nat):AO->AO
 |.cells cs r=>.cells (rnL f cs) r
 |.imap kvs=>.imap kvs
 |.rsv=>.rsv
def rnS (f:Nat->Nat):List (Nat×AO)->List (Nat×AO)
 |[]=>[]
 |(l,o)::r=>(f l,rnO f o)::rnS f r
def rnF (f:Nat->Nat):List (Nat×AV)->List (Nat×AV)
 |[]=>[]
 |(i,x)::r=>(i,rnV f x)::rnF f r
def swN (a b l:Nat):Nat:=if l=a then b else if l=b then a else l
theorem zj1 (a b l:Nat):swN a b (swN a b l)=l:=by unfold swN;grind
theorem ze5 (f:Nat->Nat):∀ xs:List AV,(rnL f xs).length=xs.length
 |[]=>rfl
 |x::xs=>by simp[rnL,ze5 f xs]
theorem zkf (f:Nat->Nat) (o:AO):(rnO f o).real=o.real:=by cases o<;>rfl
theorem zor (f:Nat->Nat):∀ (φ:AF) (i:Nat),zbl (rnF f φ) i=rnV f (zbl φ i)
 |[],i=>rfl
 |(j,x)::r,i=>by
  simp only[rnF,zbl];split
  ·rfl
  ·exact zor f r i
theorem zka {f:Nat->Nat} (hf:∀ l,f (f l)=l):∀ (σ:AS) (l:Nat),zah (rnS f σ) (f l)=(zah σ l).map (rnO f)
 |[],l=>rfl
 |(k,o)::r,l=>by
  simp only[rnS,zah,zka hf r l];by_cases h:l=k
  ·subst h;simp
  ·rw[if_neg (fun e=>h (by rw[<-hf l,e,hf])),if_neg h]
mutual
theorem zqC {c c':Ctx} (hle:c.Le c') (f:Nat->Nat) (hS:∀ l,c'.S (f l)=c.S l):∀ (x:AV) (y:Value),rel c x y->rel c' (rnV f x) y
 |.agg cs,y,r=>by
  simp only[rel,rnV]at r |-
  obtain ⟨xs,e,r⟩:=r;exact ⟨xs,e,zkk hle f hS cs _ r⟩
 |.tup cs,y,r=>by
  simp only[rel,rnV]at r |-
  obtain ⟨xs,e,r⟩:=r;exact ⟨xs,e,zmN hle f hS cs _ r⟩
 |.fn j cs,y,r=>by
  simp only[rel,rnV]at r |-
  obtain ⟨g,xs,e,hi,r⟩:=r;exact ⟨g,xs,e,by rw[hle.inv];exact hi,zmN hle f hS cs _ r⟩
 |.ptr l ver off,y,r=>by
  simp only[rel,rnV]at r |-
  rw[hS];exact r
 |.sm l ver off n sz,y,r=>by
  simp only[rel,rnV]at r |-
  rw[hS];exact r
 |.mp l,y,r=>by
  simp only[rel,rnV]at r |-
  rw[hS];exact r
 |.i k n,y,r=>by simp only[rnV];exact za3 hle rfl r
 |.b t,y,r=>by simp only[rnV];exact za3 hle rfl r
 |.v x,y,r=>by simp only[rnV];exact za3 hle rfl r
 |.u,y,r=>by simp only[rnV];exact za3 hle rfl r
 |.s0 sz,y,r=>by simp only[rnV];exact za3 hle rfl r
 |.sl sz es,y,r=>by simp only[rnV];exact za3 hle rfl r
 |.ip sz es i k,y,r=>by simp only[rnV];exact za3 hle rfl r
 |.top,y,r=>by simp only[rnV,rel]
theorem zmN {c c':Ctx} (hle:c.Le c') (f:Nat->Nat) (hS:∀ l,c'.S (f l)=c.S l):∀ (xs:List AV) (ys:List Value),zcp c xs ys->zcp c' (rnL f xs) ys
 |[],ys,r=>by simpa only[rnL,zcp] using r
 |x::xs,ys,r=>by
  simp only[rnL,zcp]at r |-
  obtain ⟨y,ys',e,r1,r2⟩:=r;exact ⟨y,ys',e,zqC hle f hS x y r1,zmN hle f hS xs ys' r2⟩
theorem zkk {c c':Ctx} (hle:c.Le c') (f:Nat->Nat) (hS:∀ l,c'.S (f l)=c.S l):∀ (xs:List AV) (ys:List Value),relCs c xs ys->relCs c' (rnL f xs) ys
 |[],ys,r=>by simpa only[rnL,relCs] using r
 |x::xs,ys,r=>by
  simp only[rnL,relCs]at r |-
  obtain ⟨y,ys',e,ho,r1,r2⟩:=r;exact ⟨y,ys',e,ho,zqC hle f hS x y r1,zkk hle f hS xs ys' r2⟩
end
theorem Mem.rename {f:Nat->Nat} (hf:∀ l,f (f l)=l) (hm:Mem inv w0 M σ β w):Mem inv w0 M (rnS f σ) (fun l=>β (f l)) w/\(∀ K,(∀ l,l<K->f l=l)->Ext K (ctx inv M σ β w) (ctx inv M (rnS f σ) (fun l=>β (f l)) w)) /\
  ∀ x y,rel (ctx inv M σ β w) x y->rel (ctx inv M (rnS f σ) (fun l=>β (f l)) w) (rnV f x) y:=by
 have hg:=zka hf σ;have hg':∀ l,zah (rnS f σ) l=(zah σ (f l)).map (rnO f):=fun l=>by rw[<-hg (f l),hf]
 have hpl:∀ l,zai (fun l=>β (f l)) w (rnS f σ) (f l)=zai β w σ l:=fun l=>by
  unfold zai;rw[hg l];cases e:zah σ l with
  |none=>rfl
  |some o =>
   cases o with
   |rsv=>rfl
   |imap kvs=>simp only[Option.map_some,rnO,hf]
   |cells cs r=>cases r<;>simp only[Option.map_some,rnO,hf,ze5]
 have hback:∀ l o,zah (rnS f σ) l=some o->∃ o',zah σ (f l)=some o'/\o=rnO f o':=fun l o e=>by
  rw[hg' l]at e;obtain ⟨o',e',rfl⟩:=Option.map_eq_some_iff.1 e;exact ⟨o',e',rfl⟩
 have hav:∀ b,avoid M (rnS f σ) (fun l=>β (f l)) b->avoid M σ β b:=by
  rintro b (h|⟨k,o,e,hr,hb⟩)
  ·exact .inl h
  ·obtain ⟨o',e',rfl⟩:=hback k o e
   exact .inr ⟨f k,o',e',by rw[zkf]at hr;exact hr,hb⟩
 have hle:(ctx inv M σ β w).Le (ctx inv M (rnS f σ) (fun l=>β (f l)) w):=⟨rfl,Nat.le_refl _,fun _ _ _=>rfl,fun b _ h=>hav b h⟩
 refine ⟨⟨hm.below,fun k k' o o' e e' hr hr' hb=>?_,fun k o e hr=>?_,fun k cs e=>?_,fun k cs e=>?_,fun k kvs e=>?_⟩,fun K hK=>⟨hle,fun l hl p' hp'=>?_⟩,zqC hle f hpl⟩
 ·obtain ⟨o1,e1,rfl⟩:=hback k o e
  obtain ⟨o2,e2,rfl⟩:=hback k' o' e';rw[zkf]at hr hr';have:=hm.inj _ _ _ _ e1 e2 hr hr' hb;rw[<-hf k,this,hf]
 ·obtain ⟨o1,e1,rfl⟩:=hback k o e
  rw[zkf]at hr;exact hm.own _ _ e1 hr
 ·obtain ⟨o1,e1,e2⟩:=hback k _ e
  cases o1 with
  |cells cs1 r1 =>
   simp only[rnO,AO.cells.injEq]at e2;obtain ⟨rfl,rfl⟩:=e2;obtain ⟨xs,ty,k1,k2,k3⟩:=hm.cells _ cs1 e1;exact ⟨xs,ty,k1,by rw[ze5];exact k2,by rw[ze5];exact zkk hle f hpl cs1 _ k3⟩
  |imap kvs=>simp[rnO]at e2
  |rsv=>simp[rnO]at e2
 ·obtain ⟨o1,e1,e2⟩:=hback k _ e
  cases o1 with
  |cells cs1 r1 =>
   simp only[rnO,AO.cells.injEq]at e2;obtain ⟨rfl,rfl⟩:=e2;rw[hm.ghost _ cs1 e1];rfl
  |imap kvs=>simp[rnO]at e2
  |rsv=>simp[rnO]at e2
 ·obtain ⟨o1,e1,e2⟩:=hback k _ e
  cases o1 with
  |imap kvs1 =>
   simp only[rnO,AO.imap.injEq]at e2;subst e2;exact hm.maps _ kvs e1
  |cells cs1 r1=>simp[rnO]at e2
  |rsv=>simp[rnO]at e2
 ·have hp':zai (fun l=>β (f l)) w (rnS f σ) l=some p':=hp'
  have:zai (fun l=>β (f l)) w (rnS f σ) l=zai β w σ l:=by rw[<-hpl l,hK l hl]
  refine ⟨p', ?_,Nat.le_refl _,fun _=>rfl⟩
  show zai β w σ l=some p'
  rw[<-this];exact hp'
def swF:List (Nat×Nat)->List (Nat×AV)->List (Nat×AV)
 |[],φ=>φ
 |(a,b)::r,φ=>swF r (rnF (swN a b) φ)
def swS:List (Nat×Nat)->List (Nat×AO)->List (Nat×AO)
 |[],σ=>σ
 |(a,b)::r,σ=>swS r (rnS (swN a b) σ)
def swOk (N:Nat):List (Nat×Nat)->Prop
 |[]=>True
 |(a,b)::r=>(N<=a/\N<=b)/\swOk N r
theorem St.swap (N:Nat):∀ (sw:List (Nat×Nat)) {φ:AF} {σ:AS} {β:Nat->Nat},swOk N sw->St inv w0 M n φ σ β a w->∃ β',St inv w0 M n (swF sw φ) (swS sw σ) β' a w/\Ext N (ctx inv M σ β w) (ctx inv M (swS sw σ) β' w)
 |[],φ,σ,β,_,hs=>⟨β,hs,.refl _ _⟩
 |(x,y)::r,φ,σ,β,hok,hs=>by
  obtain ⟨h1,h2,h3⟩:=hs.mem.rename (zj1 x y);have hst:St inv w0 M n (rnF (swN x y) φ) (rnS (swN x y) σ) (fun l=>β (swN x y l)) a w:=⟨⟨fun i=>by rw[zor];exact h3 _ _ (hs.slots i),h1⟩,hs.size,hs.defers⟩
  obtain ⟨β',k1,k2⟩:=St.swap N r hok.2 hst;exact ⟨β',k1,(h2 N fun l hl=>by have:=hok.1;unfold swN;rw[if_neg (by omega),if_neg (by omega)]).trans k2⟩
def ends (N:Nat) (F:List (Nat×AV)) (S:List (Nat×AO)) (sw:List (Nat×Nat)) (φ:List (Nat×AV)) (σ:List (Nat×AO)):Prop:=swOk N sw/\ziG F (swF sw φ)/\zdG S (swS sw σ)
def lendR {ι:Type} (N:Nat) (F:ι->List (Nat×AV)) (S:ι->List (Nat×AO)) (Inv:ι->Prop) (μ:ι->Nat) (s:ι):List (Nat×AV)->List (Nat×AO)->Prop:=fun φ' σ'=>∃ s' sw,(μ s'<μ s/\Inv s')/\ends N (F s') (S s') sw φ' σ'
theorem zq9 {ι:Type} (N:Nat) (F:ι->List (Nat×AV)) (S:ι->List (Nat×AO)) (Inv:ι->Prop) (μ:ι->Nat) (s:ι) (φ':List (Nat×AV)) (σ':List (Nat×AO)):lendR N F S Inv μ s φ' σ'=∃ s' sw,(μ s'<μ s/\Inv s')/\ends N (F s') (S s') sw φ' σ':=rfl
attribute [go_sem] zq9
theorem zsw {ι:Type} {x:ACode} {Q:Exit->AF->AS->Prop} (F:ι->AF) (S:ι->AS) (Inv:ι->Prop) (μ:ι->Nat) (s0:ι) (hi:Inv s0) (h1:ziG (F s0) φ) (h2:zdG (S s0) σ)
  (hr:∀ s,Inv s->AWp P inv w0 M N n x (Then (lendR N F S Inv μ s) Q) (F s) (S s)):AWp P inv w0 M N n (.loop x) Q φ σ:=by
 intro c₀ hc β a w hs;obtain ⟨x₀,rfl,hx⟩:=zoc hc;obtain ⟨hs0,he0⟩:=hs.sub h1 h2 N;refine Code.wp_mono (fun _ _ _ h=>h) (wp_loop_ghost (fun m' a' w'=>∃ s β',m'=μ s/\Inv s/\St inv w0 M n (F s) (S s) β' a' w'/\Ext N (ctx inv M σ β w) (ctx inv M (S s) β' w')) (μ s0) ⟨s0,β,rfl,hi,hs0,he0⟩ ?_)
 rintro m1 a1 w1 ⟨s1,β1,rfl,hI1,hs1,he1⟩;refine Code.wp_mono ?_ (hr s1 hI1 x₀ hx β1 a1 w1 hs1);rintro e a2 w2 ⟨φ2,σ2,β2,q,hst,hext⟩;cases e with
 |normal =>
  obtain ⟨s',sw,⟨hlt,hI'⟩,hok,hf,hss⟩:=q;obtain ⟨β3,hst3,hext3⟩:=hst.swap N sw hok;obtain ⟨hst4,hext4⟩:=hst3.sub hf hss N;exact ⟨_,hlt,s',β3,rfl,hI',hst4,he1.trans (hext.trans (hext3.trans hext4))⟩
 |exit id=>exact ⟨φ2,σ2,β2,q,hst,he1.trans hext⟩
 |goto l=>exact ⟨φ2,σ2,β2,q,hst,he1.trans hext⟩
 |ret=>exact ⟨φ2,σ2,β2,q,hst,he1.trans hext⟩
 |panic ch=>exact ⟨φ2,σ2,β2,q,hst,he1.trans hext⟩
 |outgrown=>exact ⟨φ2,σ2,β2,q,hst,he1.trans hext⟩
theorem SLe_of {σ σ':AS} (h:zdG σ σ'):SLe σ σ':=fun l o e _=>zeb h l o e
theorem zsr {j:Nat} {F:AFn} (hF:Has P inv j F) {args:List AV} {r0:AV} {σ0:AS} (hl:args.length<=F.ntmps)
  (h:∀ (w0:World) (M:Nat->Prop) (Q:Exit->AF->AS->Prop),(∀ b,M b->b<w0.heap.size)->(∀ φ σ r,zeR φ σ F.res=some r->(r=r0/\zdG σ0 σ)\/(∃ sz,r=.s0 sz/\r0=.sm 0 0 0 0 sz/\σ0=[(0,.cells [] false)])->Q .ret φ σ)->(∀ φ σ,Q .ret φ σ->Q .normal φ σ)->AWp P inv w0 M 0 F.ntmps F.body Q (zoH 0 args) []):PO P inv j args r0 σ0:=by
 intro w0 M hM g hg β w vs hm ha;refine (AC.body hF hl (R:=fun r σ=>(r=r0/\zdG σ0 σ)\/(∃ sz,r=.s0 sz/\r0=.sm 0 0 0 0 sz/\σ0=[(0,.cells [] false)])) (h w0 M _ hM (fun φ σ r h1 h2=>⟨r,h1,h2⟩) fun _ _ h=>h) g hg β w vs hm ha).mono ?_
 rintro e w' ⟨v,r,σ',β',rfl,hR,hm',hx,hr⟩;rcases hR with ⟨rfl,hs⟩|⟨sz,rfl,rfl,rfl⟩
 ·have hd:=fun N=>hm'.drop (zeb hs) N
  exact ⟨v,r,σ0,β',rfl,⟨rfl,rfl⟩,(hd 0).1,hx.trans (hd 0).2,(hd r.bound).2.rel (zaK _ (Nat.le_refl _)) hr⟩
 ·have hd:=fun N=>hm'.drop (σ':=[]) (fun l o e=>by simp[zah]at e) N
  obtain ⟨g1,g2⟩:=(hd 0).1.empty (l:=0) (Nat.le_refl _);have hr0:=(hd 0).2.rel (zaK (AV.s0 sz) (Nat.le_refl _)) hr;exact ⟨v,_,[(0,.cells [] false)],β',rfl,⟨rfl,rfl⟩,g1,hx.trans ((hd 0).2.trans (g2 0 (Nat.le_refl _))),zia hr0⟩
end
mutual
theorem plain_sh (b:Nat):∀ x:AV,x.plain=true->shV b x=x
 |.agg cs,h=>by simp only[AV.plain]at h;simp only[shV,zim b cs h]
 |.i _ _,_=>rfl|.b _,_=>rfl|.v _,_=>rfl|.sl _ _,_=>rfl|.ip _ _ _ _,_=>rfl
 |.tup _,h=>by simp[AV.plain]at h
 |.u,h=>by simp[AV.plain]at h
 |.s0 _,h=>by simp[AV.plain]at h
 |.ptr _ _ _,h=>by simp[AV.plain]at h
 |.sm _ _ _ _ _,h=>by simp[AV.plain]at h
 |.fn _ _,h=>by simp[AV.plain]at h
 |.mp _,h=>by simp[AV.plain]at h
 |.top,h=>by simp[AV.plain]at h
theorem zim (b:Nat):∀ xs:List AV,zaO xs=true->shL b xs=xs
 |[],_=>rfl
 |x::xs,h=>by
  simp only[zaO,Bool.and_eq_true]at h;simp only[shL,plain_sh b x h.1,zim b xs h.2]
end
mutual
theorem plain_rn (f:Nat->Nat):∀ x:AV,x.plain=true->rnV f x=x
 |.agg cs,h=>by simp only[AV.plain]at h;simp only[rnV,zin f cs h]
 |.i _ _,_=>rfl|.b _,_=>rfl|.v _,_=>rfl|.sl _ _,_=>rfl|.ip _ _ _ _,_=>rfl
 |.tup _,h=>by simp[AV.plain]at h
 |.u,h=>by simp[AV.plain]at h
 |.s0 _,h=>by simp[AV.plain]at h
 |.ptr _ _ _,h=>by simp[AV.plain]at h
 |.sm _ _ _ _ _,h=>by simp[AV.plain]at h
 |.fn _ _,h=>by simp[AV.plain]at h
 |.mp _,h=>by simp[AV.plain]at h
 |.top,h=>by simp[AV.plain]at h
theorem zin (f:Nat->Nat):∀ xs:List AV,zaO xs=true->rnL f xs=xs
 |[],_=>rfl
 |x::xs,h=>by
  simp only[zaO,Bool.and_eq_true]at h;simp only[rnL,plain_rn f x h.1,zin f xs h.2]
end
section cells
variable {α:Type} {c:α->List AV} {sz:Nat} [h:Cells c sz]
include h
theorem znf (b:Nat) (l:List α):shL b (l.map c).flatten=(l.map c).flatten:=zim b _ (zcT l)
theorem zng (f:Nat->Nat) (l:List α):rnL f (l.map c).flatten=(l.map c).flatten:=zin f _ (zcT l)
theorem zc7 {l:List α} {k i:Nat} [Inhabited α] (hk:k<l.length) (hi:i<sz):(l.map c).flatten[k*sz+i]?=(c (nth l k))[i]?:=by
 have e:(l.map c).flatten[k*sz+i]?=((l.map c).flatten.drop (k*sz))[i]?:=by rw[List.getElem?_drop]
 rw[e,ziI l k (by omega),zae hk,List.map_cons,List.flatten_cons,List.getElem?_append_left (by rw[h.len];exact hi)]
theorem zcj {l:List α} {k:Nat} [Inhabited α] (hk:k<l.length) (hs:0<sz):zb2 (l.map c).flatten (k*sz) (some sz)=some (.agg (c (nth l k))):=by
 have hle:k*sz+sz<=(l.map c).flatten.length:=by
  rw[zbo];have:(k+1)*sz<=l.length*sz:=Nat.mul_le_mul_right _ hk;rw[Nat.add_mul,Nat.one_mul]at this;exact this
 show (if 0<sz/\k*sz+sz<=(l.map c).flatten.length then some (AV.agg (seg (l.map c).flatten (k*sz) sz)) else none)=_
 rw[if_pos ⟨hs,hle⟩,flat_seg l k hk,zay hk]
theorem zhC {l:List α} {k i:Nat} [Inhabited α] (hk:k<l.length) (hi:i<sz) (x:AV) (a:α) (ha:c a=(c (nth l k)).set i x):(l.map c).flatten.set (k*sz+i) x=((l.set k a).map c).flatten:=by
 induction l generalizing k with
 |nil=>simp at hk
 |cons y l ih =>
  cases k with
  |zero =>
   simp only[Nat.zero_mul,Nat.zero_add,List.map_cons,List.flatten_cons,List.set_cons_zero];rw[List.set_append_left _ _ (by rw[h.len];exact hi),ha]
   rfl
  |succ k =>
   simp only[List.map_cons,List.flatten_cons,List.set_cons_succ];rw[List.set_append_right _ _ (by rw[h.len,Nat.add_mul];omega),h.len,show (k+1)*sz+i-sz=k*sz+i by rw[Nat.add_mul];omega]
   rw[ih (by simpa using hk) (by simpa [nth] using ha)]
end cells
attribute [go_sem] znf zng Nat.zero_le
attribute [go_sem high] zcj
attribute [go_sem] shV shL shO shS zg9 rnV rnL rnO rnS rnF swN swF swS swOk zfp
theorem PO.fn {P:Program} {inv:Nat->Option Nat} (hH:HasAll P inv) {j:Nat} (F:AFn) {args:List AV} {r0:AV} {σ0:AS}
  (h:∀ (w0:World) (M:Nat->Prop) (Q:Exit->AF->AS->Prop),(∀ b,M b->b<w0.heap.size)->zcs P inv->(∀ φ σ r,zeR φ σ F.res=some r->(r=r0/\zdG σ0 σ)\/(∃ sz,r=.s0 sz/\r0=.sm 0 0 0 0 sz/\σ0=[(0,.cells [] false)])->Q .ret φ σ)->(∀ φ σ,Q .ret φ σ->Q .normal φ σ)->AWp P inv w0 M 0 F.ntmps F.body Q (zoH 0 args) []) (hF:code j=some F:=by rfl) (hl:args.length<=F.ntmps:=by exact Nat.le_of_ble_eq_true rfl):PO P inv j args r0 σ0 :=
 zsr (hH.has _ _ hF) hl fun w0 M Q hM hQ hR=>h w0 M Q hM hH.callable hQ hR
end Go.Eng
