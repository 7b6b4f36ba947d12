import Derived.Test.YtminippcikenfaaWWords
/- Short names for steps that the printed proofs take often: the step's own words are run as a default argument. -/
namespace Go.Proofs.Ytminippcikenfaa.Ab
open Go.RowKit Go.Proofs.YtminippcikenfaaW.PrintWords
theorem xb {p q : Prop} (h : p) (f : p → q := by intro hh_; (with_reducible repeat (first | refine blk_drewN ?_ _ | refine blk_drew ?_ | refine blk_alloc ?_ _)); exact hh_) : q := f h
theorem xf {a p q : Prop} (n : a) (h : p) (f : a → p → q := by intro nn_ hh_; (with_reducible repeat (first | refine blk_drewN ?_ _ | refine blk_drew ?_ | refine blk_alloc ?_ _)); refine blk_far ?_ nn_ _; (with_reducible repeat (first | refine blk_drewN ?_ _ | refine blk_drew ?_ | refine blk_alloc ?_ _)); exact hh_) : q := f n h
theorem xff {a b p q : Prop} (m : a) (n : b) (h : p) (f : a → b → p → q := by intro mm_ nn_ hh_; (with_reducible repeat (first | refine blk_drewN ?_ _ | refine blk_drew ?_ | refine blk_alloc ?_ _)); refine blk_far ?_ mm_ _; (with_reducible repeat (first | refine blk_drewN ?_ _ | refine blk_drew ?_ | refine blk_alloc ?_ _)); refine blk_far ?_ nn_ _; (with_reducible repeat (first | refine blk_drewN ?_ _ | refine blk_drew ?_ | refine blk_alloc ?_ _)); exact hh_) : q := f m n h
end Go.Proofs.Ytminippcikenfaa.Ab
